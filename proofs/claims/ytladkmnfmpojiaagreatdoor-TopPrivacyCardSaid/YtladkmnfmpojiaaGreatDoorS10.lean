/-
  The run, part 10.
-/
import Derived.Test.YtladkmnfmpojiaaGreatDoorS9
namespace Go.Proofs.YtladkmnfmpojiaaGreatDoor
namespace I
set_option maxRecDepth 1000000
set_option maxHeartbeats 0
noncomputable def s10 : {c : Cfg // c = runq tb 30000 s9.1} := ⟨_, by conv => { rhs; whnf }⟩
end I
end Go.Proofs.YtladkmnfmpojiaaGreatDoor
