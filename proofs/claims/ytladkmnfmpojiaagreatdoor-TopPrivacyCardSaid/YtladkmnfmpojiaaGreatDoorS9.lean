/-
  The run, part 9.
-/
import Derived.Test.YtladkmnfmpojiaaGreatDoorS8
namespace Go.Proofs.YtladkmnfmpojiaaGreatDoor
namespace I
set_option maxRecDepth 1000000
set_option maxHeartbeats 0
noncomputable def s9 : {c : Cfg // c = runq tb 30000 s8.1} := ⟨_, by conv => { rhs; whnf }⟩
end I
end Go.Proofs.YtladkmnfmpojiaaGreatDoor
