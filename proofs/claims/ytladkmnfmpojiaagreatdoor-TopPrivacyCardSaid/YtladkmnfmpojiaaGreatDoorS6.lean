/-
  The run, part 6.
-/
import Derived.Test.YtladkmnfmpojiaaGreatDoorS5
namespace Go.Proofs.YtladkmnfmpojiaaGreatDoor
namespace I
set_option maxRecDepth 1000000
set_option maxHeartbeats 0
noncomputable def s6 : {c : Cfg // c = runq tb 30000 s5.1} := ⟨_, by conv => { rhs; whnf }⟩
end I
end Go.Proofs.YtladkmnfmpojiaaGreatDoor
