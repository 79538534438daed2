/-
  The run, part 12.
-/
import Derived.Test.YtladkmnfmpojiaaGreatDoorS11
namespace Go.Proofs.YtladkmnfmpojiaaGreatDoor
namespace I
set_option maxRecDepth 1000000
set_option maxHeartbeats 0
noncomputable def s12 : {c : Cfg // c = runq tb 30000 s11.1} := ⟨_, by conv => { rhs; whnf }⟩
end I
end Go.Proofs.YtladkmnfmpojiaaGreatDoor
