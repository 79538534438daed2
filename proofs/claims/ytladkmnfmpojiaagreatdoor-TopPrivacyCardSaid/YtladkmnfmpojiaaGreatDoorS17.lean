/-
  The run, part 17.
-/
import Derived.Test.YtladkmnfmpojiaaGreatDoorS16
namespace Go.Proofs.YtladkmnfmpojiaaGreatDoor
namespace I
set_option maxRecDepth 1000000
set_option maxHeartbeats 0
noncomputable def s17 : {c : Cfg // c = runq tb 30000 s16.1} := ⟨_, by conv => { rhs; whnf }⟩
end I
end Go.Proofs.YtladkmnfmpojiaaGreatDoor
