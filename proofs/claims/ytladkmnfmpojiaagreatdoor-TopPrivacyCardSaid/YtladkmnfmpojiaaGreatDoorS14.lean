/-
  The run, part 14.
-/
import Derived.Test.YtladkmnfmpojiaaGreatDoorS13
namespace Go.Proofs.YtladkmnfmpojiaaGreatDoor
namespace I
set_option maxRecDepth 1000000
set_option maxHeartbeats 0
noncomputable def s14 : {c : Cfg // c = runq tb 30000 s13.1} := ⟨_, by conv => { rhs; whnf }⟩
end I
end Go.Proofs.YtladkmnfmpojiaaGreatDoor
