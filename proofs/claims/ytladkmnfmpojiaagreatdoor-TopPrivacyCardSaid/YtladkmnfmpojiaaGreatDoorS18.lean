/-
  The run, part 18.
-/
import Derived.Test.YtladkmnfmpojiaaGreatDoorS17
namespace Go.Proofs.YtladkmnfmpojiaaGreatDoor
namespace I
set_option maxRecDepth 1000000
set_option maxHeartbeats 0
noncomputable def s18 : {c : Cfg // c = runq tb 30000 s17.1} := ⟨_, by conv => { rhs; whnf }⟩
end I
end Go.Proofs.YtladkmnfmpojiaaGreatDoor
