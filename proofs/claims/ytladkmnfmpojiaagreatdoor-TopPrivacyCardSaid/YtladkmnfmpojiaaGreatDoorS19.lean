/-
  The run, part 19.
-/
import Derived.Test.YtladkmnfmpojiaaGreatDoorS18
namespace Go.Proofs.YtladkmnfmpojiaaGreatDoor
namespace I
set_option maxRecDepth 1000000
set_option maxHeartbeats 0
noncomputable def s19 : {c : Cfg // c = runq tb 30000 s18.1} := ⟨_, by conv => { rhs; whnf }⟩
end I
end Go.Proofs.YtladkmnfmpojiaaGreatDoor
