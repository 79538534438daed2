/-
  The run, part 20.
-/
import Derived.Test.YtladkmnfmpojiaaGreatDoorS19
namespace Go.Proofs.YtladkmnfmpojiaaGreatDoor
namespace I
set_option maxRecDepth 1000000
set_option maxHeartbeats 0
noncomputable def s20 : {c : Cfg // c = runq tb 30000 s19.1} := ⟨_, by conv => { rhs; whnf }⟩
end I
end Go.Proofs.YtladkmnfmpojiaaGreatDoor
