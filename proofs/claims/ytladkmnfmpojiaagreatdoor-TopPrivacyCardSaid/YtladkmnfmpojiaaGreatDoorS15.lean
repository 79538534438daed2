/-
  The run, part 15.
-/
import Derived.Test.YtladkmnfmpojiaaGreatDoorS14
namespace Go.Proofs.YtladkmnfmpojiaaGreatDoor
namespace I
set_option maxRecDepth 1000000
set_option maxHeartbeats 0
noncomputable def s15 : {c : Cfg // c = runq tb 30000 s14.1} := ⟨_, by conv => { rhs; whnf }⟩
end I
end Go.Proofs.YtladkmnfmpojiaaGreatDoor
