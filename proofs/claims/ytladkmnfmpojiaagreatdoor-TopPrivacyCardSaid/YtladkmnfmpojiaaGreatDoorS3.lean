/-
  The run, part 3.
-/
import Derived.Test.YtladkmnfmpojiaaGreatDoorS2
namespace Go.Proofs.YtladkmnfmpojiaaGreatDoor
namespace I
set_option maxRecDepth 1000000
set_option maxHeartbeats 0
noncomputable def s3 : {c : Cfg // c = runq tb 30000 s2.1} := ⟨_, by conv => { rhs; whnf }⟩
end I
end Go.Proofs.YtladkmnfmpojiaaGreatDoor
