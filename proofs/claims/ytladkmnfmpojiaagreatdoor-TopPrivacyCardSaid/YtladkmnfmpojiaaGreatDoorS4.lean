/-
  The run, part 4.
-/
import Derived.Test.YtladkmnfmpojiaaGreatDoorS3
namespace Go.Proofs.YtladkmnfmpojiaaGreatDoor
namespace I
set_option maxRecDepth 1000000
set_option maxHeartbeats 0
noncomputable def s4 : {c : Cfg // c = runq tb 30000 s3.1} := ⟨_, by conv => { rhs; whnf }⟩
end I
end Go.Proofs.YtladkmnfmpojiaaGreatDoor
