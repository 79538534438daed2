/-
  The run, part 16.
-/
import Derived.Test.YtladkmnfmpojiaaGreatDoorS15
namespace Go.Proofs.YtladkmnfmpojiaaGreatDoor
namespace I
set_option maxRecDepth 1000000
set_option maxHeartbeats 0
noncomputable def s16 : {c : Cfg // c = runq tb 30000 s15.1} := ⟨_, by conv => { rhs; whnf }⟩
end I
end Go.Proofs.YtladkmnfmpojiaaGreatDoor
