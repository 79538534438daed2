/-
  The run, part 13.
-/
import Derived.Test.YtladkmnfmpojiaaGreatDoorS12
namespace Go.Proofs.YtladkmnfmpojiaaGreatDoor
namespace I
set_option maxRecDepth 1000000
set_option maxHeartbeats 0
noncomputable def s13 : {c : Cfg // c = runq tb 30000 s12.1} := ⟨_, by conv => { rhs; whnf }⟩
end I
end Go.Proofs.YtladkmnfmpojiaaGreatDoor
