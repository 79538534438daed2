/-
  The run, part 1.
-/
import Derived.Test.YtladkmnfmpojiaaGreatDoorTb
namespace Go.Proofs.YtladkmnfmpojiaaGreatDoor
namespace I
set_option maxRecDepth 1000000
set_option maxHeartbeats 0
noncomputable def s1 : {c : Cfg // c = runq tb 30000 s0} := ⟨_, by conv => { rhs; whnf }⟩
end I
end Go.Proofs.YtladkmnfmpojiaaGreatDoor
