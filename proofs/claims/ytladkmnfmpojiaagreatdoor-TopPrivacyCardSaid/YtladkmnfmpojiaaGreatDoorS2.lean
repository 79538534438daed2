/-
  The run, part 2.
-/
import Derived.Test.YtladkmnfmpojiaaGreatDoorS1
namespace Go.Proofs.YtladkmnfmpojiaaGreatDoor
namespace I
set_option maxRecDepth 1000000
set_option maxHeartbeats 0
noncomputable def s2 : {c : Cfg // c = runq tb 30000 s1.1} := ⟨_, by conv => { rhs; whnf }⟩
end I
end Go.Proofs.YtladkmnfmpojiaaGreatDoor
