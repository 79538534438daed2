/-
  The run, part 5.
-/
import Derived.Test.YtladkmnfmpojiaaGreatDoorS4
namespace Go.Proofs.YtladkmnfmpojiaaGreatDoor
namespace I
set_option maxRecDepth 1000000
set_option maxHeartbeats 0
noncomputable def s5 : {c : Cfg // c = runq tb 30000 s4.1} := ⟨_, by conv => { rhs; whnf }⟩
end I
end Go.Proofs.YtladkmnfmpojiaaGreatDoor
