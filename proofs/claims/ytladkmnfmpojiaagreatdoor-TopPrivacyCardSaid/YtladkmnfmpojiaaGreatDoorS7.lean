/-
  The run, part 7.
-/
import Derived.Test.YtladkmnfmpojiaaGreatDoorS6
namespace Go.Proofs.YtladkmnfmpojiaaGreatDoor
namespace I
set_option maxRecDepth 1000000
set_option maxHeartbeats 0
noncomputable def s7 : {c : Cfg // c = runq tb 30000 s6.1} := ⟨_, by conv => { rhs; whnf }⟩
end I
end Go.Proofs.YtladkmnfmpojiaaGreatDoor
