/-
  The run, part 8.
-/
import Derived.Test.YtladkmnfmpojiaaGreatDoorS7
namespace Go.Proofs.YtladkmnfmpojiaaGreatDoor
namespace I
set_option maxRecDepth 1000000
set_option maxHeartbeats 0
noncomputable def s8 : {c : Cfg // c = runq tb 30000 s7.1} := ⟨_, by conv => { rhs; whnf }⟩
end I
end Go.Proofs.YtladkmnfmpojiaaGreatDoor
