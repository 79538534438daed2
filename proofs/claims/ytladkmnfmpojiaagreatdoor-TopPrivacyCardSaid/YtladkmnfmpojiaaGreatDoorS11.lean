/-
  The run, part 11.
-/
import Derived.Test.YtladkmnfmpojiaaGreatDoorS10
namespace Go.Proofs.YtladkmnfmpojiaaGreatDoor
namespace I
set_option maxRecDepth 1000000
set_option maxHeartbeats 0
noncomputable def s11 : {c : Cfg // c = runq tb 30000 s10.1} := ⟨_, by conv => { rhs; whnf }⟩
end I
end Go.Proofs.YtladkmnfmpojiaaGreatDoor
