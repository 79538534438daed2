/-
  FriendAsks: the plain law, from the facts on its arguments.
-/
import Derived.Test.YtphigebccfoppaaOpen
import Derived.Test.YtphigebccfoppaaLawA
namespace Go.Proofs.Ytphigebccfoppaa
namespace V
theorem gu16 {x : Int} (h : GInt .u16 x) : 0 ≤ x ∧ x < 65536 := by
  have h1 : IntKind.u16.min = 0 := rfl
  have h2 : IntKind.u16.max = 65535 := rfl
  unfold GInt at h
  rw [h1, h2] at h
  omega
theorem gops {l : List T_wirelesslaw51_Op} (h : GAll G_T_wirelesslaw51_Op l) : OOk l := fun o ho x hx => gu16 ((h.2 o ho).2.2.2.2.2.2.1.2 x hx)
theorem asks_top (l : List T_wirelesslaw51_Op) (h : OOk l) : wirelesslaw51_FriendAsks FF l = some true := asks_law l h
end V
end Go.Proofs.Ytphigebccfoppaa
