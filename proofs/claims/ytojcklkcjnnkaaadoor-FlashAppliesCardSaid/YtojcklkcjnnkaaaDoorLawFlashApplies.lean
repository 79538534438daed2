/-
  FlashApplies: from the readings of the arguments.
-/
import Derived.Test.YtojcklkcjnnkaaaDoorLawP
import Derived.Test.YtojcklkcjnnkaaaDoorOpen
namespace Go.Proofs.YtojcklkcjnnkaaaDoor
namespace V
theorem gi64 {x : Int} (h : GInt .i64 x) : I64 x := by
  have h1 : IntKind.i64.min = -9223372036854775808 := rfl
  have h2 : IntKind.i64.max = 9223372036854775807 := rfl
  unfold GInt at h
  rw [h1, h2] at h
  unfold I64
  omega
theorem applies_g (f : T_api_Flash) (w : T_api_Write) (n size : Int) (h : G_T_api_Write w) : wirelesslaw39_FlashApplies FF f w n size = some true := applies_go f w n size (gi64 h.2.2.1)
end V
end Go.Proofs.YtojcklkcjnnkaaaDoor
