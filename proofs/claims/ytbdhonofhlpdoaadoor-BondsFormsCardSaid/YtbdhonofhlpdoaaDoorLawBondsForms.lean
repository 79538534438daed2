/-
  BondsForms: from the readings of the arguments.
-/
import Derived.Test.YtbdhonofhlpdoaaDoorLawF
import Derived.Test.YtbdhonofhlpdoaaDoorOpen
namespace Go.Proofs.YtbdhonofhlpdoaaDoor
namespace V
theorem gu64 {x : Int} (h : GInt .u64 x) : U64 x := by
  have h1 : IntKind.u64.min = 0 := rfl
  have h2 : IntKind.u64.max = 18446744073709551615 := rfl
  unfold GInt at h
  rw [h1, h2] at h
  unfold U64
  omega
theorem gu16 {x : Int} (h : GInt .u16 x) : 0 ≤ x ∧ x < 65536 := by
  have h1 : IntKind.u16.min = 0 := rfl
  have h2 : IntKind.u16.max = 65535 := rfl
  unfold GInt at h
  rw [h1, h2] at h
  omega
theorem gbyte {x : Int} (h : GInt .u8 x) : Byte x := by
  have h1 : IntKind.u8.min = 0 := rfl
  have h2 : IntKind.u8.max = 255 := rfl
  unfold GInt at h
  rw [h1, h2] at h
  unfold Byte
  omega
theorem gbond {b : T_api_Bond} (h : G_T_api_Bond b) : RB b := by
  obtain ⟨⟨⟨_, h1⟩, h2⟩, h3, h4, _, h5, _, h6, _⟩ := h
  exact ⟨gu64 h1, gu64 h2, gu64 h3, gu64 h4, gu64 h5, fun s hs => gu16 (h6.2 s hs).1⟩
theorem gbytes {l : List Int} (h : GAll (GInt .u8) l) : ∀ x ∈ l, Byte x := fun x hx => gbyte (h.2 x hx)
end V
end Go.Proofs.YtbdhonofhlpdoaaDoor
