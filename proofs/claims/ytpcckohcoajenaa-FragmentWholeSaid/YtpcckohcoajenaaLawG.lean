/-
  What the facts on arguments say.
-/
import Derived.Test.YtpcckohcoajenaaOpen
import Derived.Test.YtpcckohcoajenaaLawA
namespace Go.Proofs.Ytpcckohcoajenaa
namespace V
theorem gbytes {b : List Int} (h : GAll (GInt .u8) b) : ∀ x ∈ b, Byte x := by
  have h1 : IntKind.u8.min = 0 := rfl
  have h2 : IntKind.u8.max = 255 := rfl
  intro x hx
  have := h.2 x hx
  unfold GInt at this
  rw [h1, h2] at this
  exact ⟨this.1, by omega⟩
theorem gframe {f : T_api_Frame} (h : G_T_api_Frame f) : FOk f := by
  have h1 : IntKind.u16.min = 0 := rfl
  have h2 : IntKind.u16.max = 65535 := rfl
  have h3 := h.1
  unfold GInt at h3
  rw [h1, h2] at h3
  exact ⟨h3.1, by omega, gbytes h.2⟩
theorem gframes {l : List T_api_Frame} (h : GAll G_T_api_Frame l) : ∀ f ∈ l, FOk f := fun f hf => gframe (h.2 f hf)
theorem gpks {l : List T_api_Packet} (h : GAll G_T_api_Packet l) : ∀ p ∈ l, ∀ x ∈ p.Payload, Byte x := fun p hp => gbytes (h.2 p hp).2
theorem gasm {a : T_api_Assembler} (h : G_T_api_Assembler a) : ∀ x ∈ a.Buffer, Byte x := gbytes h.2
theorem glen {α : Type} {G : α → Prop} {l : List α} (h : GAll G l) : l.length ≤ 140737488355328 := Nat.le_trans h.1 (by unfold reachBytes; decide)
end V
end Go.Proofs.Ytpcckohcoajenaa
