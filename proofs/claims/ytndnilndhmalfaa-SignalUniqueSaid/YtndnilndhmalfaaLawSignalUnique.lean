/-
  SignalUnique: the plain law (in LawE), and what its premise comes from.
-/
import Derived.Test.YtndnilndhmalfaaOpen
import Derived.Test.YtndnilndhmalfaaLawE
namespace Go.Proofs.Ytndnilndhmalfaa
namespace V
theorem gbytes {b : List Int} (h : GAll (GInt .u8) b) : ∀ x ∈ b, Byte x := by
  have h1 : IntKind.u8.min = 0 := rfl
  have h2 : IntKind.u8.max = 255 := rfl
  intro x hx
  have := h.2 x hx
  unfold GInt at this
  rw [h1, h2] at this
  exact ⟨this.1, by omega⟩
end V
end Go.Proofs.Ytndnilndhmalfaa
