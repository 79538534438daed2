/-
  SignalBack: the plain law (in LawE), and what its premise comes from.
-/
import Derived.Test.YtndnilndhmalfaaOpen
import Derived.Test.YtndnilndhmalfaaLawE
namespace Go.Proofs.Ytndnilndhmalfaa
namespace V
theorem gpsm {s : T_api_Signal} (h : G_T_api_Signal s) : 0 ≤ s.PSM ∧ s.PSM ≤ 65535 := by
  have h1 : IntKind.u16.min = 0 := rfl
  have h2 : IntKind.u16.max = 65535 := rfl
  have := h.2.2.1
  unfold GInt at this
  rwa [h1, h2] at this
end V
end Go.Proofs.Ytndnilndhmalfaa
