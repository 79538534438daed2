/-
  FragmentWhole: the plain law, and what its premises come from.
-/
import Derived.Test.YtpcckohcoajenaaLawG
import Derived.Test.YtpcckohcoajenaaLawE
namespace Go.Proofs.Ytpcckohcoajenaa
namespace V
theorem gframes2 {l : List T_api_Frame} (h : GAll G_T_api_Frame l) : ∀ f ∈ l, FBig f := fun f hf => ⟨gframe (h.2 f hf), glen (h.2 f hf).2⟩
end V
end Go.Proofs.Ytpcckohcoajenaa
