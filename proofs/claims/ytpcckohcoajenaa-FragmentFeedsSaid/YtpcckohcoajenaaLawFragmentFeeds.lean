/-
  FragmentFeeds: the plain law, and what its premises come from.
-/
import Derived.Test.YtpcckohcoajenaaLawG
import Derived.Test.YtpcckohcoajenaaLawC
namespace Go.Proofs.Ytpcckohcoajenaa
namespace V
theorem gasm2 {a : T_api_Assembler} (h : G_T_api_Assembler a) : AOk a := ⟨gasm h, glen h.2⟩
end V
end Go.Proofs.Ytpcckohcoajenaa
