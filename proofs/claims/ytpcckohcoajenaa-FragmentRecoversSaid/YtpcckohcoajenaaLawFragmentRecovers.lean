/-
  FragmentRecovers: the plain law, and what its premises come from.
-/
import Derived.Test.YtpcckohcoajenaaLawG
import Derived.Test.YtpcckohcoajenaaLawD
namespace Go.Proofs.Ytpcckohcoajenaa
namespace V
end V
end Go.Proofs.Ytpcckohcoajenaa
