/- ServerIndicates: the plain law, from the facts on its argume -/
import Derived.Test.YtoahakdkgefgiaaGreatLawG
namespace Go.Proofs.YtoahakdkgefgiaaGreat
namespace V
theorem indicates_top (x:Tx6) (h:ScOk x):q2u FF x=some true:=indicates_law x h
end V
end Go.Proofs.YtoahakdkgefgiaaGreat
