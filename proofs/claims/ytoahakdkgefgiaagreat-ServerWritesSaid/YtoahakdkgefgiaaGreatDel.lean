/-
  slices.Delete at a row of the call's own, of elements of many cells: what it returns, what the row holds then.
-/
import Derived.Test.YtoahakdkgefgiaaGreatRow
import Derived.Test.YtoahakdkgefgiaaGreatProg
import Derived.WalkKit
import Derived.Deep.RegionLaw
import Derived.Lib.Walk
import Derived.Lib.SliceRun
import Derived.Below
namespace Go.Proofs.YtoahakdkgefgiaaGreat
namespace V
section
variable {P : Program}
end
end V
end Go.Proofs.YtoahakdkgefgiaaGreat

namespace Go.Proofs.YtoahakdkgefgiaaGreat
open Go.Lib Go.RowKit
namespace V
end V
end Go.Proofs.YtoahakdkgefgiaaGreat
