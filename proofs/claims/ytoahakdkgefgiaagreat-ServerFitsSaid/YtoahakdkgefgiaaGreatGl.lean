/-
  The package-level variables that the walks read: block, cells.
-/
import Derived.Test.YtoahakdkgefgiaaGreatDraw
namespace Go.Proofs.YtoahakdkgefgiaaGreat
namespace V
def globs : List (Nat × List Value) := []
end V
end Go.Proofs.YtoahakdkgefgiaaGreat
