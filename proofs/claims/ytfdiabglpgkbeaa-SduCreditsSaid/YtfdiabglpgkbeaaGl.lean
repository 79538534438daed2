/-
  The package-level variables that the walks read: block, cells.
-/
import Derived.Test.YtfdiabglpgkbeaaDraw
namespace Go.Proofs.Ytfdiabglpgkbeaa
namespace V
def globs : List (Nat × List Value) := []
end V
end Go.Proofs.Ytfdiabglpgkbeaa
