/-
 The package-level variables that the walks read: block,cells.
-/
import Derived.Test.YtbgfhaahhdnogaaGreatDraw
namespace Go.Proofs.YtbgfhaahhdnogaaGreat
namespace V
def Z6:List (Nat×List Value) := []
end V
end Go.Proofs.YtbgfhaahhdnogaaGreat
