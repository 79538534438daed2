/-
  The package-level variables that the walks read: block, cells.
-/
import Derived.Test.YtbdhonofhlpdoaaDoorDraw
namespace Go.Proofs.YtbdhonofhlpdoaaDoor
namespace V
def globs : List (Nat × List Value) := [(0, ([0, 0, 3, 1, 0] : List Int).map (Value.int .u64))]
end V
end Go.Proofs.YtbdhonofhlpdoaaDoor
