/-
  The package-level variables that the walks read: block, cells.
-/
import Derived.Test.YtbdhonofhlpdoaaDoorDraw
namespace Go.Proofs.YtbdhonofhlpdoaaDoor
namespace V
def globs : List (Nat × List Value) := [(0, ([0, 0, 3, 1, 0] : List Int).map (Value.int .u64)), (1, ([0, 1788928, 3577856, 3003392, 7155712, 7764992, 6006784, 4252672, 14311424, 12659712, 15529984, 16233472, 12013568, 11279360, 8505344, 10126336] : List Int).map (Value.int .u32))]
end V
end Go.Proofs.YtbdhonofhlpdoaaDoor
