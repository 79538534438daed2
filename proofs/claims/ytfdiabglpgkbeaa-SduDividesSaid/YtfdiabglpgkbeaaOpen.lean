/-
  Each argument type opened.
-/
import Derived.Test.YtfdiabglpgkbeaaBridge
namespace Go.Proofs.Ytfdiabglpgkbeaa
namespace V
open Go.ChangeShapes Go.WideShapes Go.ChangeAt Go.RowKit Go.Deep
theorem own : ownKnob Try.prog.godebug = none := by kernel_rfl
theorem laidOut : laidOutB Try.prog = true := by kernel_rfl
theorem opens_t24 : Opens Try.prog 24 1 (RSl 1 R8) (GAll (GInt .u8)) := opens_slice Try.underlying24 (by kernel_rfl) (by kernel_rfl) (opens_int Try.underlying5)
end V
end Go.Proofs.Ytfdiabglpgkbeaa
