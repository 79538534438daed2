/- An element of a package-level array of integers is read. -/
import Derived.Test.YtbgfhaahhdnogaaGreatRow
namespace Go.Proofs.YtbgfhaahhdnogaaGreat
namespace V
section
variable {P:Program} {N n0:Nat} {fx:Fx} {its aP:List Item} {κ:List Conc} {w:World} {tt:TT} {env:bN}
end
end V
end Go.Proofs.YtbgfhaahhdnogaaGreat
