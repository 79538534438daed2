/- Fields of the elements of a row of the call's own, by their -/
import Derived.Test.YtbdhonofhlpdoaaDoorAppd
namespace Go.Proofs.YtbdhonofhlpdoaaDoor
namespace V
section
variable {P:Program} {N n0:Nat} {fx:Fx} {its its':List Item} {κ:List Conc} {w:World} {tt:TT} {env:Env'} {α:Type} {sz:Nat} {E:TypeId} {R:RT α} [GRep R] {d:Option Nat} {t:TypeId} {ps:String} {af:Array Edge} {g:Option (Nat×Bool)}
end
end V
end Go.Proofs.YtbdhonofhlpdoaaDoor
