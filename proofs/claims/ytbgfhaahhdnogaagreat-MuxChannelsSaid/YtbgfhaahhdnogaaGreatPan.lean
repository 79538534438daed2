/- Functions that panic. -/
import Derived.Test.YtbgfhaahhdnogaaGreatLab
import Derived.Defers
import Derived.Recover
namespace Go.Proofs.YtbgfhaahhdnogaaGreat
namespace V
section
variable {P:Program} {N n0:Nat} {fx:Fx} {env:bP} {its:List Item} {bg:KI} {κ1:List Conc} {ops:Array Oper} {rest:List Oper} {Kn:Act->World->Prop} {Ke:Nat->Act->World->Prop} {Kr:Act->World->Prop} {fuel:Nat} {bs:List Bool}
end
end V
end Go.Proofs.YtbgfhaahhdnogaaGreat
