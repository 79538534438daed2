/- Labels; elements of an array at an index that is known to be -/
import Derived.Test.YtbgfhaahhdnogaaGreatFld
import Derived.Scope
namespace Go.Proofs.YtbgfhaahhdnogaaGreat
namespace V
section
variable {P:Program} {Kn:Act->World->Prop} {Ke:Nat->Act->World->Prop} {Kr:Act->World->Prop} {N n0:Nat} {fx:Fx} {env:bP} {its:List Item} {tt:TT}
end
end V
end Go.Proofs.YtbgfhaahhdnogaaGreat
