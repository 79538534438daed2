/- The state behind a call, however it ends. -/
import Derived.Test.YtbgfhaahhdnogaaGreatPan
import Derived.LoopN
import Derived.WalkKit
import Derived.Laws.Pointers
namespace Go.Proofs.YtbgfhaahhdnogaaGreat
namespace V
section
variable {P:Program} {N n0:Nat} {fx:Fx} {its aR:List Item} {κ:List Conc} {w:World} {env env':bP} {js:List Jx} {tt:TT} {ops:Array Oper} {rest:List Oper} {Kn:Act->World->Prop} {Ke:Nat->Act->World->Prop} {Kr:Act->World->Prop}
end
end V
end Go.Proofs.YtbgfhaahhdnogaaGreat
