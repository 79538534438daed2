/- Arrays that are variables of the call's own; loops whose rou -/
import Derived.Test.YtbgfhaahhdnogaaGreatUpd
import Derived.LoopN
import Derived.ChangeKeysEq
namespace Go.Proofs.YtbgfhaahhdnogaaGreat
namespace V
section
variable {P:Program} {N n0:Nat} {fx:Fx} {its aW:List Item} {κ:List Conc} {w:World} {env env':bO} {tt:TT} {Kn:Act→World→Prop} {Ke:Nat→Act→World→Prop} {Kr:Act→World→Prop}
def Rd(P:Program)(px:Value→World→Prop)(c:Code)(Ke:Nat→Act→World→Prop)(Kr:Act→World→Prop)(m:Nat)(a:Act)(w:World):Prop:=Code.rounds P c (KF px (fun _ _=>False) Ke Kr) m a w
theorem A.rd{c:Code}{m:Nat}{a:Act}(h:A N n0 fx env its a w)(hc:Z P c (Rd P fx.px c Ke Kr m) Ke Kr N n0 fx env its):Rd P fx.px c Ke Kr (m+1) a w:=by
 obtain⟨κ,h1,h2⟩:=h
 refine wp_mono (hc κ w h2 a h1) fun e a w hq=>?_
 cases e <;> exact hq
theorem Rd.lay{px:Value→World→Prop}{c:Code}{m:Nat}{Q0:Act→World→Prop}(m':Nat)(Q:Act→World→Prop)(h:∀a w,Q a w→Rd P px c Ke Kr m' a w)(k:(∀a w,Q a w→Rd P px c Ke Kr m' a w)→∀a w,Q0 a w→Rd P px c Ke Kr m a w):∀a w,Q0 a w→Rd P px c Ke Kr m a w:=k h
end
end V
end Go.Proofs.YtbgfhaahhdnogaaGreat
