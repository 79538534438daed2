/- Maps of the call's own: made, wn; maps read. -/
import Derived.Test.YtbgfhaahhdnogaaGreatGlob
namespace Go.Proofs.YtbgfhaahhdnogaaGreat
namespace V
section
variable {P:Program} {N n0:Nat} {fx:Fx} {its aP:List Item} {κ:List Conc} {w:World} {tt:TT} {env:bN} {α:Type} {R:RT α} [dH R]
end
end V
namespace V
section
variable {P:Program} {N n0:Nat} {fx:Fx} {its aP:List Item} {κ:List Conc} {w:World} {tt:TT} {env:bN} {α:Type} {sz:Nat} {R:RT α} [dH R] {d:Option Nat} {t:TypeId} {ps:String} {af:Array Edge} {g:Option (Nat×Bool)}
end
theorem CS.qM{P:Program}{N n0:Nat}{fx:Fx}{env:bN}{its aP:List Item}{o:Oper}(h:CS P N n0 fx env its o aP):Eff P N n0 fx env its o none aP:=fun κ w S a ha=>by
 obtain⟨w',h1,S'⟩:=h κ w S a ha;exact .inr (.inl ⟨w',h1,[],fun z hz=>(by cases hz),by rwa [List.append_nil]⟩)
end V
end Go.Proofs.YtbgfhaahhdnogaaGreat
