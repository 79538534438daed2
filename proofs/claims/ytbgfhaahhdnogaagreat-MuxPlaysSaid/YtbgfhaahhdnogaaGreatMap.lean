/- Maps of the call's own: made, wn; maps read. -/
import Derived.Test.YtbgfhaahhdnogaaGreatGlob
namespace Go.Proofs.YtbgfhaahhdnogaaGreat
namespace V
section
variable {P:Program} {N n0:Nat} {fx:Fx} {its aW:List Item} {κ:List Conc} {w:World} {tt:TT} {env:bO} {α:Type} {R:RT α} [dG R]
end
end V
end Go.Proofs.YtbgfhaahhdnogaaGreat

namespace Go.Proofs.YtbgfhaahhdnogaaGreat
namespace V
section
variable {P:Program} {N n0:Nat} {fx:Fx} {its aW:List Item} {κ:List Conc} {w:World} {tt:TT} {env:bO} {α:Type} {sz:Nat} {R:RT α} [dG R] {d:Option Nat} {t:TypeId} {ps:String} {af:Array Edge} {g:Option (Nat×Bool)}
end
theorem O9.u6{P:Program}{N n0:Nat}{fx:Fx}{env:bO}{its aW:List Item}{o:Oper}(h:O9 P N n0 fx env its o aW):Eff P N n0 fx env its o none aW:=fun κ w S a ha=>by
 obtain⟨w',h1,S'⟩:=h κ w S a ha
 exact .inr (.inl ⟨w',h1,[],fun z hz=>(by cases hz),by rwa [List.append_nil]⟩)
end V
end Go.Proofs.YtbgfhaahhdnogaaGreat
