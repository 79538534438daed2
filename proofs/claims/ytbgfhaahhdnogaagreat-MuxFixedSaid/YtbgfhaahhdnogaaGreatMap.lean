/- Maps of the call's own: made, wn; maps read. -/
import Derived.Test.YtbgfhaahhdnogaaGreatGlob
namespace Go.Proofs.YtbgfhaahhdnogaaGreat
namespace V
section
variable {P:Program} {N n0:Nat} {fx:Fx} {its aM:List Item} {κ:List Conc} {w:World} {tt:TT} {env:bK} {α:Type} {R:RT α} [dD R]
end
end V
namespace V
section
variable {P:Program} {N n0:Nat} {fx:Fx} {its aM:List Item} {κ:List Conc} {w:World} {tt:TT} {env:bK} {α:Type} {sz:Nat} {R:RT α} [dD R] {d:Option Nat} {t:TypeId} {ps:String} {af:Array Edge} {g:Option (Nat×Bool)}
end
theorem BZ.pz{P:Program}{N n0:Nat}{fx:Fx}{env:bK}{its aM:List Item}{o:Oper}(h:BZ P N n0 fx env its o aM):Eff P N n0 fx env its o none aM:=fun κ w S a ha=>by
 obtain⟨w',h1,S'⟩:=h κ w S a ha
 exact .inr (.inl ⟨w',h1,[],fun z hz=>(by cases hz),by rwa [List.append_nil]⟩)
end V
end Go.Proofs.YtbgfhaahhdnogaaGreat
