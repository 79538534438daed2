/- Maps of the call's own: made, wn; maps read. -/
import Derived.Test.YtbgfhaahhdnogaaGreatRow
namespace Go.Proofs.YtbgfhaahhdnogaaGreat
namespace V
section
variable {P:Program} {N n0:Nat} {fx:Fx} {its aR:List Item} {κ:List Conc} {w:World} {tt:TT} {env:bP} {α:Type} {R:RT α} [dM R]
end
section
variable {P:Program} {N n0:Nat} {fx:Fx} {its aR:List Item} {κ:List Conc} {w:World} {tt:TT} {env:bP} {α:Type} {sz:Nat} {R:RT α} [dM R] {d:Option Nat} {t:TypeId} {ps:String} {af:Array Edge} {g:Option (Nat×Bool)}
end
theorem DL.p8{P N n0 fx env its aR o}(h:DL P N n0 fx env its o aR):Eff P N n0 fx env its o none aR:=fun κ w S a ha=>by
 obtain⟨w',h1,S'⟩:=h κ w S a ha;exact .inr (.inl ⟨w',h1,[],fun z hz=>(by cases hz),by rwa [List.append_nil]⟩)
end V
end Go.Proofs.YtbgfhaahhdnogaaGreat
