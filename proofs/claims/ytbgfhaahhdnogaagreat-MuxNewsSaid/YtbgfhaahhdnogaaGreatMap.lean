/- Maps of the call's own: made, wn; maps read. -/
import Derived.Test.YtbgfhaahhdnogaaGreatGlob
namespace Go.Proofs.YtbgfhaahhdnogaaGreat
namespace V
section
variable {P:Program} {N n0:Nat} {fx:Fx} {its its':List Item} {κ:List Conc} {w:World} {tt:TT} {env:Env'} {α:Type} {R:RT α} [GRep R]
end
end V
end Go.Proofs.YtbgfhaahhdnogaaGreat

namespace Go.Proofs.YtbgfhaahhdnogaaGreat
namespace V
section
variable {P:Program} {N n0:Nat} {fx:Fx} {its its':List Item} {κ:List Conc} {w:World} {tt:TT} {env:Env'} {α:Type} {sz:Nat} {R:RT α} [GRep R] {d:Option Nat} {t:TypeId} {ps:String} {af:Array Edge} {g:Option (Nat×Bool)}
end
theorem EffS.eff {P:Program} {N n0:Nat} {fx:Fx} {env:Env'} {its its':List Item} {o:Oper} (h:EffS P N n0 fx env its o its'):Eff P N n0 fx env its o none its':=fun κ w S a ha=>by
  obtain⟨w',h1,S'⟩:=h κ w S a ha
  exact .inr (.inl ⟨w',h1,[],fun z hz=>(by cases hz),by rwa [List.append_nil]⟩)
end V
end Go.Proofs.YtbgfhaahhdnogaaGreat
