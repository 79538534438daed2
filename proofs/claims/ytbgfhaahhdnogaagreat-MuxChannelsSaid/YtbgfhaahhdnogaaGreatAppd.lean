/- 'append(l[:a], l[a+1:]...)' at a row of the call's own, in a -/
import Derived.Test.YtbgfhaahhdnogaaGreatDel
import Derived.Test.YtbgfhaahhdnogaaGreatTsub
namespace Go.Proofs.YtbgfhaahhdnogaaGreat
namespace V
section
variable {P:Program} {α:Type} {sz:Nat} {R:RT α} [dM R] {N:Nat} {U0:Nat->Prop} {X0:List (Option Nat)} {w0 w:World} {L:List (Option Nat)}
end
section
variable {P:Program} {N n0:Nat} {fx:Fx} {env:bP} {its:List Item} {bg:KI} {κ1:List Conc} {tt:TT} {ops:Array Oper} {Kn:Act->World->Prop} {fuel fuel':Nat} {bs:List Bool} {α:Type} {sz:Nat} {R:RT α} [dM R]
end
end V
end Go.Proofs.YtbgfhaahhdnogaaGreat
