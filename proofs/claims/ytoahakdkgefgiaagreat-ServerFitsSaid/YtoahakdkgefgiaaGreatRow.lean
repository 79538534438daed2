/- Pointers into a row of the call's own that nothing is known -/
import Derived.Test.YtoahakdkgefgiaaGreatArr
namespace Go.Proofs.YtoahakdkgefgiaaGreat
namespace V
section
variable {P:Program} {N n0:Nat} {fx:Fx} {its its':List Item} {κ:List Conc} {w:World} {tt:TT} {env:Env'} {α:Type} {sz:Nat} {E:TypeId} {R:RT α} [GRep R] {d:Option Nat} {t:TypeId} {ps:String} {af:Array Edge} {g:Option (Nat×Bool)}
theorem e_ixp (htt:TTOk P tt) {ty:TypeId} {x y:Operand} {i by_:Nat} {k:IntKind} {iv:Int} {l:List α} {e:α} (hx:evS env x=some (vs i)) (hi:its[i]? = some (.own sz E R l)) (hy:evS env y=some (vi k iv)) (he:idx l iv=some e) (hT:TRow tt ty E sz by_=true) :
    Eff P N n0 fx env its ⟨d,.indexAddr ty x y,t,ps,af,g⟩ (some (vp i (iv.toNat * sz))) its:=fun κ w S a haa=>by
  obtain⟨hu,_,hpos,hs⟩:=trow_get htt hT
  obtain⟨c,hc,hok⟩:=S.conc hi
  cases c with
  | r A n c=>
    obtain⟨hn,ho⟩:=hok
    subst hn
    have hx':=eD (κ:=κ) hx
    simp only [SV.den,Cell.den,hc] at hx'
    obtain⟨b,o,es,rfl,hr,_,_,_⟩:=ix_own (P:=P) (N:=N) hu hs hx' (eD hy) ho he
    refine .inl ⟨_,w,hr a haa,[],fun z hz=>?_,by rw [List.append_nil]; exact S⟩
    injection hz with hz
    subst hz
    simp only [SV.den,Cell.den,List.append_nil,hc,add_lit]
  | _=>exact hok.elim
def EffS (P:Program) (N n0:Nat) (fx:Fx) (env:Env') (its:List Item) (o:Oper) (its':List Item):Prop:=
  ∀κ w,St n0 fx env its κ w→∀a,Holds N (denE κ env) a→∃w',(execOp a.eval o).run P w = .ok .skip w'∧St n0 fx env its' κ w'
end
end V
end Go.Proofs.YtoahakdkgefgiaaGreat
