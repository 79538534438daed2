/- Pointers into a row of the call's own that nothing is known -/
import Derived.Test.YtbgfhaahhdnogaaGreatArr
namespace Go.Proofs.YtbgfhaahhdnogaaGreat
namespace V
section
variable {P:Program} {N n0:Nat} {fx:Fx} {its its':List Item} {κ:List Conc} {w:World} {tt:TT} {env:Env'} {α:Type} {sz:Nat} {E:TypeId} {R:RT α} [GRep R] {d:Option Nat} {t:TypeId} {ps:String} {af:Array Edge} {g:Option (Nat×Bool)}
theorem e_ixp (htt:TTOk P tt) {ty:TypeId} {x y:Operand} {i by_:Nat} {k:IntKind} {iv:Int} {l:List α} {e:α} (hx:evS env x=some (vs i)) (hi:its[i]? = some (.own sz E R l)) (hy:evS env y=some (vi k iv)) (he:idx l iv=some e) (hT:TRow tt ty E sz by_=true) :
    Eff P N n0 fx env its ⟨d,.indexAddr ty x y,t,ps,af,g⟩ (some (vp i (iv.toNat * sz))) its:=fun κ w S a haa=>by
  obtain⟨hu,_,hpos,hs⟩:=trow_get htt hT
  obtain⟨c,hc,hok⟩:=S.conc hi
  cases c with
  | r A n c=>
    obtain⟨hn,ho⟩:=hok
    subst hn
    have hx':=eD (κ:=κ) hx
    simp only [SV.den,Cell.den,hc] at hx'
    obtain⟨b,o,es,rfl,hr,_,_,_⟩:=ix_own (P:=P) (N:=N) hu hs hx' (eD hy) ho he
    refine .inl ⟨_,w,hr a haa,[],fun z hz=>?_,by rw [List.append_nil]; exact S⟩
    injection hz with hz
    subst hz
    simp only [SV.den,Cell.den,List.append_nil,hc,add_lit]
  | _=>exact hok.elim
def EffS (P:Program) (N n0:Nat) (fx:Fx) (env:Env') (its:List Item) (o:Oper) (its':List Item):Prop:=
  ∀κ w,St n0 fx env its κ w→∀a,Holds N (denE κ env) a→∃w',(execOp a.eval o).run P w = .ok .skip w'∧St n0 fx env its' κ w'
theorem e_subo (htt:TTOk P tt) {ty:TypeId} {x:Operand} {lo hi':Option Operand} {i by_:Nat} {a b:Int} {l l':List α} (hx:evS env x=some (vs i)) (hi:its[i]? = some (.own sz E R l)) (hlo:bndC env 0 lo=some a) (hhi:bndC env (len l) hi'=some b)
    (hs:sub l a b=some l') (hT:(TRow tt ty E sz by_ && !its.any Item.ow)=true):Eff P N n0 fx env its ⟨d,.slice ty x lo hi' none,t,ps,af,g⟩ (some (vs its.length)) (its.set i .gone++[.own sz E R l']):=fun κ w S ac haa=>by
  simp only [Bool.and_eq_true,Bool.not_eq_true'] at hT
  obtain⟨hT,how⟩:=hT
  obtain⟨hu,_,hpos,hsz⟩:=trow_get htt hT
  obtain⟨c,hc,hok⟩:=S.conc hi
  cases c with
  | r A n c=>
    obtain⟨hn,ho⟩:=hok
    subst hn
    have hx':=eD (κ:=κ) hx
    simp only [SV.den,Cell.den,hc] at hx'
    have bnd:∀(q:Option Operand) (dflt r:Int),bndC env dflt q=some r→∃qv,q.mapM (ev (denE κ env))=some qv∧((qv=none∧r=dflt)∨∃k,qv=some (.int k r)):=by
      intro q dflt r h
      cases q with
      | none=>simp only [bndC,Option.some.injEq] at h; exact⟨none,rfl,.inl ⟨rfl,h.symm⟩⟩
      | some x=>
        simp only [bndC] at h
        split at h
        · rename_i k n hx
          injection h with h; subst h
          exact⟨some (.int k n),by simp [eD hx,SV.den,Cell.den],.inr ⟨k,rfl⟩⟩
        · cases h
    obtain⟨lov,hl1,hl2⟩:=bnd lo 0 a hlo
    obtain⟨hiv,hh1,hh2⟩:=bnd hi' (len l) b hhi
    exact Does.of_runW (rw_subo hu hsz hx' hl1 hh1 hl2 hh2 ho hs (Lof_get hi hc) S.ctx) haa fun u w' h=>appended_st S how hi hc h
  | _=>exact hok.elim
end
end V
end Go.Proofs.YtbgfhaahhdnogaaGreat
