/- Whether a slice that is handed in is nil. -/
import Derived.Test.YtbgfhaahhdnogaaGreatEq
namespace Go.Proofs.YtbgfhaahhdnogaaGreat
namespace V
def rP(fx:Fx)(i:Nat):Bool:=match fx.κ0[i]? with
 | some (.r none _ _)=>true
 | _=>false
section
variable {P:Program} {N n0:Nat} {fx:Fx} {its aR:List Item} {κ:List Conc} {w:World} {tt:TT} {env:bP}
theorem St.at0{i}(S:St n0 fx env its κ w)(hi:Nat.blt i n0=true):fx.κ0[i]?=κ[i]?:=by
 have:=S.pre;rw[<-this,List.getElem?_take_of_lt (by simpa using hi)]
theorem Qc{α sz}{R:RT α}[dM R]{l i}(S:St n0 fx env its κ w)(hi:Nat.blt i n0=true)(hm:its[i]?=some (.d sz R l))(hz:0<sz)(h:rP fx i=true):l=[]:=by
 unfold rP at h;rw[S.at0 hi]at h;split at h
 .rename_i n c hk;obtain⟨hn,hc,hc2,es,hE,hM⟩:=S.ok i _ _ hm hk;have he:es=[]:=by
   cases es with
   | nil=>rfl
   | cons u es=>
     obtain⟨ad,h1,_⟩:=hM 0 u rfl;cases h1
  subst he;have hl:=fJ.length l [] hE;cases l with
  | nil=>rfl
  | cons x l=>
    simp only[List.length_nil,List.length_cons,Nat.succ_mul]at hl;omega
 .cases h
theorem D6{t E A n c m q}(hu:P.underlying t=some (.slice E))w d:(Op.equalIn (d+1) t (.slice A n c) (.slice none m q)).run P w=.ok A.isNone w:=by
 unfold Op.equalIn;rw[Sem.run_bind,show(underlying t).run P w=.ok (.slice E) w from run_underlying hu w,Result.andThen_ok];cases A<;>rfl
theorem AB{α sz}{R:RT α}[dM R]{l}(bZ:eu P tt){d:Option Nat}{t ps af g}{ty mF:TypeId}{x y i}(hx:jN env x=some (vs i))(hy:jN env y=some vn)(hi:Nat.blt i n0=true)(hm:its[i]?=some (.d sz R l))
 (hT:(match jU ty tt with
   | some ⟨.slice _,_,_,_,_⟩=>true
   | _=>false)=true):Eff P N n0 fx env its ⟨d,.binOp .eql ty x y mF,t,ps,af,g⟩ (some (vb (rP fx i))) its:=fun κ w S a ha=>by
 split at hT
 .rename_i E _ _ _ _ hl;have hu:=(bZ.get hl).und;have hx':=eD (κ:=κ) hx;have hy':=eD (κ:=κ) hy;have hlt:i<κ.length:=by rw[S.len];exact(List.getElem?_eq_some_iff.1 hm).1
  obtain⟨c,hk⟩:∃c,κ[i]?=some c:=⟨κ[i],List.getElem?_eq_getElem hlt⟩;have hok:=S.ok i _ _ hm hk;have hn:rP fx i=(match κ[i]? with
   | some (.r none _ _)=>true
   | _=>false):=by unfold rP;rw[S.at0 hi]
  cases c with
  | r A n c=>
    rw[hk]at hn;simp only[SV.den,Cell.den,hk]at hx' hy';refine .inl ⟨.bool (rP fx i),w,?_,[],fun z hz=>(by injection hz with hz;subst hz;rfl),by rw[List.append_nil];exact S⟩;have hr:=D6 (A:=A) (n:=n) (c:=c) (m:=0) (q:=0) hu w 9999;have hg:(eqGuard .eql ty x y (Value.slice A n c) (Value.slice none 0 0)).run P w=.ok () w:=by
     unfold eqGuard;rfl
    have hb:A.isNone=rP fx i:=by rw[hn];cases A<;>rfl
    simp only[execOp,ha.ev hx',ha.ev hy',Sem.run_bind,hg,Result.andThen_ok,binOp,Op.equal,Op.maxDepth,hr,Sem.run_pure];rw[hb]
  | _=>exact hok.elim
 .cases hT
end
section
variable {P:Program} {Kn:Act->World->Prop} {Ke:Nat->Act->World->Prop} {Kr:Act->World->Prop} {N n0:Nat} {fx:Fx} {env:bP} {its:List Item}
theorem Z.Ap{c α sz}{R:RT α}[dM R]{l}i(hi:Nat.blt i n0=true)(hm:its[i]?=some (.d sz R l))(hz:0<sz)(h:(rP fx i=true->l=[])->Z P c Kn Ke Kr N n0 fx env its):Z P c Kn Ke Kr N n0 fx env its:=fun κ w S=>
 h (Qc S hi hm hz) κ w S
end
end V
end Go.Proofs.YtbgfhaahhdnogaaGreat
