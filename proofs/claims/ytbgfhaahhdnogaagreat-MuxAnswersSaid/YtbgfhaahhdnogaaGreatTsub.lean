/- A statement under way: parts of slices are taken first. -/
import Derived.Test.YtbgfhaahhdnogaaGreatGlob
namespace Go.Proofs.YtbgfhaahhdnogaaGreat
namespace V
section
variable {P:Program} {N n0:Nat} {fx:Fx} {env:bN} {its:List Item} {bf:KI} {κ1:List Conc} {tt:TT} {ops:Array Oper} {Kn:Act->World->Prop} {fuel fuel':Nat} {bs:List Bool} {α:Type} {sz:Nat} {R:RT α} [dH R]
theorem SD.sub{ks:KB}(cK:dX P tt)(D:DK ks bf κ1){i d dA:Nat}{t:TypeId}{ps:String}{af:Array Edge}{ty E:TypeId}{x:Operand}{lo hi':Option Operand}{a b:Int}{l l':List α}{v:SV}(bs':List Bool)
 (hi:ops[i]? = some ⟨some d,.slice ty x lo hi' none,t,ps,af,none⟩) (hf:fuel=fuel'+1) (hsel:(Region.noSelect ops&&(Nat.blt d N&&(Region.free .any ops bs.toArray i&&((Region.ready .any ops bs.toArray).contains i&&ks.2.2.all (fun j=>!Nat.beq j i)))))=true) (hb:bs.set i true=bs') (hK:K3 ks bs its=KH ks bf bs)
 (hx:jD env x=some v) (hv:(∃j,v=vs j/\its[j]? = some (.d sz R l))∨(v=vn/\l=[])) (hlo:uL env 0 lo=some a) (hhi:uL env (len l) hi'=some b) (hs:sub l a b=some l') (hT:Dt tt ty E sz dA=true)
 (hk:SD P ops Kn ks bf κ1 fuel' bs' N n0 fx ((d,vs its.length)::env) (its++[.d sz R l'])):SD P ops Kn ks bf κ1 fuel bs N n0 fx env its:=fun κx w S=>by
 subst hf;simp only[Bool.and_eq_true]at hsel;obtain⟨hns,hN,hfree,aaY,hnb⟩:=hsel;obtain⟨hu,_,hpos,hsz⟩:=lI cK hT;have hsl:∃A n c,v.den (κ1++κx)=.slice A n c/\n=l.length/\Sl sz R (Mu fx.U0 (dG its (κ1++κx))) w A c l:=by
  rcases hv with⟨j,rfl,hj⟩ | ⟨rfl,rfl⟩
  ·obtain⟨c,hc,hok⟩:=S.gP hj;cases c with
   | r A n c=>exact⟨A,n,c,by simp[SV.den,Cell.den,hc],hok.1,hok.2⟩
   | _=>exact hok.elim
  ·exact⟨none,0,0,rfl,rfl,Sl.OI⟩
 obtain⟨A,n,c,h1,rfl,h3⟩:=hsl;have hx':=eD (κ:=κ1++κx) hx;rw[h1]at hx';have bnd:∀(q:Option Operand) (dflt r:Int),uL env dflt q=some r->∃qv,q.mapM (ev (eX (κ1++κx) env))=some qv/\((qv=none/\r=dflt)∨∃k,qv=some (.int k r)):=by
  intro q dflt r h;cases q with
  | none=>simp only[uL,Option.some.injEq]at h;exact⟨none,rfl,.inl ⟨rfl,h.symm⟩⟩
  | some x=>
    simp only[uL]at h;split at h
    ·rename_i k n hx;injection h with h;subst h;exact⟨some (.int k n),by simp[eD hx,SV.den,Cell.den],.inr ⟨k,rfl⟩⟩
    ·cases h
 obtain⟨Jc,hl1,hl2⟩:=bnd lo 0 a hlo;obtain⟨hiv,hh1,hh2⟩:=bnd hi' (len l) b hhi;obtain⟨A',c',hrun,aaW⟩:=Qw (N:=N) hu hsz hx' hl1 hh1 hl2 hh2 h3 hs;have S1:=S.more (nJ:=[.d sz R l']) (κ2:=[.r A' l'.length c']) rfl (nR (P:=fun(it:Item) (c:Conc)=>iC it c=none) rfl) rfl (nR (P:=fun(it:Item) (c:Conc)=>OK _ _ w it c) ⟨rfl,aaW⟩);have S2:St n0 fx ((d,vs its.length)::env) (its++[.d sz R l']) (κ1++(κx++[.r A' l'.length c'])) w:=by
  rw[← List.append_assoc];refine S1.prune ?_;have h0:=S1.qZ;unfold xB at h0 ⊢;rw[List.all_cons,h0];simp[SV.lt,Cell.lt,Nat.blt_eq]
 refine WA.take hi hns hfree aaY (zZ.less hnb) (fun w=>hrun) ((S.K6 hK D).IE hb) hN hb ?_;have h5:=hk (κx++[.r A' l'.length c']) w S2;have e:eX (κ1++(κx++[.r A' l'.length c'])) ((d,vs its.length)::env)=(d,.slice A' l'.length c')::eX (κ1++κx) env:=by
  rw[← List.append_assoc];have h6:eX ((κ1++κx)++[.r A' l'.length c']) env=eX (κ1++κx) env:=jM (by rw[S.len];exact S.qZ);show(d,_)::eX _ env=_;rw[h6];congr 1;simp only[SV.den,Cell.den];rw[List.getElem?_append_right (by rw[S.len];exact Nat.le_refl _),S.len];simp
 rw[e]at h5;exact h5
end
end V
namespace V
section
variable {P:Program} {ops:Array Oper} {Kn:Act->World->Prop} {fuel N n0:Nat} {bs bs':List Bool} {fx:Fx} {env:bN} {its:List Item} {bf:KI} {κ1:List Conc}
theorem SW.skip{ks:KB}{i d j s:Nat}{b:Bool}{op:Op}{t:TypeId}{ps:String}{af:Array Edge}(D:DK ks bf κ1)(hi:ops[i]? = some ⟨some d,op,t,ps,af,some (j,b)⟩)(hj:(ops[j]?).bind (·.dst)=some s)(hg:Di s env=some (.u [])∨∃x,Di s env=some (vb x)/\x = !b)(hN:Nat.blt d N=true)(hb:bs.set i true=bs')(hK:K3 ks bs' its=KH ks bf bs')
 (hk:SD P ops Kn ks bf κ1 fuel bs' N n0 fx ((d,.u [])::env) its):SW P ops Kn ks bf κ1 fuel bs N n0 fx env its i:=fun κx w S a ha=>by
 have hw:Region.wanted ⟨some d,op,t,ps,af,some (j,b)⟩ (yielded ops a.tmps)=false:=by
  rcases hg with hs | ⟨x,hs,hx⟩
  ·have hl:=iO (κ:=κ1++κx) hs;have:yielded ops a.tmps j=none:=by
    unfold yielded;rw[hj];simp[ha.get s _ hl,SV.den]
   simp[Region.wanted,this]
  ·have hl:=iO (κ:=κ1++κx) hs;simp only[SV.den,Cell.den]at hl;simp only[Region.wanted,uh hj hl ha,hx];cases b <;> rfl
 unfold wpOp;simp only[hi,hw];have e:bs.toArray.setIfInBounds i true=bs'.toArray:=by rw[← hb];simp
 rw[e];refine⟨S.K6 hK D,?_⟩;have h3:=hk κx w (S.env (by
  have:=S.qZ;unfold xB at this ⊢;simp only[List.all_cons,this,Bool.and_true];rfl))
 have h4:=h3 _ (ha.put hN);simpa [SV.den,undef]using h4
end
end V
end Go.Proofs.YtbgfhaahhdnogaaGreat
