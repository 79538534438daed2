/- A statement under way: parts of slices are taken first. -/
import Derived.Test.YtbgfhaahhdnogaaGreatRow
namespace Go.Proofs.YtbgfhaahhdnogaaGreat
namespace V
section
variable {P:Program} {N n0:Nat} {fx:Fx} {env:bP} {its:List Item} {bg:KI} {κ1:List Conc} {tt:TT} {ops:Array Oper} {Kn:Act->World->Prop} {fuel fuel':Nat} {bs:List Bool} {α:Type} {sz:Nat} {R:RT α} [dM R]
theorem SD.sub{ks:KB}(bZ:eu P tt)(D:DK ks bg κ1){i d dF:Nat}{t:TypeId}{ps:String}{af:Array Edge}{ty E:TypeId}{x:Operand}{lo hi':Option Operand}{a b:Int}{l l':List α}{v:SV}(bs':List Bool)
 (hi:ops[i]?=some ⟨some d,.slice ty x lo hi' none,t,ps,af,none⟩) (hf:fuel=fuel'+1) (hsel:(Region.noSelect ops&&(Nat.blt d N&&(Region.free .any ops bs.toArray i&&((Region.ready .any ops bs.toArray).contains i&&ks.2.2.all (fun j=>!Nat.beq j i)))))=true) (hb:bs.set i true=bs') (hK:Mi ks bs its=LH ks bg bs)
 (hx:jN env x=some v) (hv:(∃j,v=vs j/\its[j]?=some (.d sz R l))\/(v=vn/\l=[])) (hlo:vD env 0 lo=some a) (hhi:vD env (len l) hi'=some b) (hs:sub l a b=some l') (hT:EL tt ty E sz dF=true)
 (hk:SD P ops Kn ks bg κ1 fuel' bs' N n0 fx ((d,vs its.length)::env) (its++[.d sz R l'])):SD P ops Kn ks bg κ1 fuel bs N n0 fx env its:=fun κx w S=>by
 subst hf;simp only[Bool.and_eq_true]at hsel;obtain⟨hns,hN,hfree,acz,hnb⟩:=hsel;obtain⟨hu,_,hpos,hsz⟩:=lX bZ hT;have hsl:∃A n c,v.den (κ1++κx)=.slice A n c/\n=l.length/\Sl sz R (Mu fx.U0 (dL its (κ1++κx))) w A c l:=by
  rcases hv with⟨j,rfl,hj⟩|⟨rfl,rfl⟩
  .obtain⟨c,hc,hok⟩:=S.iy hj;cases c with
   | r A n c=>exact⟨A,n,c,by simp[SV.den,Cell.den,hc],hok.1,hok.2⟩
   | _=>exact hok.elim
  .exact⟨none,0,0,rfl,rfl,Sl.Qd⟩
 obtain⟨A,n,c,h1,rfl,h3⟩:=hsl;have hx':=eD (κ:=κ1++κx) hx;rw[h1]at hx';have bnd:∀(q:Option Operand) (dflt r:Int),vD env dflt q=some r->∃qv,q.mapM (ev (fD (κ1++κx) env))=some qv/\((qv=none/\r=dflt)\/∃k,qv=some (.int k r)):=by
  intro q dflt r h;cases q with
  | none=>simp only[vD,Option.some.injEq]at h;exact⟨none,rfl,.inl ⟨rfl,h.symm⟩⟩
  | some x=>
    simp only[vD]at h;split at h
    .rename_i k n hx;injection h with h;subst h;exact⟨some (.int k n),by simp[eD hx,SV.den,Cell.den],.inr ⟨k,rfl⟩⟩
    .cases h
 obtain⟨J2,hl1,hl2⟩:=bnd lo 0 a hlo;obtain⟨hiv,hh1,hh2⟩:=bnd hi' (len l) b hhi;obtain⟨A',c',hrun,acw⟩:=RY (N:=N) hu hsz hx' hl1 hh1 hl2 hh2 h3 hs;have S1:=S.more (nW:=[.d sz R l']) (κ2:=[.r A' l'.length c']) rfl (ou (P:=fun(it:Item) (c:Conc)=>iM it c=none) rfl) rfl (ou (P:=fun(it:Item) (c:Conc)=>OK _ _ w it c) ⟨rfl,acw⟩);have S2:St n0 fx ((d,vs its.length)::env) (its++[.d sz R l']) (κ1++(κx++[.r A' l'.length c'])) w:=by
  rw[<-List.append_assoc];refine S1.prune ?_;have h0:=S1.sj;unfold yh at h0 |-;rw[List.all_cons,h0];simp[SV.lt,Cell.lt,Nat.blt_eq]
 refine WA.take hi hns hfree acz (AQ.less hnb) (fun w=>hrun) ((S.Mq hK D).Ju hb) hN hb ?_;have h5:=hk (κx++[.r A' l'.length c']) w S2;have e:fD (κ1++(κx++[.r A' l'.length c'])) ((d,vs its.length)::env)=(d,.slice A' l'.length c')::fD (κ1++κx) env:=by
  rw[<-List.append_assoc];have h6:fD ((κ1++κx)++[.r A' l'.length c']) env=fD (κ1++κx) env:=jX (by rw[S.len];exact S.sj);show(d,_)::fD _ env=_;rw[h6];congr 1;simp only[SV.den,Cell.den];rw[List.getElem?_append_right (by rw[S.len];exact Nat.le_refl _),S.len];simp
 rw[e]at h5;exact h5
end
section
variable {P:Program} {ops:Array Oper} {Kn:Act->World->Prop} {fuel N n0:Nat} {bs bs':List Bool} {fx:Fx} {env:bP} {its:List Item} {bg:KI} {κ1:List Conc}
theorem SW.skip{ks}{i d j s:Nat}{b op t ps af}(D:DK ks bg κ1)(hi:ops[i]?=some ⟨some d,op,t,ps,af,some (j,b)⟩)(hj:(ops[j]?).bind (·.dst)=some s)(hg:EA s env=some (.u [])\/∃x,EA s env=some (vb x)/\x = !b)(hN:Nat.blt d N=true)(hb:bs.set i true=bs')(hK:Mi ks bs' its=LH ks bg bs')
 (hk:SD P ops Kn ks bg κ1 fuel bs' N n0 fx ((d,.u [])::env) its):SW P ops Kn ks bg κ1 fuel bs N n0 fx env its i:=fun κx w S a ha=>by
 have hw:Region.wanted ⟨some d,op,t,ps,af,some (j,b)⟩ (yielded ops a.tmps)=false:=by
  rcases hg with hs|⟨x,hs,hx⟩
  .have hl:=iZ (κ:=κ1++κx) hs;have:yielded ops a.tmps j=none:=by
    unfold yielded;rw[hj];simp[ha.get s _ hl,SV.den]
   simp[Region.wanted,this]
  .have hl:=iZ (κ:=κ1++κx) hs;simp only[SV.den,Cell.den]at hl;simp only[Region.wanted,uQ hj hl ha,hx];cases b<;>rfl
 unfold wpOp;simp only[hi,hw];have e:bs.toArray.setIfInBounds i true=bs'.toArray:=by rw[<-hb];simp
 rw[e];refine⟨S.Mq hK D,?_⟩;have h3:=hk κx w (S.env (by
  have:=S.sj;unfold yh at this |-;simp only[List.all_cons,this,Bool.and_true];rfl))
 have h4:=h3 _ (ha.put hN);simpa [SV.den,undef]using h4
end
end V
end Go.Proofs.YtbgfhaahhdnogaaGreat
