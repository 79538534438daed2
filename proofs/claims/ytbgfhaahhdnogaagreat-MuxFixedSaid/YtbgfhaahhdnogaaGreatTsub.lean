/- A statement under way: parts of slices are taken first. -/
import Derived.Test.YtbgfhaahhdnogaaGreatGlob
namespace Go.Proofs.YtbgfhaahhdnogaaGreat
namespace V
section
variable {P:Program} {N n0:Nat} {fx:Fx} {env:bK} {its:List Item} {aZ:KI} {κ1:List Conc} {tt:TT} {ops:Array Oper} {Kn:Act→World→Prop} {fuel fuel':Nat} {bs:List Bool} {α:Type} {sz:Nat} {R:RT α} [dD R]
theorem SD.sub{ks:KB}(bX:dS P tt)(D:DK ks aZ κ1){i d dx:Nat}{t:TypeId}{ps:String}{af:Array Edge}{ty E:TypeId}{x:Operand}{lo hi':Option Operand}{a b:Int}{l l':List α}{v:SV}(bs':List Bool)
 (hi:ops[i]? = some ⟨some d,.slice ty x lo hi' none,t,ps,af,none⟩) (hf:fuel=fuel'+1) (hsel:(Region.noSelect ops&&(Nat.blt d N&&(Region.free .any ops bs.toArray i&&((Region.ready .any ops bs.toArray).contains i&&ks.2.2.all (fun j=>!Nat.beq j i)))))=true) (hb:bs.set i true=bs') (hK:J8 ks bs its=JK ks aZ bs)
 (hx:jd env x=some v) (hv:(∃j,v=vs j∧its[j]? = some (.d sz R l))∨(v=vn∧l=[])) (hlo:tY env 0 lo=some a) (hhi:tY env (len l) hi'=some b) (hs:sub l a b=some l') (hT:CG tt ty E sz dx=true)
 (hk:SD P ops Kn ks aZ κ1 fuel' bs' N n0 fx ((d,vs its.length)::env) (its++[.d sz R l'])):SD P ops Kn ks aZ κ1 fuel bs N n0 fx env its:=fun κx w S=>by
 subst hf
 simp only[Bool.and_eq_true]at hsel
 obtain⟨hns,hN,hfree,Zx,hnb⟩:=hsel
 obtain⟨hu,_,hpos,hsz⟩:=kN bX hT
 have hsl:∃A n c,v.den (κ1++κx)=.slice A n c∧n=l.length∧Sl sz R (Mu fx.U0 (dz its (κ1++κx))) w A c l:=by
  rcases hv with⟨j,rfl,hj⟩ | ⟨rfl,rfl⟩
  ·obtain⟨c,hc,hok⟩:=S.gG hj
   cases c with
   | r A n c=>exact⟨A,n,c,by simp[SV.den,Cell.den,hc],hok.1,hok.2⟩
   | _=>exact hok.elim
  ·exact⟨none,0,0,rfl,rfl,Sl.J6⟩
 obtain⟨A,n,c,h1,rfl,h3⟩:=hsl
 have hx':=eD (κ:=κ1++κx) hx
 rw[h1]at hx'
 have bnd:∀(q:Option Operand) (dflt r:Int),tY env dflt q=some r→∃qv,q.mapM (ev (eF (κ1++κx) env))=some qv∧((qv=none∧r=dflt)∨∃k,qv=some (.int k r)):=by
  intro q dflt r h
  cases q with
  | none=>simp only[tY,Option.some.injEq]at h;exact⟨none,rfl,.inl ⟨rfl,h.symm⟩⟩
  | some x=>
    simp only[tY]at h
    split at h
    ·rename_i k n hx
     injection h with h;subst h
     exact⟨some (.int k n),by simp[eD hx,SV.den,Cell.den],.inr ⟨k,rfl⟩⟩
    ·cases h
 obtain⟨Ii,hl1,hl2⟩:=bnd lo 0 a hlo
 obtain⟨hiv,hh1,hh2⟩:=bnd hi' (len l) b hhi
 obtain⟨A',c',hrun,Zv⟩:=Pm (N:=N) hu hsz hx' hl1 hh1 hl2 hh2 h3 hs
 have S1:=S.more (mF:=[.d sz R l']) (κ2:=[.r A' l'.length c']) rfl (mW (P:=fun(it:Item) (c:Conc)=>gQ it c=none) rfl) rfl (mW (P:=fun(it:Item) (c:Conc)=>OK _ _ w it c) ⟨rfl,Zv⟩)
 have S2:St n0 fx ((d,vs its.length)::env) (its++[.d sz R l']) (κ1++(κx++[.r A' l'.length c'])) w:=by
  rw[← List.append_assoc]
  refine S1.prune ?_
  have h0:=S1.oH
  unfold vV at h0 ⊢
  rw[List.all_cons,h0]
  simp[SV.lt,Cell.lt,Nat.blt_eq]
 refine WA.take hi hns hfree Zx (zk.less hnb) (fun w=>hrun) ((S.Kc hK D).Hl hb) hN hb ?_
 have h5:=hk (κx++[.r A' l'.length c']) w S2
 have e:eF (κ1++(κx++[.r A' l'.length c'])) ((d,vs its.length)::env)=(d,.slice A' l'.length c')::eF (κ1++κx) env:=by
  rw[← List.append_assoc]
  have h6:eF ((κ1++κx)++[.r A' l'.length c']) env=eF (κ1++κx) env:=iP (by rw[S.len];exact S.oH)
  show(d,_)::eF _ env=_
  rw[h6]
  congr 1
  simp only[SV.den,Cell.den]
  rw[List.getElem?_append_right (by rw[S.len];exact Nat.le_refl _),S.len]
  simp
 rw[e]at h5
 exact h5
end
end V
namespace V
section
variable {P:Program} {ops:Array Oper} {Kn:Act→World→Prop} {fuel N n0:Nat} {bs bs':List Bool} {fx:Fx} {env:bK} {its:List Item} {aZ:KI} {κ1:List Conc}
end
end V
end Go.Proofs.YtbgfhaahhdnogaaGreat
