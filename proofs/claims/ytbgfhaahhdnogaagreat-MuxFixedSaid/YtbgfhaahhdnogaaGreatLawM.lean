/- Data arrives; a packet arrives: the program and the referenc -/
import Derived.Test.YtbgfhaahhdnogaaGreatLawN
namespace Go.Proofs.YtbgfhaahhdnogaaGreat
namespace V
theorem half(g:Int)(h:0≤g∧g≤65535):Nn .i64 g 2=g/2:=by
 have:g.tdiv 2=g/2:=Int.tdiv_eq_ediv_of_nonneg h.1
 unfold Nn
 rw[this,wrap_i64]
 exact bN (by omega) (by omega)
theorem MP(x:bJ)(q:aS×List (List Int)×Int)(hq:q.2.1.length≤1)(he:x.events=[]):iter (fun s:bJ×Int=>SX FF q s.1 s.2) FF (x,0)=some { x with events:=q.2.1.map fun d=>⟨3,q.1.Local,d,0,zu,0⟩ }:=by
 have hF:FF=(FF-2)+1+1:=by rw[jD]
 rw[hF]
 generalize FF-2=f
 obtain⟨c,l,e⟩:=q
 match l,hq with
 | [],_=>
   rw[aW (o:=x) (by
    show SX (f+1+1) (c,[],e) x 0=_
    unfold SX
    rw[if_neg (df (by simp[len]))])]
   cases x
   simp only at he
   rw[he]
   rfl
 | [d],_=>
   rw[bV (s':=(({ x with events:=[⟨3,c.Local,d,0,zu,0⟩] }:bJ),(1:Int))) (by
    show SX (f+1+1) (c,[d],e) x 0=_
    unfold SX
    rw[if_pos (dt (by simp[len])),show idx [d] 0=some d from rfl,bs]
    unfold qc
    rw[he,dP (by simp) (by simp),bs,bs]
    rfl),aW (o:=({ x with events:=[⟨3,c.Local,d,0,zu,0⟩] }:bJ)) (by
    show SX (f+1+1) (c,[d],e) { x with events:=[⟨3,c.Local,d,0,zu,0⟩] } 1=_
    unfold SX
    rw[if_neg (df (by simp[len]))])]
   rfl
theorem uT{m:aL}{i:Nat}{c c':aS}(hc:m.aj[i]? = some c):(gy m i c').aj[i]? = some c':=by
 have hlt:=(gS.1 hc).1
 unfold gy
 simp[List.getElem?_set_self hlt]
theorem LU{b:List Int}(hb:∀x∈b,Byte x)(e:Int):∀f∈(Fr.LV b e).2.1,(∀x∈f.Payload,Byte x)∧f.Payload.length≤65531:=by
 unfold Fr.LV
 split
 ·intro f hf;cases hf
 ·split
  ·intro f hf;cases hf
  ·split
   ·intro f hf;cases hf
   ·split
    ·intro f hf;cases hf
    ·intro f hf
     rename_i h0 h1 h2 h3
     rw[show(Fr.az,[(⟨(Fr.hd b).2,b.drop 4⟩:bM)],e).2.1=[(⟨(Fr.hd b).2,b.drop 4⟩:bM)]from rfl,List.mem_singleton]at hf
     subst hf
     refine⟨fun x hx=>hb x (List.mem_of_mem_drop hx),?_⟩
     simp only[List.length_drop]
     omega
theorem QS{a:jU}{p:eT}(ha:Fr.Val a)(hp:∀x∈p.Payload,Byte x):∀f∈(Fr.feed a p).2.1,(∀x∈f.Payload,Byte x)∧f.Payload.length≤65531:=by
 unfold Fr.feed
 split
 ·intro f hf;cases hf
 ·split
  ·intro f hf;cases hf
  ·split
   ·exact LU hp _
   ·split
    ·intro f hf;cases hf
    ·exact LU (fun x hx=>(List.mem_append.1 hx).elim (ha.xZ x) (hp x)) _
theorem MInv.iY{k:Nat}{m:aL}(h:MInv k m){a:jU}(ha:Fr.Val a):MInv k { m with ay:=a }:=
 ⟨h.J9,h.NK,h.next,h.ask,h.xA,h.yN,h.MQ,h.qE,h.xg,h.cnt,h.out,h.nZ,h.sent,ha,h.jm⟩
def UC(x:bJ)(f:bM):Option bJ:=
 if ((f.aU==4)||(f.aU==6))=true then qc FF x (gD.mk 1 f.aU f.Payload 0 (jo.mk 0 0 0 0 0) 0)
 else if (f.aU==5)=true then YP FF x f.Payload
 else if Az x.aB f.aU≥0∧bO x.aB f.aU=false then q3r FF x (Az x.aB f.aU) f.Payload
 else some x
theorem YX(x:bJ)(l:List bM)(f:bM)(n:Nat)(hf:l[n]? = some f)(hn:n≤10)(h1:x.aB.aj.length≤1000)(h2:x.aB.aD.length≤1000):Uk FF l x (n:Int)=(UC x f).bind fun y=>some (.next (y,((n+1:Nat):Int))):=by
 have hlt:=(gS.1 hf).1
 unfold Uk q50 UC
 rw[if_pos (dt (by rw[lN];omega)),bf hf,bs,u7 x f.aU (by omega),bs,wN n (by omega)]
 by_cases c1:((f.aU==4)||(f.aU==6))=true
 ·rw[if_pos c1,if_pos c1]
 rw[if_neg c1,if_neg c1]
 by_cases c2:(f.aU==5)=true
 ·rw[if_pos c2,if_pos c2]
 rw[if_neg c2,if_neg c2]
 rcases wT x.aB f.aU with⟨hl,_⟩ | ⟨i,c,hl,hc,hq⟩
 ·rw[hl,if_neg (df (by omega)),bs,if_neg (by simp),if_neg (by omega)]
  rfl
 ·rw[hl,if_pos (dt (by omega)),bf hc,bs,l9 x c (by omega),bs,bs,hq]
  cases hcl:bO x.aB f.aU with
  | true=>rw[if_neg (by simp),if_neg (by simp)];rfl
  | false=>rw[if_pos (by simp),if_pos (by exact⟨by omega,rfl⟩)]
end V
namespace V
namespace Po
def nY(k:Int):Nat:=if k=20 then 10 else if k=21 then 4 else if k=6∨k=18 then 2 else 0
def frX(f:bM):Nat:=if f.aU=4∨f.aU=6 then 0 else if f.aU=5 then nY (f.Payload.headD 0)else 2
def Jz(f:bM):Nat:=f.Payload.length+30+27*frX f
def MW(s:List Int):Nat:=5*(s.length+2)+84
def Cg(c:aS):Nat:=(c.Out.map MW).sum-5*c.aR.toNat
def Tf(m:aL)(c:aS):Nat:=if bO m c.Local=true then 0 else 108
def kT(m:aL)(c:aS):Nat:=Cg c+Tf m c
def uU(m:aL):Nat:=(m.Out.map Jz).sum
def fP(m:aL):Nat:=(m.aj.map (kT m)).sum+uU m
theorem zK{α:Type}(f g:α→Nat):∀(l:List α),(∀x∈l,f x≤g x)→(l.map f).sum≤(l.map g).sum
 | [],_=>Nat.le_refl _
 | x::l,h=>by
   have:=zK f g l fun y hy=>h y (by simp[hy])
   have:=h x (by simp)
   simp only[List.map_cons,List.sum_cons]
   omega
theorem GL{α:Type}(f g:α→Nat)(d:Nat):∀(l:List α),(∀x∈l,f x≤g x)→(∃x∈l,f x+d≤g x)→(l.map f).sum+d≤(l.map g).sum
 | [],_,⟨_,h,_⟩=>by cases h
 | x::l,h,⟨y,hy,hd⟩=>by
   simp only[List.map_cons,List.sum_cons]
   rcases List.mem_cons.1 hy with rfl | hy
   ·have:=zK f g l fun z hz=>h z (by simp[hz])
    omega
   ·have:=GL f g d l (fun z hz=>h z (by simp[hz])) ⟨y,hy,hd⟩
    have:=h x (by simp)
    omega
theorem JW(m:aL)(lG:Int)(b:List Int):fP (qd m lG b)=fP m+Jz ⟨lG,b⟩:=by
 have h1:∀c,kT (qd m lG b) c=kT m c:=fun c=>rfl
 unfold fP uU
 rw[show(qd m lG b).aj=m.aj from rfl,show(qd m lG b).Out=m.Out++[⟨lG,b⟩]from rfl,List.map_append,List.sum_append,show kT (qd m lG b)=kT m from funext h1]
 simp only[List.map_cons,List.map_nil,List.sum_cons,List.sum_nil]
 omega
theorem Ve(s:aT)(hk:0≤s.Kind∧s.Kind<256):Jz ⟨5,Sg.iq s⟩≤44+27*nY s.Kind:=by
 have h:=y8 s
 have h0:(Sg.iq s).headD 0=s.Kind:=by
  unfold Sg.iq
  show j3 s.Kind=s.Kind
  exact EF hk.1 hk.2
 unfold Jz frX
 simp only[h0]
 rw[if_neg (by decide),if_pos trivial]
 omega
theorem mR(m:aL)(s:aT)(hk:0≤s.Kind∧s.Kind<256):fP (jM m s)≤fP m+44+27*nY s.Kind:=by
 have:=Ve s hk
 unfold jM
 rw[JW]
 omega
theorem Ah(m:aL):fP (jI m)=fP m:=rfl
theorem rz(m:aL)(s:aT)(l:Int):bO { m with aD:=m.aD++[s] } l=(bO m l||((s.Kind==6)&&(s.Source==l))):=by
 unfold bO
 simp[List.any_append]
theorem Nq(m:aL)(s:aT):fP { m with aD:=m.aD++[s] }≤fP m:=by
 unfold fP
 have:(m.aj.map (kT { m with aD:=m.aD++[s] })).sum≤(m.aj.map (kT m)).sum:=zK _ _ _ fun c _=>by
  unfold kT Tf
  rw[rz]
  cases h:bO m c.Local with
  | true=>simp
  | false=>cases h2:((s.Kind==6)&&(s.Source==c.Local)) <;> simp
 exact Nat.add_le_add_right this _
theorem JX(m:aL)(s:aT)(hk:s.Kind=6){c:aS}(hc:c∈m.aj)(hs:s.Source=c.Local)(hn:bO m c.Local=false):fP { m with aD:=m.aD++[s] }+108≤fP m:=by
 unfold fP
 have:(m.aj.map (kT { m with aD:=m.aD++[s] })).sum+108≤(m.aj.map (kT m)).sum:=GL _ _ _ _ (fun c _=>by
  unfold kT Tf
  rw[rz]
  cases h:bO m c.Local with
  | true=>simp
  | false=>cases h2:((s.Kind==6)&&(s.Source==c.Local)) <;> simp) ⟨c,hc,by
    unfold kT Tf
    rw[rz,hn,hk,hs]
    simp⟩
 have e:uU { m with aD:=m.aD++[s] }=uU m:=rfl
 show(m.aj.map (kT { m with aD:=m.aD++[s] })).sum+uU { m with aD:=m.aD++[s] }+108≤_
 rw[e]
 omega
theorem La(m:aL)(s:aT)(hk:0≤s.Kind∧s.Kind<256):fP (uf m s)≤fP m+44+27*nY s.Kind:=by
 have h1:=Nq (jM (jI m) (fT s (wR m))) (fT s (wR m))
 have h2:=mR (jI m) (fT s (wR m)) hk
 rw[Ah]at h2
 exact Nat.le_trans h1 h2
theorem EX(m:aL){c:aS}(hc:c∈m.aj):fP (nL m c)≤fP m:=by
 unfold nL
 by_cases h:bO m c.Local=true
 ·rw[if_pos h];omega
 ·rw[if_neg h]
  have hs:=mR (jI m) (fT ⟨6,0,0,c.Local,c.Remote,0,0,0,0,⟨0,0,0,0,0⟩⟩ (wR m)) (by simp only[fT];omega)
  have h6:=JX (jM (jI m) (fT ⟨6,0,0,c.Local,c.Remote,0,0,0,0,⟨0,0,0,0,0⟩⟩ (wR m))) (fT ⟨6,0,0,c.Local,c.Remote,0,0,0,0,⟨0,0,0,0,0⟩⟩ (wR m)) rfl (c:=c) hc rfl (show bO m c.Local=false by simpa using h)
  rw[Ah]at hs
  have e6:nY 6=2:=by decide
  simp only[fT,e6]at hs h6
  unfold uf fT
  exact Nat.le_of_add_le_add_right (Nat.le_trans h6 (by omega):_+108≤fP m+108)
theorem TA{α:Type}(f:α→Nat){l:List α}{i:Nat}{x y:α}(h:l[i]? = some x):((l.set i y).map f).sum+f x=(l.map f).sum+f y:=by
 induction l generalizing i with
 | nil=>simp at h
 | cons a l ih=>
   cases i with
   | zero=>
     simp at h
     subst h
     simp only[List.set_cons_zero,List.map_cons,List.sum_cons]
     omega
   | succ i=>
     have:=ih (by simpa using h)
     simp only[List.set_cons_succ,List.map_cons,List.sum_cons]
     omega
theorem yV(m:aL){i:Nat}{c c':aS}(hc:m.aj[i]? = some c)(hl:c'.Local=c.Local):fP (gy m i c')+Cg c=fP m+Cg c':=by
 have e:∀d,kT (gy m i c') d=kT m d:=fun d=>rfl
 have h:=TA (kT m) (y:=c') hc
 have e2:kT m c'+Cg c=kT m c+Cg c':=by
  unfold kT Tf
  rw[hl]
  omega
 unfold fP
 rw[show kT (gy m i c')=kT m from funext e,show uU (gy m i c')=uU m from rfl,show(gy m i c').aj=m.aj.set i c' from rfl]
 omega
theorem Ye{α:Type}(f:α→Nat){l:List α}{i:Nat}{x:α}(h:l[i]? = some x):((qD l i).map f).sum+f x=(l.map f).sum:=by
 induction l generalizing i with
 | nil=>simp at h
 | cons a l ih=>
   cases i with
   | zero=>
     simp at h
     subst h
     simp[qD]
     omega
   | succ i=>
     have:=ih (i:=i) (by simpa using h)
     unfold qD at this ⊢
     simp only[List.take_succ_cons,List.drop_succ_cons,List.cons_append,List.map_cons,List.sum_cons]
     omega
theorem Ia(m:aL){i:Nat}{c:aS}(hc:m.aj[i]? = some c):fP { m with aj:=qD m.aj i }+kT m c=fP m:=by
 have h:=Ye (kT m) hc
 have e:kT { m with aj:=qD m.aj i }=kT m:=rfl
 unfold fP
 rw[e,show uU { m with aj:=qD m.aj i }=uU m from rfl]
 show((qD m.aj i).map (kT m)).sum+_+_=_
 omega
theorem KV(f:aS→Nat)(c:aS):∀l,((jY c l).map f).sum=(l.map f).sum+f c
 | []=>by simp[jY]
 | d::l=>by
   unfold jY
   split
   ·have:=KV f c l
    simp only[List.map_cons,List.sum_cons]
    omega
   ·simp only[List.map_cons,List.sum_cons]
    omega
theorem Lb(m:aL)(c:aS)(ho:c.Out=[]):fP { m with aj:=jY c m.aj }≤fP m+108:=by
 have h:=KV (kT m) c m.aj
 have e:kT { m with aj:=jY c m.aj }=kT m:=rfl
 unfold fP
 rw[e,show uU { m with aj:=jY c m.aj }=uU m from rfl]
 show((jY c m.aj).map (kT m)).sum+_≤_
 have:kT m c≤108:=by
  unfold kT Cg Tf
  rw[ho]
  simp
  split <;> omega
 omega
end Po
end V
namespace V
def Fp(m:aL)(n:Int):Option (Nat×aS):=match m.aj.findIdx? (fun c=>c.Local==n)with
 | none=>none
 | some i=>match m.aj[i]? with
   | none=>none
   | some c=>some (i,c)
def JU(m:aL)(n:Int):Option (Nat×aS):=match m.aj.findIdx? (fun c=>c.Remote==n)with
 | none=>none
 | some i=>match m.aj[i]? with
   | none=>none
   | some c=>some (i,c)
theorem dV(m:aL)(n:Int):(Fp m n=none∧Az m n = -1∧∀c∈m.aj,c.Local≠n)∨∃(i:Nat) (c:aS),Fp m n=some (i,c)∧Az m n=(i:Int)∧m.aj[i]? = some c∧c.Local=n:=by
 rcases wT m n with⟨h1,h2⟩ | ⟨i,c,h1,h2,h3⟩
 ·refine .inl ⟨?_,h1,fun c hc e=>?_⟩
  ·unfold Fp
   unfold Az fidx at h1
   split
   ·rfl
   ·rename_i i hi
    rw[hi]at h1
    simp only at h1
    omega
  ·rw[List.any_eq_false]at h2
   exact h2 c hc (by simpa using e)
 ·refine .inr ⟨i,c,?_,h1,h2,h3⟩
  unfold Fp
  unfold Az fidx at h1
  split
  ·rename_i hi
   rw[hi]at h1
   simp only at h1
   omega
  ·rename_i j hj
   rw[hj]at h1
   simp only at h1
   have:j=i:=by omega
   subst this
   rw[h2]
theorem ko(m:aL)(n:Int):(JU m n=none∧ET m n = -1∧∀c∈m.aj,c.Remote≠n)∨∃(i:Nat) (c:aS),JU m n=some (i,c)∧ET m n=(i:Int)∧m.aj[i]? = some c∧c.Remote=n:=by
 rcases Nk m n with⟨h1,h2⟩ | ⟨i,c,h1,h2,h3⟩
 ·refine .inl ⟨?_,h1,fun c hc e=>?_⟩
  ·unfold JU
   unfold ET fidx at h1
   split
   ·rfl
   ·rename_i i hi
    rw[hi]at h1
    simp only at h1
    omega
  ·rw[List.any_eq_false]at h2
   exact h2 c hc (by simpa using e)
 ·refine .inr ⟨i,c,?_,h1,h2,h3⟩
  unfold JU
  unfold ET fidx at h1
  split
  ·rename_i hi
   rw[hi]at h1
   simp only at h1
   omega
  ·rename_i j hj
   rw[hj]at h1
   simp only at h1
   have:j=i:=by omega
   subst this
   rw[h2]
def iE(m:aL)(psm sP mps cr:Int):aL×Int×Int:=
 if psm=0 then(m,0,1)else if (iL sP&&(iL mps&&countB cr))=false then(m,0,5)else if 16≤fU m∨64≤m.Out.length then(m,0,8)else(uf m ⟨20,0,psm,l5 m,0,sP,mps,cr,0,zu⟩,l5 m,0)
def Cw(m:aL)(n:Int):aL×Int:=match Fp m n with
 | none=>(m,6)
 | some (_,c)=>if bO m n=true then(m,9)else if 64≤m.Out.length then(m,8)else(nL m c,0)
def K9(c:aS)(b:List Int):aS×Int:=
 if c.Failed=true then(c,9)else if (b.length:Int)>c.jv then(c,4)else if 64≤c.Out.length then(c,8)else({ c with Out:=c.Out++[b] },0)
def kY(m:aL)(n:Int)(b:List Int):aL×Int:=match Fp m n with
 | none=>(m,6)
 | some (i,c)=>if bO m n=true then(m,9)else if (K9 c b).2=0 then(gy m i (K9 c b).1,0)else(m,(K9 c b).2)
def tL(m:aL)(n:Int)(b:List Int):aL×Int:=
 if n≠4∧n≠6 then(m,5)else if 4096<b.length then(m,4)else if 64≤m.Out.length then(m,8)else(qd m n b,0)
def sF(m:aL)(u:jo):aL×Int:=
 if m.iU≠1 then(m,9)else if Sg.mJ u≠0 then(m,Sg.mJ u)else if (m.aD.any fun s=>s.Kind==18)=true then(m,20)else if 64≤m.Out.length then(m,8)else(uf m ⟨18,0,0,0,0,0,0,0,0,u⟩,0)
def tu(m:aL)(id r:Int):aL×Int:=
 if m.iU≠0 then(m,9)else if ¬ ((1≤id∧id≤255)∧(r=0∨r=1))then(m,5)else if 64≤m.Out.length then(m,8)else(jM m ⟨19,id,0,0,0,0,0,0,r,zu⟩,0)
theorem sQ(l:List bM):(len l≥64)↔64≤l.length:=by rw[lN];omega
theorem tT{k:Nat}{m:aL}(h:MInv k m)(hk:k≤900000000)(psm sP mps cr:Int)(hp:0≤psm∧psm≤65535):q1f FF m psm sP mps cr=some (iE m psm sP mps cr)∧MInv (k+1) (iE m psm sP mps cr).1:=by
 have hal:=h.sH
 have hcl:=h.qC
 have hol:=h.jm
 unfold q1f iE
 rw[uV FF m ff (h.sz (by omega)),bs,LK ⟨m,[]⟩ (by simp only;omega) (by simp only;omega) h.ids,bs]
 by_cases h0:psm=0
 ·rw[if_pos (by simpa using h0),if_pos h0]
  exact⟨rfl,h.more (by omega)⟩
 rw[if_neg (c:=(psm==0)=true) (by simpa using h0),if_neg h0]
 rw[show qy FF sP=some (iL sP)from rfl,show qy FF mps=some (iL mps)from rfl,show qn FF cr 0 65535=some (countB cr)from rfl,vC]
 cases hb1:iL sP with
 | false=>exact⟨rfl,h.more (by omega)⟩
 | true=>
 cases hb2:iL mps with
 | false=>exact⟨rfl,h.more (by omega)⟩
 | true=>
 cases hb3:countB cr with
 | false=>exact⟨rfl,h.more (by omega)⟩
 | true=>
 rw[if_neg (c:=(true&&(true&&true))=false) (by simp)]
 by_cases hu:fU m<16
 ·by_cases ho:len m.Out≥64
  ·rw[if_pos (c:=16≤fU m∨64≤m.Out.length) (.inr ((sQ _).1 ho))]
   refine⟨?_,h.more (by omega)⟩
   simp only[bs,Bool.not_true,Bool.false_eq_true,if_false,dt hu,dt ho,if_true]
  ·obtain⟨v,_,f2,f3,f4,f5⟩:=kD (m:=m) (by omega)
   have hs:oJ (fT ⟨20,0,psm,v,0,sP,mps,cr,0,zu⟩ (wR m)):=KY (mX h) ⟨show 1≤psm by omega,hp.2⟩ ⟨f4,f5⟩ hb1 hb2 hb3
   rw[if_neg (c:=16≤fU m∨64≤m.Out.length) (by rw[← sQ];omega),f2]
   refine⟨?_,h.uf hs (.inl ⟨rfl,f3,hu⟩)⟩
   simp only[bs,Bool.not_true,Bool.false_eq_true,if_false,dt hu,decide_eq_false ho,if_pos hu,f2]
   have:=KH ⟨m,[]⟩ ⟨20,0,psm,v,0,sP,mps,cr,0,zu⟩ hs h.next (by simp only;omega) (by simp only;omega)
   rw[show(⟨20,0,psm,v,0,sP,mps,cr,0,⟨0,0,0,0,0⟩⟩:aT)=⟨20,0,psm,v,0,sP,mps,cr,0,zu⟩from rfl,this]
   rfl
 ·rw[if_pos (c:=16≤fU m∨64≤m.Out.length) (.inl (by omega))]
  refine⟨?_,h.more (by omega)⟩
  simp only[bs,Bool.not_true,Bool.false_eq_true,if_false,decide_eq_false hu,Bool.not_false,if_true]
theorem nM{k:Nat}{m:aL}(h:MInv k m)(hk:k≤900000000)(n:Int):q32 FF m n=some (Cw m n)∧MInv (k+1) (Cw m n).1:=by
 have hal:=h.sH
 have hcl:=h.qC
 have hol:=h.jm
 unfold q32 Cw
 rw[uV FF m ff (h.sz (by omega)),bs,Lj ⟨m,[]⟩ n (by simp only;omega) (by simp only;omega),bs,vC]
 rcases dV m n with⟨hq,hl,_⟩ | ⟨i,c,hq,hl,hc,hn⟩
 ·rw[hl,hq]
  exact⟨rfl,h.more (by omega)⟩
 ·rw[hl,hq,if_neg (show ¬ ((i:Int)<0) by omega),bs]
  simp only
  by_cases hb:bO m n=true
  ·rw[if_pos hb,if_pos hb]
   exact⟨rfl,h.more (by omega)⟩
  ·rw[if_neg hb,if_neg hb,if_neg (by simp)]
   by_cases ho:len m.Out≥64
   ·rw[if_pos (dt ho),if_pos ((sQ _).1 ho)]
    exact⟨rfl,h.more (by omega)⟩
   ·obtain⟨hs,hI⟩:=h.nL (List.mem_of_getElem? hc)
    rw[if_neg (df ho),if_neg (by rw[← sQ];exact ho),QY ⟨m,[]⟩ i c hc hs h.next (by simp only;omega) (by simp only;omega)]
    exact⟨rfl,hI⟩
theorem Uh(c:aS)(b:List Int)(hs:Sd.Sm c)(hb:b.length≤16384)(h:Sd.Ok c):q51 FF c b=some (K9 c b)∧Sd.Ok (K9 c b).1∧(K9 c b).1.Local=c.Local∧(K9 c b).1.Remote=c.Remote:=by
 unfold q51 q7l K9
 rw[Sd.kE FF c (by decide) hs]
 simp only[bs]
 by_cases h1:c.Failed=true
 ·rw[if_pos h1,if_pos h1];exact⟨rfl,h,rfl,rfl⟩
 rw[if_neg h1,if_neg h1]
 have hlb:=lN b
 have hlo:=lN c.Out
 by_cases h2:(b.length:Int)>c.jv
 ·rw[if_pos (c:=decide (len b>c.jv)=true) (dt (by omega)),if_pos h2];exact⟨rfl,h,rfl,rfl⟩
 rw[if_neg (c:=decide (len b>c.jv)=true) (df (by omega)),if_neg h2]
 by_cases h3:64≤c.Out.length
 ·rw[if_pos (c:=decide (len c.Out≥64)=true) (dt (by omega)),if_pos h3];exact⟨rfl,h,rfl,rfl⟩
 rw[if_neg (c:=decide (len c.Out≥64)=true) (df (by omega)),if_neg h3]
 have ho:=h.few
 rw[y5 FF [b] (by simp;decide) (by simp) (by simp;omega)]
 simp only[bs,List.flatten_singleton]
 rw[dP (by simp;omega) (by omega)]
 simp only[bs]
 refine⟨trivial,?_,trivial,trivial⟩
 obtain⟨a1,a2,b1,b2,b3,b4,b5,b6,b7,a4,a5,c1,c2,c3⟩:=h
 refine⟨a1,a2,b1,b2,b3,b4,b5,b6,b7,by simp only[lA,List.length_singleton];omega,fun s hs=>?_,?_,c2,c3⟩
 ·rcases List.mem_append.1 hs with hs | hs
  ·exact a5 s hs
  ·rw[List.mem_singleton]at hs
   subst hs
   show(_:Int)≤c.jv
   omega
 ·unfold Sd.lastOf at c1 ⊢
  simp only
  cases hc:c.Out with
  | nil=>rw[hc]at c1;simp only[List.nil_append]at c1 ⊢;omega
  | cons s r=>rw[hc]at c1;exact c1
theorem zT{k:Nat}{m:aL}(h:MInv k m)(hk:k≤900000000)(n:Int)(b:List Int)(hb:b.length≤16384):q1m FF m n b=some (kY m n b)∧MInv (k+1) (kY m n b).1:=by
 have hal:=h.sH
 have hcl:=h.qC
 have hol:=h.jm
 unfold q1m kY
 rw[uV FF m ff (h.sz (by omega)),bs,Lj ⟨m,[]⟩ n (by simp only;omega) (by simp only;omega),bs]
 rcases dV m n with⟨hq,hl,_⟩ | ⟨i,c,hq,hl,hc,hn⟩
 ·rw[hl,hq]
  exact⟨rfl,h.more (by omega)⟩
 ·rw[hl,hq,if_neg (show ¬ ((i:Int)<0) by omega)]
  simp only
  by_cases hb':bO m n=true
  ·rw[if_pos hb',if_pos hb']
   exact⟨rfl,h.more (by omega)⟩
  ·rw[if_neg hb',if_neg hb',if_neg (by simp)]
   have hok:=h.qE c (List.mem_of_getElem? hc)
   obtain⟨q1,q3,q4,q5⟩:=Uh c b hok.sm hb hok
   simp only[bf hc,bs,q1]
   by_cases he:(K9 c b).2=0
   ·rw[if_neg (by simpa using he),if_pos he,rH hc]
    exact⟨rfl,(h.put hc q3 q4).more (by omega)⟩
   ·rw[if_pos (by simpa using he),if_neg he]
    exact⟨rfl,h.more (by omega)⟩
theorem IX{k:Nat}{m:aL}(h:MInv k m)(hk:k≤900000000)(n:Int)(b:List Int):q1l FF m n b=some (tL m n b)∧MInv (k+1) (tL m n b).1:=by
 have hol:=h.jm
 unfold q1l tL
 rw[uV FF m ff (h.sz (by omega)),bs,vC]
 by_cases h1:n≠4∧n≠6
 ·rw[if_pos (by simpa using h1),if_pos h1];exact⟨rfl,h.more (by omega)⟩
 rw[if_neg (by simpa using h1),if_neg h1]
 by_cases h2:len b>4096
 ·rw[if_pos (dt h2),if_pos (by rw[lN]at h2;omega)];exact⟨rfl,h.more (by omega)⟩
 rw[if_neg (df h2),if_neg (by rw[lN]at h2;omega),bs]
 by_cases h3:len m.Out≥64
 ·rw[if_pos (dt h3),if_pos ((sQ _).1 h3)];exact⟨rfl,h.more (by omega)⟩
 have hbl:b.length≤4096:=by rw[lN]at h2;omega
 rw[if_neg (df h3),if_neg (by rw[← sQ];exact h3),Ae ⟨m,[]⟩ n b (by omega) (by simp only;omega)]
 exact⟨rfl,h.qd hbl (by omega)⟩
theorem wQ{k:Nat}{m:aL}(h:MInv k m)(hk:k≤900000000)(u:jo):q34 FF m u=some (sF m u)∧MInv (k+1) (sF m u).1:=by
 have hal:=h.sH
 have hol:=h.jm
 unfold q34 sF
 rw[uV FF m ff (h.sz (by omega)),bs,vC,ZX _ (by simp only;omega),Sg.O9 FF u (by have:=FFk;omega)]
 by_cases h1:m.iU≠1
 ·rw[if_pos (by simpa using h1),if_pos h1];exact⟨rfl,h.more (by omega)⟩
 rw[if_neg (by simpa using h1),if_neg h1]
 simp only[bs]
 by_cases h2:Sg.mJ u=0
 ·rw[if_neg (c:=(Sg.mJ u != 0)=true) (by simpa using h2),if_neg (c:=Sg.mJ u≠0) (not_not_intro h2)]
  by_cases h3:(m.aD.any fun s=>s.Kind==18)=true
  ·rw[if_pos h3,if_pos h3];exact⟨rfl,h.more (by omega)⟩
  rw[if_neg h3,if_neg h3]
  by_cases h4:len m.Out≥64
  ·rw[if_pos (dt h4),if_pos ((sQ _).1 h4)];exact⟨rfl,h.more (by omega)⟩
  have hs:oJ (fT ⟨18,0,0,0,0,0,0,0,0,u⟩ (wR m)):=KW (mX h) h2
  rw[if_neg (df h4),if_neg (by rw[← sQ];exact h4),KH ⟨m,[]⟩ _ hs h.next (by simp only;omega) (by simp only;omega)]
  exact⟨rfl,h.uf hs (.inr (.inr ⟨rfl,(Bool.not_eq_true _).mp h3⟩))⟩
 ·rw[if_pos (c:=(Sg.mJ u != 0)=true) (by simpa using h2),if_pos h2]
  exact⟨rfl,h.more (by omega)⟩
theorem z8{k:Nat}{m:aL}(h:MInv k m)(hk:k≤900000000)(id r:Int):q1n FF m id r=some (tu m id r)∧MInv (k+1) (tu m id r).1:=by
 have hol:=h.jm
 unfold q1n tu
 rw[uV FF m ff (h.sz (by omega)),bs,vC,show qn FF id 1 255=some (decide (id≥1)&&decide (id≤255))from rfl]
 by_cases h1:m.iU≠0
 ·rw[if_pos (by simpa using h1),if_pos h1];exact⟨rfl,h.more (by omega)⟩
 rw[if_neg (by simpa using h1),if_neg h1,bs]
 by_cases h2:(1≤id∧id≤255)∧(r=0∨r=1)
 ·rw[if_neg (by simp;omega),if_neg (c:=¬ ((1≤id∧id≤255)∧(r=0∨r=1))) (not_not_intro h2),bs]
  by_cases h4:len m.Out≥64
  ·rw[if_pos (dt h4),if_pos ((sQ _).1 h4)];exact⟨rfl,h.more (by omega)⟩
  have hs:oJ ⟨19,id,0,0,0,0,0,0,r,zu⟩:=rP h2.1 19 (.inl ⟨rfl,h2.2⟩)
  have e1:=rR ⟨m,[]⟩ _ hs (by simp only;omega)
  unfold zu at e1
  rw[if_neg (df h4),if_neg (by rw[← sQ];exact h4),e1]
  exact⟨rfl,h.say _⟩
 ·rw[if_pos (by simp;omega),if_pos h2]
  exact⟨rfl,h.more (by omega)⟩
end V
namespace V
abbrev ME:=aL×List gD
def newC(r s:aT):aS:=⟨r.Source,s.Source,r.bU,r.bZ,r.cu,s.bZ,s.cu,s.aA,r.aA,r.aA,[],0,[],-1,false⟩
def qY(m:aL)(n:Int):ME:=match Fp m n with
 | none=>(m,[])
 | some (i,_)=>({ m with aj:=qD m.aj i },[DJ 4 n 0 0])
def takeC(m:aL)(s:aT):Option (Nat×aT):=match m.aD.findIdx? (fun r=>nA r s)with
 | none=>none
 | some i=>match m.aD[i]? with
   | none=>none
   | some r=>some (i,r)
def fI(m:aL)(i:Nat):aL:={ m with aD:=qD m.aD i }
def sG(m:aL)(s:aT):ME:=match takeC m s with
 | none=>(m,[])
 | some (i,r)=>
   if r.Kind=20 then(if s.Kind=1 then(fI m i,[DJ 5 r.Source 1 0])else if s.Result≠0 then(fI m i,[DJ 5 r.Source s.Result 0])else if (JU m s.Source).isSome=true then(fI m i,[DJ 5 r.Source 9 0])else({ fI m i with aj:=jY (newC r s) m.aj },[DJ 2 r.Source 0 0]))
   else if r.Kind=6 then qY (fI m i) r.Source
   else(fI m i,[DJ 7 0 (if s.Kind=1 then 1 else s.Result) s.ID])
def H7(s:aT)(r:Int):aT:=⟨21,s.ID,0,0,0,0,0,0,r,zu⟩
def Cq(id r:Int):aT:=⟨1,id,0,0,0,0,0,0,r,zu⟩
def Oy(s:aT)(v:Int)(L:eZ):aT:=⟨21,s.ID,0,v,0,L.bZ,L.cu,L.aA,0,zu⟩
def yO(s:aT)(v:Int)(L:eZ):aS:=⟨v,s.Source,s.bU,L.bZ,L.cu,s.bZ,s.cu,s.aA,L.aA,L.aA,[],0,[],-1,false⟩
def UK(m:aL)(n:Int):Option eZ:=match m.ak.findIdx? (fun o=>o.bU==n)with
 | none=>none
 | some i=>m.ak[i]?
def tV(m:aL)(s:aT):ME:=match UK m s.bU with
 | none=>(jM m (H7 s 2),[])
 | some L=>if m.Level<L.Level then(jM m (H7 s 5),[])else if 16≤fU m then(jM m (H7 s 4),[])else if (JU m s.Source).isSome=true then(jM m (H7 s 9),[])else(jM { m with aj:=jY (yO s (l5 m) L) m.aj } (Oy s (l5 m) L),[DJ 2 (l5 m) 0 0])
def oC(m:aL)(s:aT):ME:=match Fp m s.bR with
 | none=>(jM m (Cq s.ID 2),[])
 | some (i,c)=>if c.Remote≠s.Source then(jM m (Cq s.ID 2),[])else(jM { m with aj:=qD m.aj i } ⟨7,s.ID,0,s.Source,s.bR,0,0,0,0,zu⟩,[DJ 4 s.bR 0 0])
def mU(m:aL)(s:aT):ME:=if m.iU=0 then(m,[⟨6,0,[],0,s.Update,s.ID⟩])else(jM m (Cq s.ID 0),[])
def Ce(c:aS)(n:Int):aS×Int:=if c.Failed=true then(c,9)else if n<1 then({ c with Failed:=true },5)else if n>65535-c.aN then({ c with Failed:=true },19)else({ c with aN:=c.aN+n },0)
def BG(m:aL)(s:aT):aL:=match JU m s.Source with
 | none=>m
 | some (i,c)=>if bO m c.Local=true then m else if (Ce c s.aA).2≠0 then nL (gy m i (Ce c s.aA).1) (Ce c s.aA).1 else gy m i (Ce c s.aA).1
def yA(m:aL)(s:aT):ME:=
 if s.Kind=20 then tV m s else if s.Kind=6 then oC m s else if s.Kind=18 then mU m s else if s.Kind=22 then(BG m s,[])else sG m s
def DoesM(k:Nat)(P:Option bJ)(r:ME):Prop:=P=some ⟨r.1,r.2⟩∧MInv k r.1∧r.2.length≤1
theorem JL{k:Nat}{m:aL}(h:MInv k m)(hk:k≤900000000){s:aT}(hs:oJ s):DoesM (k+1) ((qe FF ⟨m,[]⟩ s).bind fun x=>some x) (jM m s,[]):=by
 have hol:=h.jm
 have e1:=rR ⟨m,[]⟩ _ hs (by simp only;omega)
 refine⟨by rw[e1];rfl,h.say _,by simp⟩
theorem Dx(m:aL)(n:Int):(UK m n=none∧fidx (fun o:eZ=>o.bU==n) m.ak = -1)∨∃(i:Nat) (L:eZ),UK m n=some L∧fidx (fun o:eZ=>o.bU==n) m.ak=(i:Int)∧m.ak[i]? = some L:=by
 unfold UK fidx
 cases hq:m.ak.findIdx? (fun o=>o.bU==n)with
 | none=>exact .inl ⟨rfl,rfl⟩
 | some i=>
   rw[List.findIdx?_eq_some_iff_getElem]at hq
   obtain⟨h1,_⟩:=hq
   exact .inr ⟨i,m.ak[i],gE h1,rfl,gE h1⟩
theorem Rn{k:Nat}{m:aL}(h:MInv k m)(hk:k≤900000000){s:aT}(hs:oJ s)(hkd:s.Kind=20):DoesM (k+1) (q4u FF ⟨m,[]⟩ s) (tV m s):=by
 have hal:=h.sH
 have hcl:=h.qC
 have hol:=h.jm
 have hll:=h.J9
 have hi:=DF hs
 unfold q4u q5q tV
 rw[Vh m.ak s (by omega),bs,LK ⟨m,[]⟩ (by simp only;omega) (by simp only;omega) h.ids,bs]
 rcases Dx m s.bU with⟨q1,q2⟩ | ⟨i,L,q1,he,hx⟩
 ·rw[q1,q2,if_pos (dt (show(-1:Int)<0 by decide)),bs,if_pos (by decide)]
  exact JL h hk (mM hi (r:=2) (by omega))
 ·have hlm:=h.NK _ (List.mem_of_getElem? hx)
  rw[q1,he,if_neg (df (by simp only;omega))]
  simp only[bf hx,bs]
  unfold q76
  by_cases hlv:m.Level<L.Level
  ·rw[if_pos (dt hlv),if_pos hlv,bs,if_pos (by decide)]
   exact JL h hk (mM hi (r:=5) (by omega))
  rw[if_neg (df hlv),if_neg hlv]
  by_cases hu:fU m<16
  ·rw[if_neg (c:=16≤fU m) (by omega)]
   simp only[dt hu,Bool.not_true,Bool.false_eq_true,if_false,if_pos hu,wO ⟨m,[]⟩ s.Source (by simp only;omega),bs]
   rcases ko m s.Source with⟨hn,hr,_⟩ | ⟨j,c,hn,hr,hc,_⟩
   ·rw[hr,hn,if_neg (df (by omega)),bf hx,bs,bs,if_neg (by simp),if_neg (by simp)]
    obtain⟨v,_,f2,f3,f4,f5⟩:=kD (m:=m) (by omega)
    obtain⟨g1,g2,g3,g4,g5⟩:=KC hs (.inl hkd)
    have hq:=KZ hi ⟨f4,f5⟩ hlm.1 hlm.2.1 hlm.2.2
    have e1:=rR ⟨m,[]⟩ _ hq (by simp only;omega)
    have e3:=Sk (wm ⟨m,[]⟩ (jM m (Oy s v L))) ⟨v,s.Source,s.bU,L.bZ,L.cu,s.bZ,s.cu,s.aA,L.aA,L.aA,[],0,[],0,false⟩ (show m.aj.length≤1000 by omega) (by simp[wm])
    have hok:Sd.Ok (yO s v L):=by
     obtain⟨l1,l2,l3⟩:=hlm
     unfold iL at l1 l2
     unfold countB at l3
     simp only[Bool.and_eq_true,decide_eq_true_eq]at l1 l2 l3
     refine⟨by simp only[yO];omega,g5 hkd,l1,l2,g2,g3,g4,l3,l3,by simp[yO],by simp[yO],by simp[Sd.lastOf,yO],by simp only[yO];omega,by simp[yO]⟩
    have hI:=Z8 h (l:=yO s v L) hok rfl f3 hu
    rw[f2]
    refine⟨?_,hI.say _,by simp⟩
    unfold Oy zu at e3
    unfold zu at e1
    rw[e1,bs,e3]
    rfl
   ·rw[hr,hn,if_pos (dt (by omega)),bs,if_pos (by decide),if_pos (by simp)]
    exact JL h hk (mM hi (r:=9) (by omega))
  ·rw[if_pos (c:=16≤fU m) (by omega)]
   simp only[decide_eq_false hu,Bool.not_false,if_true,bs]
   rw[if_pos (by decide)]
   exact JL h hk (mM hi (r:=4) (by omega))
theorem Od{k:Nat}{m:aL}(h:MInv k m)(hk:k≤900000000){s:aT}(hs:oJ s):DoesM (k+1) (q4m FF ⟨m,[]⟩ s) (oC m s):=by
 have hal:=h.sH
 have hcl:=h.qC
 have hol:=h.jm
 have hi:=DF hs
 have hrej:∀x:Int,DoesM (k+1) (q65 FF ⟨m,[]⟩ s x true) (jM m (Cq s.ID 2),[]):=fun x=>JL h hk (rP hi 1 (.inr ⟨rfl,.inr rfl⟩))
 unfold q4m oC
 rw[u7 ⟨m,[]⟩ s.bR (by simp only;omega),bs]
 rcases dV m s.bR with⟨hn,hl,_⟩ | ⟨i,c,hn,hl,hc,hq⟩
 ·rw[hl,hn,if_pos (dt (by omega))]
  exact hrej _
 ·rw[hl,hn,if_neg (df (by omega)),bf hc,bs]
  simp only
  by_cases hr:c.Remote=s.Source
  ·rw[show(c.Remote != s.Source)=false by simp[hr],if_neg (not_not_intro hr)]
   have hcs:=lY (h.qE c (List.mem_of_getElem? hc))
   have hsd:=EO hi (src:=s.Source) (dst:=s.bR) (by omega) (by omega) 7 (.inr rfl)
   have e1:=rR ⟨m,[]⟩ _ hsd (by simp only;omega)
   have e3:=Dj (wm ⟨m,[]⟩ (jM m ⟨7,s.ID,0,s.Source,s.bR,0,0,0,0,zu⟩)) i c hc (show m.aj.length≤1000 by omega) (by simp[wm])
   refine⟨?_,(h.shut i).say _,by simp⟩
   show(qe FF ⟨m,[]⟩ ⟨7,s.ID,0,s.Source,s.bR,0,0,0,0,⟨0,0,0,0,0⟩⟩).bind _=_
   unfold zu at e1 e3
   rw[e1,bs,e3,hq]
   rfl
  ·rw[show(c.Remote != s.Source)=true by simpa using hr,if_pos hr]
   exact hrej _
theorem Ns{k:Nat}{m:aL}(h:MInv k m)(hk:k≤900000000){s:aT}(hs:oJ s):DoesM (k+1) (q4o FF ⟨m,[]⟩ s) (mU m s):=by
 unfold q4o mU
 by_cases hr:m.iU=0
 ·rw[if_pos (by simpa using hr),if_pos hr,uE _ _ (by simp only[List.length_nil];omega)]
  exact⟨rfl,h.more (by omega),by simp⟩
 ·rw[if_neg (by simpa using hr),if_neg hr]
  exact JL h hk (rP (DF hs) 1 (.inr ⟨rfl,.inl rfl⟩))
theorem H8{k:Nat}{m:aL}(h:MInv k m)(hk:k≤900000000){i:Nat}{c c':aS}(hc:m.aj[i]? = some c)(hok:Sd.Ok c')(he:c'.Local=c.Local)(es:List gD):Uv FF ⟨gy m i c',es⟩ (i:Int)=some ⟨nL (gy m i c') c',es⟩∧MInv (k+1) (nL (gy m i c') c'):=by
 have hI:=h.put hc hok he
 have hal:=hI.sH
 have hol:=hI.jm
 have hlt:=(gS.1 hc).1
 have hx:(gy m i c').aj[i]? = some c':=by unfold gy;simp[List.getElem?_set_self hlt]
 obtain⟨hs,hE⟩:=hI.nL (List.mem_of_getElem? hx)
 exact⟨QY ⟨gy m i c',es⟩ i c' hx hs hI.next (by simp only;omega) (by simp only;omega),hE⟩
theorem I8(c:aS)(n:Int)(h:Sd.Ok c):q3q FF c n=some (Ce c n)∧Sd.Ok (Ce c n).1∧(Ce c n).1.Local=c.Local:=by
 unfold q3q q66 q30 Ce
 rw[Sd.kE FF c (by decide) h.sm]
 simp only[bs]
 have hrx:=h.tx
 have hf:Sd.Ok { c with Failed:=true }:=by
  obtain⟨a1,a2,b1,b2,b3,b4,b5,b6,b7,a4,a5,c1,c2,c3⟩:=h
  exact⟨a1,a2,b1,b2,b3,b4,b5,b6,b7,a4,a5,c1,c2,c3⟩
 by_cases h1:c.Failed=true
 ·rw[if_pos h1,if_pos h1];exact⟨rfl,h,rfl⟩
 rw[if_neg h1,if_neg h1]
 rw[Sd.eY (x:=65535-c.aN) (by omega) (by omega)]
 by_cases h2:n<1
 ·rw[if_pos (c:=decide (n<1)=true) (dt h2),if_pos h2];exact⟨rfl,hf,rfl⟩
 rw[if_neg (c:=decide (n<1)=true) (df h2),if_neg h2]
 by_cases h3:n>65535-c.aN
 ·rw[if_pos (c:=decide (n>65535-c.aN)=true) (dt h3),if_pos h3];exact⟨rfl,hf,rfl⟩
 rw[if_neg (c:=decide (n>65535-c.aN)=true) (df h3),if_neg h3,bs,if_pos (by simp),Sd.eY (x:=c.aN+n) (by omega) (by omega)]
 have hff:c.Failed=false:=by simpa using h1
 refine⟨rfl,?_,rfl⟩
 obtain⟨a1,a2,b1,b2,b3,b4,b5,b6,b7,a4,a5,c1,c2,c3⟩:=h
 exact⟨a1,a2,b1,b2,b3,b4,by simp only;omega,b6,b7,a4,a5,c1,c2,c3⟩
theorem Rj{k:Nat}{m:aL}(h:MInv k m)(hk:k≤900000000)(s:aT):DoesM (k+1) (q4w FF ⟨m,[]⟩ s) (BG m s,[]):=by
 have hal:=h.sH
 have hcl:=h.qC
 unfold q4w BG
 rw[wO ⟨m,[]⟩ s.Source (by simp only;omega),bs]
 rcases ko m s.Source with⟨hq,hl,_⟩ | ⟨i,c,hq,hl,hc,hn⟩
 ·rw[hl,hq,if_pos (dt (by omega))]
  exact⟨rfl,h.more (by omega),by simp⟩
 ·rw[hl,hq,if_neg (df (by omega))]
  simp only[bf hc,bs,l9 ⟨m,[]⟩ c (show m.aD.length≤1000000 by omega)]
  by_cases hb:bO m c.Local=true
  ·rw[if_pos hb,if_pos hb]
   exact⟨rfl,h.more (by omega),by simp⟩
  rw[if_neg hb,if_neg hb]
  have ZF:=h.qE c (List.mem_of_getElem? hc)
  obtain⟨e1,e3,e4⟩:=I8 c s.aA ZF
  obtain⟨p1,p3⟩:=H8 h hk hc e3 e4 []
  unfold q7b q7a
  simp only[e1,bf hc,rH hc,bs]
  by_cases hz:(Ce c s.aA).2≠0
  ·rw[if_pos (c:=((Ce c s.aA).2 != 0)=true) (by simpa using hz),if_pos hz]
   refine⟨?_,p3,by simp⟩
   show(Uv FF ⟨gy m i (Ce c s.aA).1,[]⟩ (i:Int)).bind _=_
   rw[p1];rfl
  ·rw[if_neg (c:=((Ce c s.aA).2 != 0)=true) (by simpa using hz),if_neg hz]
   exact⟨rfl,(h.put hc e3 e4).more (by omega),by simp⟩
end V
namespace V
theorem oP(m:aL)(s:aT):(takeC m s=none∧m.aD.findIdx? (fun r=>nA r s)=none)∨∃(i:Nat) (r:aT),takeC m s=some (i,r)∧m.aD.findIdx? (fun r=>nA r s)=some i∧m.aD[i]? = some r∧nA r s=true:=by
 unfold takeC
 cases hq:m.aD.findIdx? (fun r=>nA r s)with
 | none=>exact .inl ⟨rfl,rfl⟩
 | some i=>
   rw[List.findIdx?_eq_some_iff_getElem]at hq
   obtain⟨h1,h2,_⟩:=hq
   have hx:m.aD[i]? = some m.aD[i]:=gE h1
   refine .inr ⟨i,m.aD[i],?_,rfl,hx,h2⟩
   simp only[hx]
theorem zI(m:aL)(s:aT)(hl:m.aD.length≤1000):YQ FF ⟨m,[]⟩ s=some (match takeC m s with
 | none=>(zs,false,⟨m,[]⟩)
 | some (i,r)=>(r,true,⟨fI m i,[]⟩)):=by
 have hdel:∀(i:Nat) (r:aT),m.aD[i]? = some r→q3o FF m.aD (i:Int) (aI ((i:Int)+1))=some (qD m.aD i):=fun i r hr=>by
  have hlt:=(gS.1 hr).1
  unfold q3o qD
  rw[wN i (by omega),if_pos (by omega)]
  rfl
 have k1:=ku (F:=FF) (body:=fun q:aT×Int=>Wv FF m.aD q.1 q.2) (l:=m.aD) (p:=fun r=>nA r s) (c:=s) (g:=fun i=>(i,s)) (fun i x hx=>by
  have hlt:=(gS.1 hx).1
  show Wv FF m.aD _ _=_
  unfold Wv q5n
  rw[if_pos (by simp[len];omega),bf hx]
  simp only[bs,Z7,wN i (by omega)]
  split <;> rfl) (by
  show Wv FF m.aD _ _=_
  unfold Wv
  rw[if_neg (by simp[len])]) (by rw[jD];omega)
 have k1':q4j FF m.aD s=some (fidx (fun r=>nA r s) m.aD,s):=by
  unfold q4j fidx
  rw[k1]
  cases m.aD.findIdx? (fun r=>nA r s) <;> rfl
 unfold YQ
 rw[k1',bs]
 rcases oP m s with⟨h1,h2⟩ | ⟨i,r,h1,h2,hx,_⟩
 ·have:fidx (fun r=>nA r s) m.aD = -1:=by unfold fidx;rw[h2]
  rw[this,h1]
  rfl
 ·have he:fidx (fun r=>nA r s) m.aD=(i:Int):=by unfold fidx;rw[h2]
  rw[he,h1,if_neg (df (by simp only;omega))]
  simp only[bf hx,bs,hdel i _ hx]
  rfl
theorem DI{k:Nat}{m:aL}(h:MInv k m)(n:Int):DoesM k (q2x FF ⟨m,[]⟩ n) (qY m n):=by
 have hcl:=h.qC
 unfold q2x qY
 rw[u7 ⟨m,[]⟩ n (by simp only;omega),bs]
 rcases dV m n with⟨hq,hl,_⟩ | ⟨i,c,hq,hl,hc,hc2⟩
 ·rw[hl,hq,if_neg (df (by omega))]
  exact⟨rfl,h,by simp⟩
 ·rw[hl,hq,if_pos (dt (by omega)),Dj ⟨m,[]⟩ i c hc (by simp only;omega) (by simp),hc2]
  exact⟨rfl,h.shut i,by simp⟩
theorem Ox{k:Nat}{m:aL}(h:MInv k m){i:Nat}{r s:aT}(hr:m.aD[i]? = some r)(IK:r.Kind=20)(hs:oJ s)(hq:s.Kind=21)(hz:s.Result=0):MInv k { fI m i with aj:=jY (newC r s) m.aj }∧(∀d∈m.aj,d.Local≠r.Source):=by
 obtain⟨hrs,rV⟩:=h.ask r (fF hr)
 obtain⟨g1,g2,g3,g4,_⟩:=KC hs (.inr ⟨hq,hz⟩)
 obtain⟨k1,k2,k3,k4,k5⟩:=KC hrs (.inl IK)
 have hok:Sd.Ok (newC r s):=⟨by simp only[newC];omega,k5 IK,k2,k3,g2,g3,g4,k4,k4,by simp[newC],by simp[newC],by simp[Sd.lastOf,newC],by simp only[newC];omega,by simp[newC]⟩
 have hne:∀d∈m.aj,d.Local≠r.Source:=fun d hd e=>h.xg d hd r (fF hr) IK e.symm
 refine⟨(h.drop i).add hok hne (fun t ht htk=>GQ h hr IK t ht (.inl htk)) ?_,hne⟩
 refine Nat.le_trans (rG (m:=m) fun v hv=>?_) h.cnt
 rcases(KR { m with aD:=qD m.aD i } _ v).1 hv with hv | hv
 ·rw[dM]at hv ⊢
  rcases hv with hv | ⟨t,ht,hq⟩
  ·exact .inl hv
  ·exact .inr ⟨t,(yT m.aD i).subset ht,hq⟩
 ·exact(dM m v).2 (.inr ⟨r,fF hr,.inl IK,hv.symm⟩)
theorem RQ{k:Nat}{m:aL}(h:MInv k m){s:aT}(hs:oJ s) :
 (s.Kind=1→DoesM k (q4l FF ⟨m,[]⟩ s) (sG m s))∧(s.Kind=7→DoesM k (q4n FF ⟨m,[]⟩ s) (sG m s))∧(s.Kind=19→DoesM k (q4p FF ⟨m,[]⟩ s) (sG m s))∧(s.Kind=21→DoesM k (q4v FF ⟨m,[]⟩ s) (sG m s)):=by
 have hal:=h.sH
 have hcl:=h.qC
 unfold q4l q4n q4p q4v sG
 rw[zI m s (by omega)]
 rcases oP m s with⟨h1,_⟩ | ⟨i,r,h1,_,hr,ha⟩
 ·rw[h1]
  exact⟨fun _=>⟨rfl,h,by simp⟩,fun _=>⟨rfl,h,by simp⟩,fun _=>⟨rfl,h,by simp⟩,fun _=>⟨rfl,h,by simp⟩⟩
 ·rw[h1]
  simp only[bs,Bool.not_true,Bool.false_eq_true,if_false,if_true]
  have hI:MInv k (fI m i):=h.drop i
  obtain⟨hrs,rV⟩:=h.ask r (fF hr)
  unfold nA at ha
  have IJ:∀e:gD,qc FF ⟨fI m i,[]⟩ e=some ⟨fI m i,[e]⟩:=fun e=>uE _ _ (by simp)
  refine⟨fun hq=>?_,fun hq=>?_,fun hq=>?_,fun hq=>?_⟩
  ·rcases rV with rV | rV | rV
   ·rw[if_pos (by simp[rV]),if_pos rV,if_pos hq,IJ]
    exact⟨rfl,hI,by simp⟩
   ·rw[if_neg (by simp[rV]),if_pos (by simp[rV]),if_neg (by omega),if_pos rV]
    obtain⟨z1,z2,z3⟩:=DI hI r.Source
    exact⟨by rw[z1];rfl,z2,z3⟩
   ·rw[if_neg (by simp[rV]),if_neg (by simp[rV]),if_pos (by simp[rV]),if_neg (by omega),if_neg (by omega),if_pos hq,IJ]
    exact⟨rfl,hI,by simp⟩
  ·have hr6:r.Kind=6:=by
    rcases rV with rV | rV | rV
    ·simp[hq,rV]at ha
    ·exact rV
    ·simp[hq,rV]at ha
   have hsr:s.Source=r.Source:=by simp[hq,hr6]at ha;exact ha.2.1
   rw[if_neg (by omega),if_pos hr6,hsr]
   obtain⟨z1,z2,z3⟩:=DI hI r.Source
   exact⟨by rw[z1];rfl,z2,z3⟩
  ·have hr18:r.Kind=18:=by
    rcases rV with rV | rV | rV
    ·simp[hq,rV]at ha
    ·simp[hq,rV]at ha
    ·exact rV
   rw[if_neg (by omega),if_neg (by omega),if_neg (by omega),IJ]
   exact⟨rfl,hI,by simp⟩
  ·have IK:r.Kind=20:=by
    rcases rV with rV | rV | rV
    ·exact rV
    ·simp[hq,rV]at ha
    ·simp[hq,rV]at ha
   rw[if_pos (c:=r.Kind=20) IK,if_neg (c:=s.Kind=1) (by omega)]
   by_cases hz:s.Result=0
   ·rw[if_neg (c:=(s.Result != 0)=true) (by simp[hz]),if_neg (c:=s.Result≠0) (not_not_intro hz),wO ⟨fI m i,[]⟩ s.Source (by simp only[fI];omega)]
    simp only[bs]
    have hrc:ET (fI m i) s.Source=ET m s.Source:=rfl
    rw[hrc]
    rcases ko m s.Source with⟨hn,hl,_⟩ | ⟨j,c,hn,hl,hc,_⟩
    ·rw[hl,hn,if_neg (df (by omega)),if_neg (by simp)]
     obtain⟨hN,_⟩:=Ox h hr IK hs hq hz
     have e3:=Sk ⟨fI m i,[]⟩ ⟨r.Source,s.Source,r.bU,r.bZ,r.cu,s.bZ,s.cu,s.aA,r.aA,r.aA,[],0,[],0,false⟩ (show m.aj.length≤1000 by omega) (by simp)
     refine⟨?_,hN,by simp⟩
     rw[e3];rfl
    ·rw[hl,hn,if_pos (dt (by omega)),if_pos (by simp),IJ]
     exact⟨rfl,hI,by simp⟩
   ·rw[if_pos (c:=(s.Result != 0)=true) (by simpa using hz),if_pos (c:=s.Result≠0) hz,IJ]
    exact⟨rfl,hI,by simp⟩
def KG(m:aL):List Int→ME
 | x::y::_=>if y≠0∧x≠1 then(jM m (Cq y 0),[])else(m,[])
 | _=>(m,[])
def GY(m:aL)(b:List Int):ME:=if (Sg.pV b).2=0 then yA m (Sg.pV b).1 else KG m b
theorem DoesM.left{k:Nat}{P:Option bJ}{r:ME}(h:DoesM k P r):DoesM k (P.bind fun x=>some x) r:=⟨by rw[h.1];rfl,h.2⟩
theorem DoesM.more{k n:Nat}{P:Option bJ}{r:ME}(h:DoesM k P r)(hn:k≤n):DoesM n P r:=⟨h.1,h.2.1.more hn,h.2.2⟩
theorem RL{k:Nat}{m:aL}(h:MInv k m)(hk:k≤900000000){b:List Int}(hb:∀x∈b,Byte x)(s:aT)(e:Int)(he:e≠0)(h1:q3m FF b=some (s,e)):DoesM (k+1) (YP FF ⟨m,[]⟩ b) (KG m b):=by
 unfold YP
 rw[h1,bs]
 have hz:(e != 0)=true:=by simpa using he
 rw[if_pos (c:=((s,e).2 != 0)=true) hz]
 match b,hb with
 | [],_=>exact⟨rfl,h.more (by omega),by simp[KG]⟩
 | [_],_=>exact⟨rfl,h.more (by omega),by simp[KG]⟩
 | x::y::r,hb=>
   have hx:=hb x (by simp)
   have hy:=hb y (by simp)
   have i0:idx (x::y::r) 0=some x:=dN _ 0
   have i1:idx (x::y::r) 1=some y:=dN _ 1
   have hl:decide (len (x::y::r)≥2)=true:=dt (by simp[len];omega)
   unfold KG
   simp only[hl,if_true,i0,i1,bs,O6 hy]
   by_cases hy0:y=0
   ·rw[if_neg (c:=y≠0∧x≠1) (fun q=>q.1 hy0)]
    simp only[hy0,bne_self_eq_false,Bool.false_eq_true,if_false,bs]
    exact⟨rfl,h.more (by omega),by simp⟩
   ·rw[if_pos (c:=(y != 0)=true) (by simpa using hy0),bs]
    by_cases hx1:x=1
    ·rw[if_neg (c:=(x != 1)=true) (by simp[hx1]),if_neg (c:=y≠0∧x≠1) (fun q=>q.2 hx1)]
     exact⟨rfl,h.more (by omega),by simp⟩
    ·rw[if_pos (c:=(x != 1)=true) (by simpa using hx1),if_pos (c:=y≠0∧x≠1) ⟨hy0,hx1⟩]
     have:=hy.1
     have:=hy.2
     exact JL h hk (rP (id:=y) (by omega) 1 (.inr ⟨rfl,.inl rfl⟩))
theorem Pp{k:Nat}{m:aL}(h:MInv k m)(hk:k≤900000000){b:List Int}(hb:∀x∈b,Byte x)(hl:b.length≤1000000):DoesM (k+1) (YP FF ⟨m,[]⟩ b) (GY m b):=by
 have d1:=Sg.TK b hb hl
 unfold GY
 rcases Sg.Oe b hb with⟨_,c2⟩ | ⟨c1,c2,c3,_⟩
 ·rw[if_neg c2]
  exact RL h hk hb _ _ c2 d1
 ·rw[if_pos c1]
  generalize Sg.pV b=z at *
  obtain⟨s,e⟩:=z
  simp only at c1 c2 c3
  subst c1
  have hs:oJ s:=⟨c2,c3⟩
  obtain⟨t1,t7,t19,t21⟩:=RQ h hs
  have hkn:=(Sg.iQ c2).1
  unfold YP
  rw[d1,bs,if_neg (c:=((s,(0:Int)).2 != 0)=true) (by simp)]
  unfold q3n yA
  simp only[bs]
  rcases Sg.kinds s.Kind with q | q | q | q | q | q | q | q | q
  ·simp only[q,Int.reduceBEq,Int.reduceEq,Bool.or_true,Bool.true_or,Bool.or_false,Bool.false_or,if_true,if_false,Bool.false_eq_true]
   exact(t1 q).left.more (by omega)
  ·simp only[q,Int.reduceBEq,Int.reduceEq,Bool.or_true,Bool.true_or,Bool.or_false,Bool.false_or,if_true,if_false,Bool.false_eq_true]
   exact(Od h hk hs).left
  ·simp only[q,Int.reduceBEq,Int.reduceEq,Bool.or_true,Bool.true_or,Bool.or_false,Bool.false_or,if_true,if_false,Bool.false_eq_true]
   exact(t7 q).left.more (by omega)
  ·simp only[q,Int.reduceBEq,Int.reduceEq,Bool.or_true,Bool.true_or,Bool.or_false,Bool.false_or,if_true,if_false,Bool.false_eq_true]
   exact(Ns h hk hs).left
  ·simp only[q,Int.reduceBEq,Int.reduceEq,Bool.or_true,Bool.true_or,Bool.or_false,Bool.false_or,if_true,if_false,Bool.false_eq_true]
   exact(t19 q).left.more (by omega)
  ·simp only[q,Int.reduceBEq,Int.reduceEq,Bool.or_true,Bool.true_or,Bool.or_false,Bool.false_or,if_true,if_false,Bool.false_eq_true]
   exact(Rn h hk hs q).left
  ·simp only[q,Int.reduceBEq,Int.reduceEq,Bool.or_true,Bool.true_or,Bool.or_false,Bool.false_or,if_true,if_false,Bool.false_eq_true]
   exact(t21 q).left.more (by omega)
  ·simp only[q,Int.reduceBEq,Int.reduceEq,Bool.or_true,Bool.true_or,Bool.or_false,Bool.false_or,if_true,if_false,Bool.false_eq_true]
   exact(Rj h hk s).left
  ·obtain⟨q1,q2,q3,q4,q5,q6,q7,q8⟩:=q
   simp[Sg.aH,q1,q2,q3,q4,q5,q6,q7,q8]at hkn
end V
namespace V
def nQ(c:aS)(b:List Int):aS×List (List Int)×Int:=
 if c.Failed=true then(c,[],9)else if (Sd.tkn c b).2.2≠0 then({ c with Failed:=true },[],(Sd.tkn c b).2.2)else Sd.grown c (Sd.tkn c b).1 (Sd.tkn c b).2.1
theorem LD(c:aS)(b:List Int)(hb:b.length≤65536)(hB:∀x∈b,Byte x)(h:Sd.Ok c):q4y FF c b=some (nQ c b)∧Sd.Ok (nQ c b).1∧((nQ c b).1.Local=c.Local∧(nQ c b).1.Remote=c.Remote)∧(nQ c b).2.1.length≤1∧((nQ c b).2.2=0→(nQ c b).1.Failed=false):=by
 have hs:=h.sm
 unfold q4y nQ
 rw[Sd.kE FF c (by decide) hs,bs,Sd.zI FF c b hs hb hB h,bs]
 have hf:Sd.Ok { c with Failed:=true }:=by
  obtain⟨a1,a2,b1,b2,b3,b4,b5,b6,b7,a4,a5,c1,c2,c3⟩:=h
  exact⟨a1,a2,b1,b2,b3,b4,b5,b6,b7,a4,a5,c1,c2,c3⟩
 by_cases h1:c.Failed=true
 ·rw[if_pos h1,if_pos h1]
  exact⟨rfl,h,⟨rfl,rfl⟩,by simp,fun e=>by cases e⟩
 rw[if_neg h1,if_neg h1]
 by_cases h0:(Sd.tkn c b).2.2=0
 ·rw[if_neg (c:=((Sd.tkn c b).2.2 != 0)=true) (by simpa using h0),if_neg (c:=(Sd.tkn c b).2.2≠0) (not_not_intro h0)]
  have hrx:c.aF≠0:=fun e=>by simp[Sd.tkn,e]at h0
  have hwant:=h.want
  have key:(Sd.tkn c b).1.length≤1000000∧0≤(Sd.tkn c b).2.1∧(Sd.tkn c b).2.1≤c.bZ:=by
   unfold Sd.tkn at h0 ⊢
   rw[if_neg hrx]at h0 ⊢
   by_cases h3:len b>c.cu
   ·simp[if_pos h3]at h0
   rw[if_neg h3]at h0 ⊢
   by_cases h4:c.Want = -1
   ·rw[if_pos h4]at h0 ⊢
    match b,hB,hb,h0 with
    | [],_,_,h0=>simp at h0
    | [x],_,_,h0=>simp at h0
    | x::y::r,hB,hb,h0=>
      have hx:=hB x (by simp)
      have hy:=hB y (by simp)
      by_cases h6:x+256*y>c.bZ∨(r.length:Int)>x+256*y
      ·simp[if_pos h6]at h0
      ·simp only[if_neg h6]
       unfold Byte at hx hy
       exact⟨by simp at hb;omega,by omega,by omega⟩
   ·rw[if_neg h4]at h0 ⊢
    by_cases h5:len b=0
    ·simp[if_pos h5]at h0
    rw[if_neg h5]at h0 ⊢
    by_cases h6:len c.In+len b>c.Want
    ·simp[if_pos h6]at h0
    rw[if_neg h6]
    exact⟨by simp only;omega,by simp only;omega,by simp only;omega⟩
  obtain⟨k1,k2,k3⟩:=key
  exact⟨Sd.MV FF c _ _ (by decide) hs k1,(Sd.IU hs h hrx k2 k3).1,⟨by unfold Sd.grown;split <;> rfl,by unfold Sd.grown;split <;> rfl⟩,(Sd.IU hs h hrx k2 k3).2.2,fun _=>by unfold Sd.grown;split <;> simpa using h1⟩
 ·rw[if_pos (c:=((Sd.tkn c b).2.2 != 0)=true) (by simpa using h0),if_pos (c:=(Sd.tkn c b).2.2≠0) h0]
  exact⟨rfl,hf,⟨rfl,rfl⟩,by simp,fun e=>absurd e h0⟩
def full(c:aS):aS:={ c with aF:=c.Given }
theorem LJ(c:aS)(h:Sd.Ok c)(hf:c.Failed=false)(h1:c.Given-c.aF>0):q4z FF c (c.Given-c.aF)=some (full c,0)∧Sd.Ok (full c):=by
 have hrx:=h.rx
 have hg:=h.given
 have e:aI (c.aF+(c.Given-c.aF))=c.Given:=by rw[Sd.eY (by omega) (by omega)];omega
 have e2:aI (65535-c.aF)=65535-c.aF:=Sd.eY (by omega) (by omega)
 constructor
 ·unfold q4z q67 q30
  rw[Sd.kE FF c (by decide) h.sm]
  simp only[bs]
  rw[if_neg (by simp[hf]),e2,if_neg (df (by omega)),if_neg (df (by omega)),bs,if_pos (by simp),e]
  rfl
 ·obtain⟨a1,a2,b1,b2,b3,b4,b5,b6,b7,a4,a5,c1,c2,c3⟩:=h
  exact⟨a1,a2,b1,b2,b3,b4,b5,hg,b7,a4,a5,c1,c2,c3⟩
def KA(m:aL)(c:aS):aT:=⟨22,wR m,0,c.Local,0,0,0,c.Given-c.aF,0,zu⟩
def needs(c:aS):Prop:=c.Given-c.aF>0∧2*c.aF≤c.Given
instance(c:aS):Decidable (needs c):=inferInstanceAs (Decidable (_∧_))
def Hr(c:aS)(l:List (List Int)):List gD:=l.map fun d=>⟨3,c.Local,d,0,zu,0⟩
def oD(m:aL)(i:Nat)(c:aS)(b:List Int):ME:=
 if (nQ c b).2.2≠0 then(nL (gy m i (nQ c b).1) (nQ c b).1,[])
 else if needs (nQ c b).1 then(jM (jI (gy m i (full (nQ c b).1))) (KA m (nQ c b).1),Hr (nQ c b).1 (nQ c b).2.1)
 else(gy m i (nQ c b).1,Hr (nQ c b).1 (nQ c b).2.1)
theorem Af(m:aL)(i:Nat)(c d:aS):gy (gy m i c) i d=gy m i d:=by
 unfold gy
 simp only[List.set_set]
theorem Og{k:Nat}{m:aL}(h:MInv k m)(hk:k≤900000000){i:Nat}{c:aS}(hc:m.aj[i]? = some c){b:List Int}(hb:∀x∈b,Byte x)(hl:b.length≤65536):DoesM (k+1) (q3r FF ⟨m,[]⟩ (i:Int) b) (oD m i c b):=by
 have hal:=h.sH
 have hcl:=h.qC
 have hol:=h.jm
 have ZF:=h.qE c (fF hc)
 obtain⟨e1,e3,⟨e4,e5⟩,e6,e7⟩:=LD c b hl hb ZF
 unfold q3r oD
 generalize nQ c b=q at *
 simp only[bf hc,bs,e1,rH hc]
 unfold q7h
 have hP:=h.put hc e3 e4
 by_cases hz:q.2.2≠0
 ·rw[if_pos (c:=(q.2.2 != 0)=true) (by simpa using hz),if_pos hz]
  obtain⟨p1,p3⟩:=H8 h hk hc e3 e4 []
  refine⟨?_,p3,by simp⟩
  show(Uv FF ⟨gy m i q.1,[]⟩ (i:Int)).bind _=_
  rw[p1];rfl
 rw[if_neg (c:=(q.2.2 != 0)=true) (by simpa using hz),if_neg hz]
 have hf:=e7 (by simpa using hz)
 have t:=MP ⟨gy m i q.1,[]⟩ q e6 rfl
 unfold gy at t
 rw[t,bs]
 have hx:=uT (c':=q.1) hc
 have hrx:=e3.rx
 have hgv:=e3.given
 have hEl:(Hr q.1 q.2.1).length≤1:=by unfold Hr;rw[List.length_map];exact e6
 rw[show(q.2.1.map fun d=>(⟨3,q.1.Local,d,0,zu,0⟩:gD))=Hr q.1 q.2.1 from rfl]
 generalize Hr q.1 q.2.1=E at hEl ⊢
 unfold q7g
 rw[Sd.eY (x:=q.1.Given-q.1.aF) (by omega) (by omega),half _ hgv]
 by_cases hg:needs q.1
 ·rw[if_pos hg]
  obtain⟨hg1,hg2⟩:=hg
  rw[if_neg (c:=decide (q.1.Given-q.1.aF≤0)=true) (df (by omega)),bs,if_neg (c:=decide (q.1.aF>q.1.Given/2)=true) (df (by omega))]
  obtain⟨g1,g3⟩:=LJ q.1 e3 hf hg1
  rw[g1,bs,if_pos (by simp)]
  have hl2:(full q.1).Local=q.1.Local:=rfl
  have hP2:=hP.put hx g3 hl2
  have hal2:=hP2.sH
  have hol2:=hP2.jm
  have ZA:=lY g3
  have hq:=KX (mX hP2) (src:=(full q.1).Local) (cr:=q.1.Given-q.1.aF) ZA.1 (by omega)
  have s1:=Xb ⟨gy (gy m i q.1) i (full q.1),E⟩ hP2.next (by simp only;omega)
  have s3:=rR (wm ⟨gy (gy m i q.1) i (full q.1),E⟩ (jI (gy (gy m i q.1) i (full q.1)))) _ hq (show(gy (gy m i q.1) i (full q.1)).Out.length≤1000000000 by omega)
  have hx':(m.aj.set i q.1)[i]? = some q.1:=hx
  have hR:MInv (k+1) (jM (jI (gy m i (full q.1))) (KA m q.1)):=by
   have:=hP2.tick.say (KA m q.1)
   rw[Af]at this
   exact this
  refine⟨?_,hR,hEl⟩
  simp only[bf hx',bs,rH hx']
  unfold q7f
  show(q1q FF ⟨gy (gy m i q.1) i (full q.1),E⟩).bind _=_
  rw[s1,bs,Sd.eY (x:=q.1.Given-q.1.aF) (by omega) (by omega)]
  unfold zu at s3
  rw[s3,← Af m i q.1 (full q.1)]
  rfl
 ·rw[if_neg hg]
  unfold needs at hg
  refine⟨?_,hP.more (by omega),hEl⟩
  by_cases h0:q.1.Given-q.1.aF≤0
  ·rw[if_pos (dt h0),bs,if_pos rfl]
   rfl
  ·rw[if_neg (df h0),bs,if_pos (dt (by omega))]
   rfl
def kC(m:aL)(f:bM):ME:=
 if f.aU=4∨f.aU=6 then(m,[⟨1,f.aU,f.Payload,0,zu,0⟩])
 else if f.aU=5 then GY m f.Payload
 else match Fp m f.aU with
  | none=>(m,[])
  | some (i,c)=>if bO m f.aU=true then(m,[])else oD m i c f.Payload
def yH(m:aL)(p:eT):ME:=match (Fr.feed m.ay p).2.1 with
 | []=>({ m with ay:=(Fr.feed m.ay p).1 },[])
 | f::_=>kC { m with ay:=(Fr.feed m.ay p).1 } f
theorem QE{k:Nat}{m:aL}(h:MInv k m)(hk:k≤900000000){f:bM}(hb:∀x∈f.Payload,Byte x)(hl:f.Payload.length≤65531):DoesM (k+1) (UC ⟨m,[]⟩ f) (kC m f):=by
 have hal:=h.sH
 have hcl:=h.qC
 unfold UC kC
 by_cases c4:f.aU=4∨f.aU=6
 ·rw[if_pos (c:=((f.aU==4)||(f.aU==6))=true) (by simpa using c4),if_pos c4,uE _ _ (by simp)]
  exact⟨rfl,h.more (by omega),by simp⟩
 rw[if_neg (c:=((f.aU==4)||(f.aU==6))=true) (by simpa using c4),if_neg c4]
 by_cases c5:f.aU=5
 ·rw[if_pos (c:=(f.aU==5)=true) (by simpa using c5),if_pos c5]
  exact Pp h hk hb (by omega)
 rw[if_neg (c:=(f.aU==5)=true) (by simpa using c5),if_neg c5]
 rcases dV m f.aU with⟨hn,hl',_⟩ | ⟨i,c,hn,hl',hc,hq⟩
 ·rw[hl',hn,if_neg (by omega)]
  exact⟨rfl,h.more (by omega),by simp⟩
 ·rw[hl',hn]
  simp only
  cases hcl:bO m f.aU with
  | true=>
    rw[if_neg (by simp),if_pos rfl]
    exact⟨rfl,h.more (by omega),by simp⟩
  | false=>
    rw[if_pos (by exact⟨by omega,rfl⟩),if_neg (by simp)]
    exact Og h hk hc hb (by omega)
theorem IG{k:Nat}{m:aL}(h:MInv k m)(hk:k≤900000000){p:eT}(hp:∀x∈p.Payload,Byte x)(hl:p.Payload.length≤200000):qq FF m p=some (yH m p)∧MInv (k+1) (yH m p).1∧(yH m p).2.length≤1:=by
 have hal:=h.sH
 have hcl:=h.qC
 have hI:=h.iY (Fr.BD h.asm hp)
 have hpay:=QS h.asm hp
 have hfr:=Fr.IZ m.ay p
 unfold qq yH
 rw[uV FF m ff (h.sz (by omega)),bs,Fr.Vk h.asm hp hl,bs]
 generalize Fr.feed m.ay p=x at *
 unfold q7k q7j q7i
 have hF:FF=(FF-2)+1+1:=by rw[jD]
 match hq:x.2.1,hfr with
 | [],_=>
   refine⟨?_,hI.more (by omega),by simp⟩
   rw[hF,aW (o:=(⟨{ m with ay:=x.1 },[]⟩:bJ)) (by
    rw[← hF]
    show Uk FF [] _ 0=_
    unfold Uk
    rw[if_neg (df (by simp[len]))])]
   rfl
 | [f],_=>
   obtain⟨b1,b2⟩:=hpay f (by rw[hq];simp)
   obtain⟨z1,z2,z3⟩:=QE hI hk b1 b2
   refine⟨?_,z2,z3⟩
   have o:=YX ⟨{ m with ay:=x.1 },[]⟩ [f] f 0 rfl (by omega) (by simp only;omega) (by simp only;omega)
   rw[z1,bs,show((0:Nat):Int)=0 from rfl]at o
   rw[hF,bV (s':=((⟨(kC { m with ay:=x.1 } f).1,(kC { m with ay:=x.1 } f).2⟩:bJ),(1:Int))) (by
    rw[← hF]
    exact o),aW (o:=(⟨(kC { m with ay:=x.1 } f).1,(kC { m with ay:=x.1 } f).2⟩:bJ)) (by
    rw[← hF]
    show Uk FF [f] _ 1=_
    unfold Uk
    rw[if_neg (df (by simp[len]))])]
   rfl
end V
namespace V
def p8:Nat→aS→aS×List (List Int)
 | 0,c=>(c,[])
 | n+1,c=>match c.Out with
   | []=>(c,[])
   | s::r=>if c.aN>0 then((p8 n (Sd.Dq c s r)).1,Sd.partOf c s::(p8 n (Sd.Dq c s r)).2)else(c,[])
def sD(c:aS):aS×List (List Int):=if c.Failed=true then(c,[])else p8 65536 c
theorem Qf(c:aS)(s:List Int)(r:List (List Int)):(Sd.Dq c s r).Local=c.Local∧(Sd.Dq c s r).Remote=c.Remote:=by unfold Sd.Dq;split <;> exact⟨rfl,rfl⟩
theorem Ic:∀(n:Nat) (F:Nat) (c:aS) (l:List (List Int)),Sd.Ok c→Sd.Sm c→c.aN<n→n≤F→l.length+c.aN≤100000→
 iter (fun s:aS×List (List Int)=>Ta FF s.1 s.2) F (c,l)=some ((p8 n c).1,l++(p8 n c).2)∧Sd.Ok (p8 n c).1∧((p8 n c).1.Local=c.Local∧(p8 n c).1.Remote=c.Remote)∧(p8 n c).2.length≤c.aN.toNat∧∀f∈(p8 n c).2,f.length≤4096
 | 0,F,c,l,h,_,hn,_,_=>by have:=h.tx;omega
 | n+1,F,c,l,h,hs,hn,hF,hl=>by
   have htx:=h.tx
   obtain⟨G,rfl⟩:∃G,F=G+1:=⟨F-1,by omega⟩
   unfold p8
   cases ho:c.Out with
   | nil=>
     refine⟨?_,h,⟨rfl,rfl⟩,by simp,by simp⟩
     rw[List.append_nil]
     refine aW ?_
     show Ta FF c l=_
     unfold Ta
     rw[if_neg (by rw[ho];simp[len])]
   | cons s r=>
     simp only
     by_cases hc:c.aN>0
     ·rw[if_pos hc]
      have h1:=Sd.Px FF c l s r (by decide) (by omega) h ho hc
      obtain⟨k1,k2,k3⟩:=Sd.J4 h hs ho hc
      have h3:Ta FF c l=some (.next (Sd.Dq c s r,l++[Sd.partOf c s])):=by
       unfold Ta
       rw[if_pos (by rw[ho];simp[len];omega),h1]
       rfl
      obtain⟨q1,q2,⟨q3,q4⟩,q5,q6⟩:=Ic n G (Sd.Dq c s r) (l++[Sd.partOf c s]) k1 k2 (by omega) (by omega) (by simp;omega)
      obtain⟨n1,n2⟩:=Qf c s r
      refine⟨?_,q2,⟨q3.trans n1,q4.trans n2⟩,?_,fun f hf=>?_⟩
      ·rw[bV (s':=(Sd.Dq c s r,l++[Sd.partOf c s])) h3,q1,List.append_assoc]
       rfl
      ·rw[List.length_cons]
       omega
      ·rcases List.mem_cons.1 hf with rfl | hf
       ·have:=h.YV
        unfold Sd.partOf
        rw[List.length_take]
        omega
       ·exact q6 f hf
     ·rw[if_neg hc]
      refine⟨?_,h,⟨rfl,rfl⟩,by simp,by simp⟩
      rw[List.append_nil]
      refine aW ?_
      show Ta FF c l=_
      unfold Ta
      rw[if_neg (by simpa using fun _=>hc)]
theorem Qe(c:aS)(h:Sd.Ok c):q4c FF c=some (sD c)∧Sd.Ok (sD c).1∧((sD c).1.Local=c.Local∧(sD c).1.Remote=c.Remote)∧(sD c).2.length≤65535∧∀f∈(sD c).2,f.length≤4096:=by
 have htx:=h.tx
 unfold q4c q6s q6r sD
 rw[Sd.kE FF c (by decide) h.sm,bs]
 by_cases hf:c.Failed=true
 ·rw[if_pos hf,if_pos hf]
  exact⟨rfl,h,⟨rfl,rfl⟩,by simp,by simp⟩
 ·rw[if_neg hf,if_neg hf]
  obtain⟨q1,q2,q3,q4,q5⟩:=Ic 65536 FF c [] h h.sm (by omega) (by decide) (by simp;omega)
  rw[q1]
  exact⟨rfl,q2,q3,by omega,q5⟩
def gL(m:aL)(c:aS):aS:=if bO m c.Local=true then c else(sD c).1
def gH(m:aL)(c:aS):List (List Int):=if bO m c.Local=true then []else(sD c).2
def kZ(fr:List (List (List Int))):Nat:=fr.foldl (fun a f=>max a f.length) 0
def FQ(m:aL):aL:=iX (m.aj.map (gL m)) (m.aj.map (gH m)) { m with aj:=m.aj.map (gL m) } (kZ (m.aj.map (gH m)))
theorem rX(m:aL){c:aS}(h:Sd.Ok c):Sd.Ok (gL m c)∧(gL m c).Local=c.Local∧(gL m c).Remote=c.Remote:=by
 unfold gL
 split
 ·exact⟨h,rfl,rfl⟩
 ·obtain⟨_,h2,h3,_⟩:=Qe c h
  exact⟨h2,h3⟩
theorem LZ(m:aL){c:aS}(h:Sd.Ok c):(gH m c).length≤100000∧∀f∈gH m c,f.length≤4096:=by
 unfold gH
 split
 ·exact⟨by simp,by simp⟩
 ·obtain⟨_,_,_,h3,h4⟩:=Qe c h
  exact⟨by omega,h4⟩
theorem NH(fr:List (List (List Int)))(f:List (List Int)):kZ (fr++[f])=max (kZ fr) f.length:=by unfold kZ;rw[List.foldl_append];rfl
theorem Lp(n:Nat):∀(fr:List (List (List Int))) (a:Nat),a≤n→(∀f∈fr,f.length≤n)→fr.foldl (fun a f=>max a f.length) a≤n
 | [],a,ha,_=>ha
 | f::fr,a,ha,h=>by
   refine Lp n fr _ ?_ fun g hg=>h g (by simp[hg])
   have:=h f (by simp)
   show max a f.length≤n
   omega
theorem NY{k:Nat}(m:aL)(h:MInv k m)(x:bJ)(hx:x.aB=m):iter (fun s:List aS×List (List (List Int))×Int×Int=>Um FF x s.1 s.2.1 s.2.2.1 s.2.2.2) FF (m.aj,List.replicate m.aj.length [],0,0)=some (m.aj.map (gL m),m.aj.map (gH m),(kZ (m.aj.map (gH m)):Int)):=by
 have hn:=h.qC
 have ha:=h.sH
 have key:=dW (body:=fun s:List aS×List (List (List Int))×Int×Int=>Um FF x s.1 s.2.1 s.2.2.1 s.2.2.2) (fun i=>((m.aj.take i).map (gL m)++m.aj.drop i,(m.aj.take i).map (gH m)++List.replicate (m.aj.length-i) [],(kZ ((m.aj.take i).map (gH m)):Int),(i:Int))) m.aj.length (m.aj.map (gL m),m.aj.map (gH m),(kZ (m.aj.map (gH m)):Int)) (fun i hi=>by
  have hci:m.aj[i]? = some m.aj[i]:=gE hi
  have hok:=h.qE _ (gM hi)
  generalize m.aj[i]=c at hci hok
  have ht:m.aj.take (i+1)=m.aj.take i++[c]:=(iJ hci).symm
  have hdr:m.aj.drop i=c::m.aj.drop (i+1):=by
   have hlt:=hi
   rw[List.drop_eq_getElem_cons hlt]
   rw[gE hlt]at hci
   injection hci with hci
   rw[hci]
  have hlen1:((m.aj.take i).map (gL m)).length=i:=by rw[List.length_map,List.length_take];omega
  have AX:((m.aj.take i).map (gH m)).length=i:=by rw[List.length_map,List.length_take];omega
  have hrep:List.replicate (m.aj.length-i) ([]:List (List Int))=[]::List.replicate (m.aj.length-(i+1)) []:=by
   rw[show m.aj.length-i=m.aj.length-(i+1)+1 by omega,List.replicate_succ]
  have hxl:((m.aj.take i).map (gL m)++m.aj.drop i)[i]? = some c:=by
   rw[List.getElem?_append_right (by omega),hdr,show i-((m.aj.take i).map (gL m)).length=0 by omega]
   rfl
  have hxf:((m.aj.take i).map (gH m)++List.replicate (m.aj.length-i) [])[i]? = some ([]:List (List Int)):=by
   rw[List.getElem?_append_right (by omega),hrep,show i-((m.aj.take i).map (gH m)).length=0 by omega]
   rfl
  have acT:∀d,((m.aj.take i).map (gL m)++m.aj.drop i).set i d=(m.aj.take i).map (gL m)++[d]++m.aj.drop (i+1):=fun d=>by
   rw[List.set_append,if_neg (by omega),show i-((m.aj.take i).map (gL m)).length=0 by omega,hdr]
   simp
  have Qx:∀d:List (List Int),((m.aj.take i).map (gH m)++List.replicate (m.aj.length-i) []).set i d=(m.aj.take i).map (gH m)++[d]++List.replicate (m.aj.length-(i+1)) []:=fun d=>by
   rw[List.set_append,if_neg (by omega),show i-((m.aj.take i).map (gH m)).length=0 by omega,hrep]
   simp
  have ac4:∀q:List (List Int),((m.aj.take i).map (gH m)++[q]++List.replicate (m.aj.length-(i+1)) [])[i]? = some q:=fun q=>by
   rw[List.append_assoc,List.getElem?_append_right (by omega),show i-((m.aj.take i).map (gH m)).length=0 by omega]
   simp
  show Um FF x ((m.aj.take i).map (gL m)++m.aj.drop i) ((m.aj.take i).map (gH m)++List.replicate (m.aj.length-i) []) (kZ ((m.aj.take i).map (gH m)):Int) (i:Int)=some (.next ((m.aj.take (i+1)).map (gL m)++m.aj.drop (i+1),(m.aj.take (i+1)).map (gH m)++List.replicate (m.aj.length-(i+1)) [],(kZ ((m.aj.take (i+1)).map (gH m)):Int),((i+1:Nat):Int)))
  rw[ht,List.map_append,List.map_append,List.map_cons,List.map_cons,List.map_nil,List.map_nil,NH]
  unfold Um q6w q5z
  rw[if_pos (dt (by rw[hx,lN];omega)),bf hxl,bs,l9 _ c (by rw[hx];simp only;omega),bs]
  rw[show bO ({ x with aB:={ x.aB with aj:=(m.aj.take i).map (gL m)++m.aj.drop i } }:bJ).aB c.Local=bO m c.Local from by rw[← hx];rfl]
  by_cases hb:bO m c.Local=true
  ·have f1:gL m c=c:=by unfold gL;rw[if_pos hb]
   have f2:gH m c=[]:=by unfold gH;rw[if_pos hb]
   rw[if_pos hb,f1,f2,wN i (by omega),hrep,hdr]
   simp
  ·have f1:gL m c=(sD c).1:=by unfold gL;rw[if_neg hb]
   have f2:gH m c=(sD c).2:=by unfold gH;rw[if_neg hb]
   obtain⟨q1,_⟩:=Qe c hok
   have hmx:imax (kZ ((m.aj.take i).map (gH m)):Int) (len (sD c).2)=((max (kZ ((m.aj.take i).map (gH m))) (sD c).2.length:Nat):Int):=by unfold imax;rw[lN];split <;> omega
   rw[if_neg hb,f1,f2,q1]
   simp only[bs,rH hxl,bf hxf,rH hxf,acT,Qx,bf (ac4 (sD c).2),hmx,wN i (by omega)]) (by
  show Um FF x _ _ _ _=_
  unfold Um
  rw[if_neg (df (by rw[hx,lN];simp))]
  simp) FF 0 (by omega) (by rw[jD];omega)
 have m0:kZ []=0:=rfl
 simpa [m0]using key
theorem PY{k:Nat}{m:aL}(h:MInv k m)(hk:k≤900000000){l:List aS}(hml:m.aj=l){fr:List (List (List Int))}(hlen:fr.length=l.length)(hn:l.length≤16)(hf:∀f∈fr,f.length≤100000∧∀b∈f,b.length≤4096)(x:bJ)(hx:x.aB=m)(rd:Nat)(hrd:rd≤100000) :
 iter (fun s:bJ×Int=>Uo FF fr (rd:Int) s.1 s.2) FF (x,0)=some (wm x (fK l fr rd m fr.length)):=by
 have hl:∀c∈l,Sd.Ok c:=by rw[← hml];exact h.qE
 have hf':∀f∈fr,∀b∈f,b.length≤4096:=fun f hq=>(hf f hq).2
 have hinv:=tq h hl hf' rd
 have at1:∀i,i<fr.length→∃f c,fr[i]? = some f∧l[i]? = some c∧f.length≤100000:=fun i hi=>
  ⟨fr[i],l[i]'(by omega),gE hi,gE (by omega),(hf _ (gM hi)).1⟩
 ·have k1:=dW (body:=fun s:bJ×Int=>Uo FF fr (rd:Int) s.1 s.2) (fun i=>(wm x (fK l fr rd m i),(i:Int))) fr.length (wm x (fK l fr rd m fr.length)) (fun i hi=>by
   obtain⟨f,c,hfi,hci,hfl⟩:=at1 i hi
   obtain⟨hI,hC⟩:=hinv i
   have hol:=hI.jm
   show Uo FF fr (rd:Int) (wm x (fK l fr rd m i)) (i:Int)=_
   unfold Uo q5y
   rw[if_pos (dt (by rw[lN];omega)),bf hfi,bs,mQ]
   by_cases hr:rd<f.length
   ·have hb:f[rd]? = some f[rd]:=gE hr
    have hbl:=hf' f (List.mem_of_getElem? hfi) _ (gM hr)
    have e:Np l fr rd (fK l fr rd m i) i=qd (fK l fr rd m i) c.Remote f[rd]:=by simp only[Np,hfi,hci,hb]
    have hcc:(wm x (fK l fr rd m i)).aB.aj[i]? = some c:=by
     show(fK l fr rd m i).aj[i]? = _
     rw[hC,hml,hci]
    rw[if_pos (dt (by rw[lN];omega)),bf hb,bs,bf hcc,bs,Ae _ _ _ (by omega) (by show(fK l fr rd m i).Out.length≤_;omega),bs,wN i (by omega),e]
    rfl
   ·have hb:f[rd]? = none:=List.getElem?_eq_none (by omega)
    have e:Np l fr rd (fK l fr rd m i) i=fK l fr rd m i:=by simp only[Np,hfi,hci,hb]
    rw[if_neg (df (by rw[lN];omega)),wN i (by omega),e]) (by
   show Uo FF fr (rd:Int) _ _=_
   unfold Uo
   rw[if_neg (df (by rw[lN];simp))]) FF 0 (by omega) (by rw[jD];omega)
  have e0:wm x (fK l fr rd m 0)=x:=by
   show wm x m=x
   rw[← hx];rfl
  rw[e0]at k1
  exact k1
theorem BI{k:Nat}{m:aL}(h:MInv k m)(hk:k≤800000000):q4d FF ⟨m,[]⟩=some ⟨FQ m,[]⟩∧MInv (k+1600000) (FQ m):=by
 have hcl:=h.qC
 have hal:=h.sH
 have hol:=h.jm
 unfold q4d FQ
 have g1:=NY m h ⟨m,[]⟩ rfl
 have g4:∀c∈m.aj.map (gL m),Sd.Ok c:=fun c hc=>by
  obtain⟨d,hd,rfl⟩:=List.mem_map.1 hc
  exact(rX m (h.qE d hd)).1
 have g7:∀f∈m.aj.map (gH m),f.length≤100000∧∀b∈f,b.length≤4096:=fun f hf=>by
  obtain⟨d,hd,rfl⟩:=List.mem_map.1 hf
  exact LZ m (h.qE d hd)
 have g6:kZ (m.aj.map (gH m))≤100000:=Lp 100000 _ 0 (by omega) fun f hf=>(g7 f hf).1
 have g3:(m.aj.map (gL m)).map (·.Local)=m.aj.map (·.Local):=by
  rw[List.map_map]
  exact List.map_congr_left fun c hc=>(rX m (h.qE c hc)).2.1
 have hfl:(m.aj.map (gH m)).length=(m.aj.map (gL m)).length:=by simp
 generalize m.aj.map (gL m)=l at *
 generalize m.aj.map (gH m)=fr at *
 generalize kZ fr=most at *
 simp only
 rw[lN,Au (by omega) (by omega),bs,g1,bs]
 have h2:MInv k { m with aj:=l }:=h.chans g3 g4
 have hll:l.length=m.aj.length:=by simpa using congrArg List.length g3
 have hf':∀f∈fr,∀b∈f,b.length≤4096:=fun f hq=>(g7 f hq).2
 have hinv:=qO h2 g4 hf'
 have hle:∀i,i≤most→k+i*fr.length≤k+1600000:=fun i hi=>by
  have:i*fr.length≤100000*16:=Nat.mul_le_mul (by omega) (by omega)
  omega
 refine⟨?_,(hinv most).1.more (hle most (Nat.le_refl _))⟩
 unfold q6v q6t
 have k1:=dW (body:=fun s:bJ×Int=>Un FF fr (most:Int) s.1 s.2) (fun i=>(wm ⟨m,[]⟩ (iX l fr { m with aj:=l } i),(i:Int))) most (wm ⟨m,[]⟩ (iX l fr { m with aj:=l } most)) (fun i hi=>by
  obtain⟨hI,hC⟩:=hinv i
  have:=hle i (by omega)
  show Un FF fr (most:Int) (wm ⟨m,[]⟩ (iX l fr { m with aj:=l } i)) (i:Int)=_
  unfold Un q6u
  rw[if_pos (dt (by omega)),PY (hI.more this) (by omega) (l:=l) hC (by omega) (by omega) g7 _ rfl i (by omega),bs,lD,wN i (by omega)]
  rfl) (by
  show Un FF fr (most:Int) _ _=_
  unfold Un
  rw[if_neg (df (by simp))]) FF 0 (by omega) (by rw[jD];omega)
 rw[show((0:Nat):Int)=0 from rfl]at k1
 show(iter (fun s:bJ×Int=>Un FF fr (most:Int) s.1 s.2) FF (wm ⟨m,[]⟩ (iX l fr { m with aj:=l } 0),0)).bind (fun o=>some o)=_
 rw[k1]
 rfl
end V
namespace V
def iM(m:aL):aL×eT×Bool:=match m.Out with
 | []=>(m,⟨0,[]⟩,false)
 | f::t=>(jL m f t,Uw m f,true)
def EW(m:aL):aL:=if m.Out=[]then FQ m else m
def iC(m:aL):aL×eT×Bool:=iM (EW m)
theorem Fa{k:Nat}{m:aL}(h:MInv k m)(hk:k≤900000000):q5h FF ⟨m,[]⟩=some (iM m)∧MInv k (iM m).1:=by
 have hol:=h.jm
 unfold q5h iM
 cases ho:m.Out with
 | nil=>
   rw[if_pos (by simp[len])]
   exact⟨rfl,h⟩
 | cons f t=>
   have hf:=h.out f (by rw[ho];simp)
   have hse:=h.sent f t ho
   have hlr:=Fq m
   rw[ho,List.length_cons]at hol
   have hcond:¬ ((len (f::t)==0)=true):=by simp[len];omega
   rw[if_neg hcond,show idx (f::t) 0=some f from rfl,bs]
   have hFO:Fr.FOk f:=⟨by omega,by omega⟩
   have henc:Fr.enc f=(Fr.bytesOf f,0):=by
    unfold Fr.enc
    rw[if_neg (by omega),if_neg (by omega)]
   rw[Fr.ZT hFO,henc,bs]
   have hL:len (Fr.bytesOf f)=(f.Payload.length:Int)+4:=by rw[lN,Fr.iT];omega
   have a1:imax 0 (bY m.aR ((f.Payload.length:Int)+4))=m.aR:=by unfold imax bY;split <;> split <;> omega
   have a2:imax 27 (bY m.Length 251)=lim m:=by unfold imax bY lim;split <;> split <;> (try split) <;> (try split) <;> omega
   have a3:bY (imax m.Length 27) 251=lim m:=by unfold imax bY lim;split <;> split <;> (try split) <;> (try split) <;> omega
   have a4:aI ((f.Payload.length:Int)+4-m.aR)=(f.Payload.length:Int)+4-m.aR:=bN (by omega) (by omega)
   have a5:bY ((f.Payload.length:Int)+4-m.aR) (lim m)=toM m f-m.aR:=by unfold bY toM;split <;> omega
   have a6:aI (m.aR+(toM m f-m.aR))=toM m f:=by unfold toM;rw[bN (by omega) (by omega)];omega
   have a7:aI (m.aR+lim m)=m.aR+lim m:=bN (by omega) (by omega)
   have a8:bY ((f.Payload.length:Int)+4) (m.aR+lim m)=toM m f:=by unfold bY toM;split <;> omega
   have hto:m.aR<toM m f∧toM m f≤(f.Payload.length:Int)+4:=by unfold toM;omega
   have hsub:sub (Fr.bytesOf f) m.aR (toM m f)=some (((Fr.bytesOf f).take (toM m f).toNat).drop m.aR.toNat):=by
    have:=kG (Fr.bytesOf f) m.aR.toNat (toM m f).toNat (by omega) (by rw[Fr.iT];omega)
    rw[show((m.aR.toNat:Nat):Int)=m.aR by omega,show(((toM m f).toNat:Nat):Int)=toM m f by omega]at this
    exact this
   have hcl:(((Fr.bytesOf f).take (toM m f).toNat).drop m.aR.toNat).length≤10000:=by rw[List.length_drop,List.length_take,Fr.iT];omega
   simp only[a1,a2,a3,a4,a5,a6,a7,hL,a8,hsub,bs]
   rw[join_one FF _ (by rw[jD];omega) (by omega),bs]
   have hI:MInv k (jL m f t):=by
    unfold jL
    split
    ·exact h.outs (fun g hg=>by rw[ho];simp[hg]) (by rw[ho];simp) (fun _=>rfl) (fun g r e=>by omega)
    ·rename_i hne
     refine(h.outs (o:=m.Out) (s:=toM m f) (fun g hg=>hg) (Nat.le_refl _) (fun e=>by rw[ho]at e;cases e) (fun g r e=>?_))
     rw[ho]at e
     injection e with e1 _
     subst e1
     omega
   have hprog:∀ll:Int,q5g FF ⟨m,[]⟩ (Fr.bytesOf f,0) (((Fr.bytesOf f).take (toM m f).toNat).drop m.aR.toNat) ll=some (jL m f t,⟨ll,((Fr.bytesOf f).take (toM m f).toNat).drop m.aR.toNat⟩,true):=fun ll=>by
    unfold q5g q60 q6x jL
    simp only[a1,a2,a4,a5,a6,hL]
    by_cases hq:toM m f=(f.Payload.length:Int)+4
    ·have hs1:sub (f::t) 1 (len (f::t))=some t:=by
      have:=kG (f::t) 1 (f::t).length (by simp) (by simp)
      rw[List.take_length]at this
      exact this
     rw[if_pos (dt (by omega)),if_pos hq,ho,hs1]
     rfl
    ·rw[if_neg (df (by omega)),if_neg hq]
   refine⟨?_,hI⟩
   unfold Uw
   by_cases h0:m.aR=0
   ·rw[if_pos (by simpa using h0),hprog 2,if_pos h0]
   ·rw[if_neg (by simpa using h0),hprog 1,if_neg h0]
theorem Dn{k:Nat}{m:aL}(h:MInv k m)(hk:k≤800000000):YS FF m=some (iC m)∧MInv (k+1600000) (iC m).1:=by
 have hol:=h.jm
 unfold YS iC EW
 rw[uV FF m ff (h.sz (by omega)),bs]
 by_cases h0:m.Out=[]
 ·obtain⟨c1,c3⟩:=BI h hk
  rw[if_pos (c:=(len m.Out==0)=true) (by rw[h0];rfl),if_pos h0,c1,bs]
  exact Fa c3 (by omega)
 ·have hlen:m.Out.length≠0:=fun e=>h0 (List.eq_nil_of_length_eq_zero e)
  rw[if_neg (c:=(len m.Out==0)=true) (by rw[lN];simpa using h0),if_neg h0]
  obtain⟨q1,q2⟩:=Fa h (by omega)
  exact⟨q1,q2.more (by omega)⟩
end V
namespace V
namespace Po
theorem Rm(m:aL)(psm sP mps cr:Int):fP (iE m psm sP mps cr).1≤fP m+314:=by
 unfold iE
 split
 ·simp only;omega
 split
 ·simp only;omega
 split
 ·simp only;omega
 ·have:=La m ⟨20,0,psm,l5 m,0,sP,mps,cr,0,zu⟩ (by simp only;omega)
  have e:nY 20=10:=by decide
  simp only[e]at this
  simp only
  omega
theorem Vo(m:aL)(n:Int):fP (Cw m n).1≤fP m:=by
 unfold Cw
 rcases dV m n with⟨h,_⟩ | ⟨i,c,h,_,hc,_⟩
 ·rw[h];exact Nat.le_refl _
 ·rw[h]
  simp only
  split
  ·exact Nat.le_refl _
  split
  ·exact Nat.le_refl _
  ·exact EX m (fF hc)
theorem YI(c:aS)(b:List Int):Cg (K9 c b).1≤Cg c+5*b.length+94:=by
 unfold K9
 split
 ·simp only;omega
 split
 ·simp only;omega
 split
 ·simp only;omega
 ·unfold Cg
  simp only[List.map_append,List.map_cons,List.map_nil,List.sum_append,List.sum_cons,List.sum_nil]
  unfold MW
  omega
theorem Pw(m:aL)(n:Int)(b:List Int):fP (kY m n b).1≤fP m+5*b.length+94:=by
 unfold kY
 rcases dV m n with⟨h,_⟩ | ⟨i,c,h,_,hc,_⟩
 ·rw[h];simp only;omega
 ·rw[h]
  simp only
  split
  ·simp only;omega
  split
  ·have hl:(K9 c b).1.Local=c.Local:=by unfold K9;(repeat' split) <;> rfl
   have h1:=yV m hc hl
   have h2:=YI c b
   simp only
   omega
  ·simp only;omega
theorem Ux(m:aL)(u:jo):fP (sF m u).1≤fP m+98:=by
 unfold sF
 split
 ·simp only;omega
 split
 ·simp only;omega
 split
 ·simp only;omega
 split
 ·simp only;omega
 ·have:=La m ⟨18,0,0,0,0,0,0,0,0,u⟩ (by simp only;omega)
  have e:nY 18=2:=by decide
  simp only[e]at this
  simp only
  omega
theorem Ue(m:aL)(id r:Int):fP (tu m id r).1≤fP m+44:=by
 unfold tu
 split
 ·simp only;omega
 split
 ·simp only;omega
 split
 ·simp only;omega
 ·have:=mR m ⟨19,id,0,0,0,0,0,0,r,zu⟩ (by simp only;omega)
  have e:nY 19=0:=by decide
  simp only[e]at this
  simp only
  omega
theorem Vs(m:aL)(s:aT):fP (tV m s).1≤fP m+260:=by
 have hr:∀r,fP (jM m (H7 s r))≤fP m+260:=fun r=>by
  have:=mR m (H7 s r) (by simp only[H7];omega)
  have e:nY 21=4:=by decide
  rw[show(H7 s r).Kind=21 from rfl,e]at this
  omega
 unfold tV
 split
 ·exact hr 2
 split
 ·exact hr 5
 split
 ·exact hr 4
 split
 ·exact hr 9
 ·rename_i L _ _ _ _
  have h1:=Lb m (yO s (l5 m) L) rfl
  have h2:=mR { m with aj:=jY (yO s (l5 m) L) m.aj } (Oy s (l5 m) L) (by simp only[Oy];omega)
  have e:nY 21=4:=by decide
  rw[show(Oy s (l5 m) L).Kind=21 from rfl,e]at h2
  simp only
  omega
theorem EU(m:aL)(id r:Int):fP (jM m (Cq id r))≤fP m+44:=by
 have:=mR m (Cq id r) (by simp only[Cq];omega)
 have e:nY 1=0:=by decide
 rw[show(Cq id r).Kind=1 from rfl,e]at this
 omega
theorem Rf(m:aL)(s:aT):fP (oC m s).1≤fP m+44:=by
 unfold oC
 rcases dV m s.bR with⟨h,_⟩ | ⟨i,c,h,_,hc,_⟩
 ·rw[h];exact EU m s.ID 2
 ·rw[h]
  simp only
  split
  ·exact EU m s.ID 2
  ·have h1:=Ia m hc
   have h2:=mR { m with aj:=qD m.aj i } ⟨7,s.ID,0,s.Source,s.bR,0,0,0,0,zu⟩ (by simp only;omega)
   have e:nY 7=0:=by decide
   simp only[e]at h2
   simp only
   omega
theorem Qa(m:aL)(s:aT):fP (mU m s).1≤fP m+44∧(m.iU=0→(mU m s).1=m):=by
 unfold mU
 split
 ·exact⟨by simp only;omega,fun _=>rfl⟩
 ·rename_i h
  exact⟨EU m s.ID 0,fun e=>absurd e h⟩
theorem ZW(c:aS)(n:Int):Cg (Ce c n).1=Cg c∧(Ce c n).1.Local=c.Local:=by
 unfold Ce
 (repeat' split) <;> exact⟨rfl,rfl⟩
theorem Vq(m:aL)(s:aT):fP (BG m s)≤fP m:=by
 unfold BG
 rcases ko m s.Source with⟨h,_⟩ | ⟨i,c,h,_,hc,_⟩
 ·rw[h];exact Nat.le_refl _
 ·rw[h]
  simp only
  obtain⟨k1,k2⟩:=ZW c s.aA
  have h1:=yV m hc k2
  split
  ·exact Nat.le_refl _
  split
  ·have h2:=EX (gy m i (Ce c s.aA).1) (fF (uT (c':=(Ce c s.aA).1) hc))
   omega
  ·omega
theorem pI(m:aL){i:Nat}{r:aT}(hr:m.aD[i]? = some r)(l:Int)(h:r.Kind≠6∨r.Source≠l):bO (fI m i) l=bO m l:=by
 have hlt:=(gS.1 hr).1
 have he:m.aD=m.aD.take i++r::m.aD.drop (i+1):=by
  have h1:m.aD.drop i=r::m.aD.drop (i+1):=by
   rw[List.drop_eq_getElem_cons hlt]
   rw[gE hlt]at hr
   injection hr with hr
   rw[hr]
  rw[← h1,List.take_append_drop]
 have hf:((r.Kind==6)&&(r.Source==l))=false:=by
  rcases h with h | h
  ·simp[h]
  ·simp[h]
 unfold bO fI qD
 conv=>rhs;rw[he]
 simp only[List.any_append,List.any_cons,hf,Bool.false_or]
theorem I6(m:aL){i:Nat}{r:aT}(hr:m.aD[i]? = some r)(h:r.Kind≠6):fP (fI m i)=fP m:=by
 have e:kT (fI m i)=kT m:=funext fun c=>by
  unfold kT Tf
  rw[pI m hr c.Local (.inl h)]
 unfold fP
 rw[e]
 rfl
end Po
end V
namespace V
namespace Po
theorem abl{l:List aS}(h:l.Pairwise fun a b=>a.Local<b.Local){i:Nat}{c:aS}(hc:l[i]? = some c):∀d∈qD l i,d.Local≠c.Local:=by
 have hlt:=(gS.1 hc).1
 have he:l=l.take i++c::l.drop (i+1):=by
  have h1:l.drop i=c::l.drop (i+1):=by
   rw[List.drop_eq_getElem_cons hlt]
   rw[gE hlt]at hc
   injection hc with hc
   rw[hc]
  rw[← h1,List.take_append_drop]
 rw[he,List.pairwise_append,List.pairwise_cons]at h
 obtain⟨_,⟨h2,_⟩,h3⟩:=h
 intro d hd
 unfold qD at hd
 rcases List.mem_append.1 hd with hd | hd
 ·have:=h3 d hd c (by simp)
  omega
 ·have:=h2 d hd
  omega
theorem QD{k:Nat}{m:aL}(h:MInv k m){i:Nat}{r:aT}(hr:m.aD[i]? = some r):fP (qY (fI m i) r.Source).1≤fP m:=by
 unfold qY
 rcases dV (fI m i) r.Source with⟨hq,_,hn⟩ | ⟨j,c,hq,_,hc,hl⟩
 ·rw[hq]
  have:((fI m i).aj.map (kT (fI m i))).sum≤(m.aj.map (kT m)).sum:=zK _ _ _ fun d hd=>by
   unfold kT Tf
   rw[pI m hr d.Local (.inr fun e=>hn d hd e.symm)]
   exact Nat.le_refl _
  unfold fP
  exact Nat.add_le_add_right this _
 ·rw[hq]
  have hcm:m.aj[j]? = some c:=hc
  have h1:=Ia m hcm
  have hne:=abl h.MQ hcm
  have e:((qD m.aj j).map (kT (fI m i))).sum≤((qD m.aj j).map (kT m)).sum:=zK _ _ _ fun d hd=>by
   unfold kT Tf
   rw[pI m hr d.Local (.inr fun e=>hne d hd (by rw[hl,e]))]
   exact Nat.le_refl _
  have e2:fP { fI m i with aj:=qD (fI m i).aj j }≤fP { m with aj:=qD m.aj j }:=by
   unfold fP
   exact Nat.add_le_add_right e _
  exact Nat.le_trans e2 (by omega)
theorem VF{k:Nat}{m:aL}(h:MInv k m)(s:aT)(hs:oJ s)(hk:s.Kind=1∨s.Kind=7∨s.Kind=19∨s.Kind=21):fP (sG m s).1≤fP m+27*nY s.Kind:=by
 unfold sG
 rcases oP m s with⟨h1,_⟩ | ⟨i,r,h1,_,hr,ha⟩
 ·rw[h1];simp only;omega
 ·rw[h1]
  simp only
  by_cases h20:r.Kind=20
  ·have hd:=I6 m hr (by omega)
   rw[if_pos h20]
   split
   ·simp only;omega
   split
   ·simp only;omega
   split
   ·simp only;omega
   ·rename_i c1 c2 c3
    have hkk:s.Kind=21:=by
     unfold nA at ha
     rcases hk with hk | hk | hk | hk
     ·exact absurd hk c1
     ·simp[h20,hk]at ha
     ·simp[h20,hk]at ha
     ·exact hk
    have e:nY 21=4:=by decide
    have h2:=Lb (fI m i) (newC r s) rfl
    rw[hkk,e]
    have e2:(fI m i).aj=m.aj:=rfl
    rw[e2]at h2
    simp only
    omega
  ·rw[if_neg h20]
   by_cases h6:r.Kind=6
   ·rw[if_pos h6]
    have:=QD h hr
    omega
   ·rw[if_neg h6]
    have hd:=I6 m hr h6
    simp only
    omega
theorem TH{k:Nat}{m:aL}(h:MInv k m)(s:aT)(hs:oJ s):fP (yA m s).1≤fP m+27*nY s.Kind:=by
 have hkn:=(Sg.iQ hs.1).1
 unfold yA
 by_cases k20:s.Kind=20
 ·rw[if_pos k20,k20]
  have:=Vs m s
  have e:nY 20=10:=by decide
  rw[e]
  omega
 rw[if_neg k20]
 by_cases k6:s.Kind=6
 ·rw[if_pos k6,k6]
  have:=Rf m s
  have e:nY 6=2:=by decide
  rw[e]
  omega
 rw[if_neg k6]
 by_cases k18:s.Kind=18
 ·rw[if_pos k18,k18]
  have:=(Qa m s).1
  have e:nY 18=2:=by decide
  rw[e]
  omega
 rw[if_neg k18]
 by_cases k22:s.Kind=22
 ·rw[if_pos k22]
  have:=Vq m s
  simp only
  omega
 rw[if_neg k22]
 refine VF h s hs ?_
 rcases Sg.kinds s.Kind with q | q | q | q | q | q | q | q | q
 ·exact .inl q
 ·exact absurd q k6
 ·exact .inr (.inl q)
 ·exact absurd q k18
 ·exact .inr (.inr (.inl q))
 ·exact absurd q k20
 ·exact .inr (.inr (.inr q))
 ·exact absurd q k22
 ·obtain⟨q1,q2,q3,q4,q5,q6,q7,q8⟩:=q
  simp[Sg.aH,q1,q2,q3,q4,q5,q6,q7,q8]at hkn
theorem U3(c:aS)(b:List Int):Cg (nQ c b).1=Cg c∧(nQ c b).1.Local=c.Local:=by
 unfold nQ
 split
 ·exact⟨rfl,rfl⟩
 split
 ·exact⟨rfl,rfl⟩
 ·unfold Sd.grown
  split <;> exact⟨rfl,rfl⟩
theorem Ri(m:aL){i:Nat}{c:aS}(hc:m.aj[i]? = some c)(b:List Int):fP (oD m i c b).1≤fP m+44:=by
 obtain⟨e1,e2⟩:=U3 c b
 have h1:=yV m hc e2
 unfold oD
 split
 ·have h2:=EX (gy m i (nQ c b).1) (fF (uT (c':=(nQ c b).1) hc))
  simp only
  omega
 split
 ·have h3:=yV m (c':=full (nQ c b).1) hc e2
  have e3:Cg (full (nQ c b).1)=Cg (nQ c b).1:=rfl
  have h4:=mR (jI (gy m i (full (nQ c b).1))) (KA m (nQ c b).1) (by simp only[KA];omega)
  rw[Ah]at h4
  have e:nY 22=0:=by decide
  rw[show(KA m (nQ c b).1).Kind=22 from rfl,e]at h4
  simp only
  omega
 ·simp only
  omega
end Po
end V
namespace V
namespace Po
def BX(f:bM):Prop:=f.aU=5→∃s,oJ s∧f.Payload=Sg.iq s
theorem IL{s:aT}(hs:oJ s):(Sg.iq s).headD 0=s.Kind:=by
 have hk:=(Sg.iQ hs.1).1
 have:0≤s.Kind∧s.Kind<256:=Sg.wU hk
 unfold Sg.iq
 show j3 s.Kind=s.Kind
 exact EF this.1 this.2
theorem Vb{k:Nat}{m:aL}(h:MInv k m){f:bM}(hg:BX f):fP (kC m f).1≤fP m+27*frX f:=by
 unfold kC frX
 by_cases c4:f.aU=4∨f.aU=6
 ·rw[if_pos c4];simp only;omega
 rw[if_neg c4,if_neg c4]
 by_cases c5:f.aU=5
 ·obtain⟨s,hs,hp⟩:=hg c5
  rw[if_pos c5,if_pos c5,hp,IL hs]
  unfold GY
  rw[Sg.ze hs.1 hs.2,if_pos rfl]
  exact TH h s hs
 ·rw[if_neg c5,if_neg c5]
  rcases dV m f.aU with⟨hn,_⟩ | ⟨i,c,hn,_,hc,_⟩
  ·rw[hn];simp only;omega
  ·rw[hn]
   simp only
   split
   ·simp only;omega
   ·have:=Ri m hc f.Payload
    omega
def Kq(l:List (List Int)):Nat:=(l.map fun p=>p.length+84).sum
theorem UD{c:aS}{s:List Int}{r:List (List Int)}(h:Sd.Ok c)(ho:c.Out=s::r):(Sd.partOf c s).length+84+Cg (Sd.Dq c s r)≤Cg c:=by
 have hs:=h.sent
 have hm:=h.YV
 rw[show Sd.lastOf c=1+s.length by unfold Sd.lastOf;rw[ho]]at hs
 have hp:(Sd.partOf c s).length=min c.dn.toNat (s.length+2-c.aR.toNat):=by
  unfold Sd.partOf
  rw[List.length_take,List.length_drop,Sd.lM]
 rw[hp]
 unfold Sd.Dq Cg
 by_cases hc:c.aR+c.dn≥s.length+2
 ·rw[if_pos hc,ho]
  simp only[List.map_cons,List.sum_cons]
  unfold MW
  show _+84+((r.map MW).sum-5*(0:Int).toNat)≤_
  rw[show(0:Int).toNat=0 from rfl]
  unfold MW
  omega
 ·rw[if_neg hc,ho]
  simp only[List.map_cons,List.sum_cons]
  have:(c.aR+c.dn).toNat=c.aR.toNat+c.dn.toNat:=by omega
  rw[this]
  unfold MW
  omega
theorem Lh:∀(n:Nat) (c:aS),Sd.Ok c→Sd.Sm c→Kq (p8 n c).2+Cg (p8 n c).1≤Cg c
 | 0,c,_,_=>by unfold p8 Kq;simp
 | n+1,c,h,hs=>by
   unfold p8
   cases ho:c.Out with
   | nil=>unfold Kq;simp
   | cons s r=>
     simp only
     by_cases hc:c.aN>0
     ·rw[if_pos hc]
      obtain⟨k1,k2,_⟩:=Sd.J4 h hs ho hc
      have h1:=Lh n (Sd.Dq c s r) k1 k2
      have h2:=UD h ho
      unfold Kq at h1 ⊢
      simp only[List.map_cons,List.sum_cons]
      omega
     ·rw[if_neg hc]
      unfold Kq
      simp
theorem Vt(m:aL){c:aS}(h:Sd.Ok c):Kq (gH m c)+Cg (gL m c)≤Cg c:=by
 unfold gH gL
 split
 ·unfold Kq;simp
 ·unfold sD
  split
  ·unfold Kq;simp
  ·exact Lh 65536 c h h.sm
def later(fr:List (List (List Int)))(rd:Nat):Nat:=(fr.map fun f=>Kq (f.drop rd)).sum
def AB(fr:List (List (List Int)))(rd n:Nat):Nat:=((fr.take n).map fun f=>Kq (f.drop (rd+1))).sum+((fr.drop n).map fun f=>Kq (f.drop rd)).sum
theorem QF(c:Int)(p:List Int)(h:64≤c):Jz ⟨c,p⟩=p.length+84:=by
 unfold Jz frX
 rw[if_neg (show ¬ ((⟨c,p⟩:bM).aU=4∨(⟨c,p⟩:bM).aU=6)from by simp only;omega),if_neg (show ¬ (⟨c,p⟩:bM).aU=5 from by simp only;omega)]
theorem Rb(f:List (List Int))(rd:Nat):Kq (f.drop rd)=(match f[rd]? with | some p=>p.length+84 | none=>0)+Kq (f.drop (rd+1)):=by
 cases h:f[rd]? with
 | none=>
   have:f.length≤rd:=by rwa [List.getElem?_eq_none_iff]at h
   rw[List.drop_eq_nil_of_le this,List.drop_eq_nil_of_le (by omega)]
   rfl
 | some p=>
   have hlt:=(gS.1 h).1
   have h1:f.drop rd=p::f.drop (rd+1):=by
    rw[List.drop_eq_getElem_cons hlt]
    rw[gE hlt]at h
    injection h with h
    rw[h]
   rw[h1]
   unfold Kq
   simp only[List.map_cons,List.sum_cons]
theorem Df(l:List aS)(hl:∀c∈l,Sd.Ok c)(fr:List (List (List Int)))(rd:Nat)(m:aL):∀n,n≤fr.length→fP (fK l fr rd m n)+AB fr rd n≤fP m+later fr rd
 | 0,_=>by
   unfold AB later fK
   simp
 | n+1,hn=>by
   have ih:=Df l hl fr rd m n (by omega)
   have hx:fr[n]? = some fr[n]:=gE (by omega)
   generalize fr[n]'(by omega)=f at hx
   have h1:fr.drop n=f::fr.drop (n+1):=by
    have hlt:n<fr.length:=by omega
    rw[List.drop_eq_getElem_cons hlt]
    rw[gE hlt]at hx
    injection hx with hx
    rw[hx]
   have h2:fr.take (n+1)=fr.take n++[f]:=(iJ hx).symm
   rw[mQ]
   have h3:=Rb f rd
   have hq:fP (Np l fr rd (fK l fr rd m n) n)≤fP (fK l fr rd m n)+(match f[rd]? with | some p=>p.length+84 | none=>0):=by
    unfold Np
    rw[hx]
    cases hc:l[n]? with
    | none=>simp only;omega
    | some c=>
      have hi:=lY (hl c (fF hc))
      simp only
      cases hp:f[rd]? with
      | none=>simp only;omega
      | some p=>
        simp only
        rw[JW,QF c.Remote p (by omega)]
        omega
   unfold AB at ih ⊢
   rw[h1]at ih
   rw[h2]
   simp only[List.map_append,List.map_cons,List.map_nil,List.sum_append,List.sum_cons,List.sum_nil]at ih ⊢
   omega
theorem zY(l:List aS)(hl:∀c∈l,Sd.Ok c)(fr:List (List (List Int)))(m:aL):∀n,fP (iX l fr m n)+later fr n≤fP m+later fr 0
 | 0=>Nat.le_refl _
 | n+1=>by
   have ih:=zY l hl fr m n
   rw[lD]
   have h1:=Df l hl fr n (iX l fr m n) fr.length (Nat.le_refl _)
   have e:AB fr n fr.length=later fr (n+1):=by
    unfold AB later
    rw[List.take_length,List.drop_length]
    simp
   omega
theorem Ja{k:Nat}{m:aL}(h:MInv k m):fP (FQ m)≤fP m:=by
 have g4:∀c∈m.aj.map (gL m),Sd.Ok c:=fun c hc=>by
  obtain⟨d,hd,rfl⟩:=List.mem_map.1 hc
  exact(rX m (h.qE d hd)).1
 have h1:=zY (m.aj.map (gL m)) g4 (m.aj.map (gH m)) { m with aj:=m.aj.map (gL m) } (kZ (m.aj.map (gH m)))
 have h2:fP { m with aj:=m.aj.map (gL m) }+later (m.aj.map (gH m)) 0≤fP m:=by
  have e:kT { m with aj:=m.aj.map (gL m) }=kT m:=rfl
  have hs:((m.aj.map (gL m)).map (kT m)).sum+later (m.aj.map (gH m)) 0≤(m.aj.map (kT m)).sum:=by
   unfold later
   simp only[List.drop_zero,List.map_map]
   have hall:=h.qE
   generalize m.aj=cs at hall
   induction cs with
   | nil=>simp
   | cons c cs ih=>
     have:=ih fun d hd=>hall d (by simp[hd])
     have hc:=Vt m (hall c (by simp))
     have hloc:=(rX m (hall c (by simp))).2.1
     have e1:kT m (gL m c)+Kq (gH m c)≤kT m c:=by
      unfold kT Tf
      rw[hloc]
      omega
     simp only[List.map_cons,List.sum_cons,Function.comp_apply]at this ⊢
     omega
  unfold fP
  rw[e]
  show((m.aj.map (gL m)).map (kT m)).sum+uU m+_≤_
  omega
 unfold FQ
 omega
end Po
end V
namespace V
namespace St
structure Good(f:bM):Prop where
 lG:1≤f.aU∧f.aU≤65535
 len:f.Payload.length≤4096
 xZ:∀x∈f.Payload,Byte x
theorem Good.fok{f:bM}(h:Good f):Fr.FOk f:=by
 have:=h.lG
 have:=h.len
 exact⟨by omega,by omega⟩
def eX:List bM→Nat→jU
 | f::_,s=>if s=0 then Fr.az else⟨true,(Fr.bytesOf f).take s⟩
 | [],_=>Fr.az
theorem L9(f:bM)(r:List bM){s:Nat}(h:s≠0):eX (f::r) s=⟨true,(Fr.bytesOf f).take s⟩:=by
 show(if s=0 then _ else _)=_
 rw[if_neg h]
theorem U6{b:List Int}{t:Nat}(h:4≤t):Fr.hd (b.take t)=Fr.hd b:=by
 match b,t,h with
 | [],_,_=>simp
 | [_],t+4,_=>simp
 | [_,_],t+4,_=>simp
 | [_,_,_],t+4,_=>simp
 | x::y::z::u::r,t+4,_=>rfl
theorem QM{f:bM}(h:Good f){t:Nat}(ht:0<t)(hl:t≤f.Payload.length+4):Fr.LV ((Fr.bytesOf f).take t) 0=if t=f.Payload.length+4 then(Fr.az,[f],0)else(⟨true,(Fr.bytesOf f).take t⟩,[],0):=by
 have hlen:((Fr.bytesOf f).take t).length=t:=by rw[List.length_take,Fr.iT];omega
 have hc:=h.lG
 have hp:=h.len
 unfold Fr.LV
 by_cases h4:t<4
 ·rw[if_pos (by omega),if_neg (by omega)]
 rw[if_neg (by omega),U6 (by omega),Fr.Kk h.fok (by omega),hlen]
 rw[if_neg (by simp only;omega),if_neg (by simp only;omega)]
 by_cases he:t=f.Payload.length+4
 ·rw[if_neg (by simp only;omega),if_pos he,List.take_of_length_le (by rw[Fr.iT];omega)]
  rfl
 ·rw[if_pos (by simp only;omega),if_neg he]
theorem Ob{f:bM}(h:Good f)(r:List bM){s t:Nat}(hs:s<t)(hl:t≤f.Payload.length+4):Fr.feed (eX (f::r) s) ⟨if s=0 then 2 else 1,((Fr.bytesOf f).take t).drop s⟩=if t=f.Payload.length+4 then(Fr.az,[f],0)else(eX (f::r) t,[],0):=by
 have hne:((Fr.bytesOf f).take t).drop s≠[]:=fun e=>by
  have:=congrArg List.length e
  rw[List.length_drop,List.length_take,Fr.iT,List.length_nil]at this
  omega
 have hres:(if t=f.Payload.length+4 then(Fr.az,[f],(0:Int))else(eX (f::r) t,[],0))=if t=f.Payload.length+4 then(Fr.az,[f],0)else(⟨true,(Fr.bytesOf f).take t⟩,[],0):=by
  rw[L9 f r (show t≠0 by omega)]
 rw[hres,← QM h (by omega) hl]
 by_cases h0:s=0
 ·subst h0
  rw[show eX (f::r) 0=Fr.az from rfl]
  rw[List.drop_zero]at hne
  unfold Fr.feed
  simp only[List.drop_zero,if_true]
  rw[if_neg (by simp),if_neg (by simp[hne])]
  rfl
 ·rw[L9 f r h0]
  unfold Fr.feed
  rw[if_neg h0]
  have hj:(Fr.bytesOf f).take s++((Fr.bytesOf f).take t).drop s=(Fr.bytesOf f).take t:=by
   have:((Fr.bytesOf f).take t).take s=(Fr.bytesOf f).take s:=by rw[List.take_take];congr 1;omega
   rw[← this,List.take_append_drop]
  rw[if_neg (by simp[hne]),if_neg (by simp[hne]),if_neg (by simp),if_neg (by simp)]
  simp only[hj]
def Flow:List bM→Nat→List eT→List bM→Nat→Prop
 | L,s,[],O,t=>L=O∧s=t
 | L,s,p::ps,O,t=>match L with
   | []=>False
   | f::r=>∃u,s<u∧u≤f.Payload.length+4∧p=⟨if s=0 then 2 else 1,((Fr.bytesOf f).take u).drop s⟩∧if u=f.Payload.length+4 then Flow r 0 ps O t else Flow (f::r) u ps O t
theorem vE:∀(ps:List eT) (L:List bM) (s:Nat) (O:List bM) (t:Nat) (l:List bM),Flow L s ps O t→Flow (L++l) s ps (O++l) t
 | [],L,s,O,t,l,h=>by
   obtain⟨rfl,rfl⟩:=h
   exact⟨rfl,rfl⟩
 | p::ps,L,s,O,t,l,h=>by
   match L,h with
   | f::r,⟨u,h1,h2,h3,h4⟩=>
     refine⟨u,h1,h2,h3,?_⟩
     by_cases he:u=f.Payload.length+4
     ·rw[if_pos he]at h4 ⊢
      exact vE ps r 0 O t l h4
     ·rw[if_neg he]at h4 ⊢
      exact vE ps (f::r) u O t l h4
theorem wY:∀(ps:List eT) (L:List bM) (s:Nat) (f:bM) (r:List bM) (t u:Nat),Flow L s ps (f::r) t→t<u→u≤f.Payload.length+4→Flow L s (ps++[⟨if t=0 then 2 else 1,((Fr.bytesOf f).take u).drop t⟩]) (if u=f.Payload.length+4 then r else f::r) (if u=f.Payload.length+4 then 0 else u)
 | [],L,s,f,r,t,u,h,h1,h2=>by
   obtain⟨rfl,rfl⟩:=h
   refine⟨u,h1,h2,rfl,?_⟩
   by_cases he:u=f.Payload.length+4
   ·rw[if_pos he,if_pos he,if_pos he];exact⟨rfl,rfl⟩
   ·rw[if_neg he,if_neg he,if_neg he];exact⟨rfl,rfl⟩
 | p::ps,L,s,f,r,t,u,h,h1,h2=>by
   match L,h with
   | g::q,⟨v,k1,k2,k3,k4⟩=>
     refine⟨v,k1,k2,k3,?_⟩
     by_cases he:v=g.Payload.length+4
     ·rw[if_pos he]at k4 ⊢
      exact wY ps q 0 f r t u k4 h1 h2
     ·rw[if_neg he]at k4 ⊢
      exact wY ps (g::q) v f r t u k4 h1 h2
theorem xV{L:List bM}{s:Nat}{p:eT}{ps:List eT}{O:List bM}{t:Nat}(h:Flow L s (p::ps) O t)(hg:∀f∈L,Good f) :
 (∃(f:bM) (r:List bM),L=f::r∧Fr.feed (eX L s) p=(eX r 0,[f],0)∧Flow r 0 ps O t)∨∃u,Fr.feed (eX L s) p=(eX L u,[],0)∧Flow L u ps O t:=by
 match L,h with
 | f::r,⟨u,h1,h2,h3,h4⟩=>
   have hf:=Ob (hg f (by simp)) r h1 h2
   rw[← h3]at hf
   by_cases he:u=f.Payload.length+4
   ·rw[if_pos he]at h4 hf
    refine .inl ⟨f,r,rfl,?_,h4⟩
    rw[hf]
    cases r <;> rfl
   ·rw[if_neg he]at h4 hf
    exact .inr ⟨u,hf,h4⟩
theorem QG{L:List bM}{s t:Nat}(h:Flow L s [] [] t):L=[]:=h.1
end St
end V
namespace V
namespace St
structure VW(f:bM):Prop where
 good:Good f
 sig:Po.BX f
 nfix:f.aU≠4∧f.aU≠6
structure Same(m m':aL):Prop where
 sent:m'.aR=m.aR
 asm:m'.ay=m.ay
 len:m'.Length=m.Length
 role:m'.iU=m.iU
def Adds(m m':aL):Prop:=Same m m'∧∃l,m'.Out=m.Out++l∧∀f∈l,VW f
theorem Adds.refl(m:aL):Adds m m:=⟨⟨rfl,rfl,rfl,rfl⟩,[],by simp,by simp⟩
theorem Adds.of{m m':aL}(h:Same m m')(ho:m'.Out=m.Out):Adds m m':=⟨h,[],by simp[ho],by simp⟩
theorem Adds.trans{a b c:aL}(h:Adds a b)(g:Adds b c):Adds a c:=by
 obtain⟨⟨h1,h2,h3,h4⟩,l,hl,hn⟩:=h
 obtain⟨⟨g1,g2,g3,g4⟩,k,hk,hm⟩:=g
 refine⟨⟨g1.trans h1,g2.trans h2,g3.trans h3,g4.trans h4⟩,l++k,by rw[hk,hl,List.append_assoc],fun f hf=>?_⟩
 rcases List.mem_append.1 hf with hf | hf
 ·exact hn f hf
 ·exact hm f hf
theorem Md(m:aL){c:Int}{b:List Int}(h:VW ⟨c,b⟩):Adds m (qd m c b):=⟨⟨rfl,rfl,rfl,rfl⟩,[⟨c,b⟩],rfl,fun f hf=>by rw[List.mem_singleton]at hf;rw[hf];exact h⟩
theorem iF(m:aL){s:aT}(h:oJ s):Adds m (jM m s):=
 Md m ⟨⟨by simp only;omega,by have:=y8 s;simp only;omega,Sg.Oc h.1⟩,fun _=>⟨s,h,rfl⟩,by simp only;omega⟩
theorem BO(m:aL){s:aT}(h:oJ (fT s (wR m))):Adds m (uf m s):=
 (Adds.of (m:=m) (m':=jI m) ⟨rfl,rfl,rfl,rfl⟩ rfl).trans ((iF (jI m) h).trans (Adds.of (m:=jM (jI m) (fT s (wR m))) (m':=uf m s) ⟨rfl,rfl,rfl,rfl⟩ rfl))
theorem BN{k:Nat}{m:aL}(h:MInv k m){c:aS}(hc:c∈m.aj):Adds m (nL m c):=by
 obtain⟨hs,_⟩:=h.nL hc
 unfold nL
 split
 ·exact .refl m
 ·exact BO m hs
theorem Ow{k:Nat}{m:aL}(h:MInv k m)(psm sP mps cr:Int)(hp:0≤psm∧psm≤65535):Adds m (iE m psm sP mps cr).1:=by
 unfold iE
 split
 ·exact .refl m
 rename_i h0
 split
 ·exact .refl m
 rename_i h1
 split
 ·exact .refl m
 rename_i h2
 obtain⟨v,_,f2,f3,f4,f5⟩:=kD (m:=m) (by omega)
 simp only[Bool.not_eq_false,Bool.and_eq_true]at h1
 rw[f2]
 exact BO m (KY (mX h) ⟨show 1≤psm by omega,hp.2⟩ ⟨f4,f5⟩ h1.1 h1.2.1 h1.2.2)
theorem R9{k:Nat}{m:aL}(h:MInv k m)(n:Int):Adds m (Cw m n).1:=by
 unfold Cw
 rcases dV m n with⟨hq,_⟩ | ⟨i,c,hq,_,hc,_⟩
 ·rw[hq];exact .refl m
 ·rw[hq]
  simp only
  split
  ·exact .refl m
  split
  ·exact .refl m
  ·exact BN h (fF hc)
theorem Oo(m:aL)(n:Int)(b:List Int):Adds m (kY m n b).1:=by
 unfold kY
 rcases dV m n with⟨hq,_⟩ | ⟨i,c,hq,_,hc,_⟩
 ·rw[hq];exact .refl m
 ·rw[hq]
  simp only
  split
  ·exact .refl m
  split
  ·exact .of ⟨rfl,rfl,rfl,rfl⟩ rfl
  ·exact .refl m
theorem R6{k:Nat}{m:aL}(h:MInv k m)(u:jo):Adds m (sF m u).1:=by
 unfold sF
 split
 ·exact .refl m
 split
 ·exact .refl m
 rename_i h2
 split
 ·exact .refl m
 split
 ·exact .refl m
 exact BO m (KW (mX h) (by simpa using h2))
theorem R5(m:aL)(id r:Int):Adds m (tu m id r).1:=by
 unfold tu
 split
 ·exact .refl m
 split
 ·exact .refl m
 rename_i h2
 split
 ·exact .refl m
 have h2:=Decidable.not_not.1 h2
 exact iF m (rP h2.1 19 (.inl ⟨rfl,h2.2⟩))
theorem Sc{k:Nat}{m:aL}(h:MInv k m){s:aT}(hs:oJ s):Adds m (tV m s).1:=by
 have hi:=DF hs
 unfold tV
 rcases Dx m s.bU with⟨q1,_⟩ | ⟨i,L,q1,_,hx⟩
 ·rw[q1];exact iF m (mM hi (.inl rfl))
 ·have hlm:=h.NK _ (fF hx)
  rw[q1]
  simp only
  split
  ·exact iF m (mM hi (by omega))
  split
  ·exact iF m (mM hi (by omega))
  rename_i hu
  split
  ·exact iF m (mM hi (by omega))
  ·obtain⟨v,_,f2,f3,f4,f5⟩:=kD (m:=m) (by omega)
   rw[f2]
   exact(Adds.of (m:=m) (m':={ m with aj:=jY (yO s v L) m.aj }) ⟨rfl,rfl,rfl,rfl⟩ rfl).trans (iF _ (KZ hi ⟨f4,f5⟩ hlm.1 hlm.2.1 hlm.2.2))
theorem EN{id r:Int}(hi:1≤id∧id≤255)(hr:r=0∨r=2):oJ (Cq id r):=rP hi 1 (.inr ⟨rfl,hr⟩)
theorem Ou{k:Nat}{m:aL}(h:MInv k m){s:aT}(hs:oJ s):Adds m (oC m s).1:=by
 have hi:=DF hs
 unfold oC
 rcases dV m s.bR with⟨hq,_⟩ | ⟨i,c,hq,_,hc,hl⟩
 ·rw[hq];exact iF m (EN hi (.inr rfl))
 ·rw[hq]
  simp only
  split
  ·exact iF m (EN hi (.inr rfl))
  ·rename_i hr
   have hr:=Decidable.not_not.1 hr
   have hcs:=lY (h.qE c (fF hc))
   exact(Adds.of (m:=m) (m':={ m with aj:=qD m.aj i }) ⟨rfl,rfl,rfl,rfl⟩ rfl).trans (iF _ (EO hi (src:=s.Source) (dst:=s.bR) (by omega) (by omega) 7 (.inr rfl)))
theorem Oq(m:aL){s:aT}(hs:oJ s):Adds m (mU m s).1:=by
 unfold mU
 split
 ·exact .refl m
 ·exact iF m (EN (DF hs) (.inl rfl))
theorem Sb{k:Nat}{m:aL}(h:MInv k m)(s:aT):Adds m (BG m s):=by
 unfold BG
 rcases ko m s.Source with⟨hq,_⟩ | ⟨i,c,hq,_,hc,_⟩
 ·rw[hq];exact .refl m
 ·rw[hq]
  simp only
  obtain⟨_,e3,e4⟩:=I8 c s.aA (h.qE c (fF hc))
  have hP:=h.put hc e3 e4
  split
  ·exact .refl m
  split
  ·exact(Adds.of (m:=m) (m':=gy m i (Ce c s.aA).1) ⟨rfl,rfl,rfl,rfl⟩ rfl).trans (BN hP (fF (uT (c':=(Ce c s.aA).1) hc)))
  ·exact .of ⟨rfl,rfl,rfl,rfl⟩ rfl
theorem Ot(m:aL)(n:Int):Adds m (qY m n).1:=by
 unfold qY
 split
 ·exact .refl m
 ·exact .of ⟨rfl,rfl,rfl,rfl⟩ rfl
theorem Sj(m:aL)(s:aT):Adds m (sG m s).1:=by
 unfold sG
 split
 ·exact .refl m
 ·rename_i i r _
  have hd:Adds m (fI m i):=.of ⟨rfl,rfl,rfl,rfl⟩ rfl
  split
  ·split
   ·exact hd
   split
   ·exact hd
   split
   ·exact hd
   ·exact .of ⟨rfl,rfl,rfl,rfl⟩ rfl
  split
  ·exact hd.trans (Ot _ _)
  ·exact hd
theorem R4{k:Nat}{m:aL}(h:MInv k m){s:aT}(hs:oJ s):Adds m (yA m s).1:=by
 unfold yA
 split
 ·exact Sc h hs
 split
 ·exact Ou h hs
 split
 ·exact Oq m hs
 split
 ·exact Sb h s
 ·exact Sj m s
theorem Ov{k:Nat}{m:aL}(h:MInv k m){i:Nat}{c:aS}(hc:m.aj[i]? = some c){b:List Int}(hb:∀x∈b,Byte x)(hl:b.length≤65536):Adds m (oD m i c b).1:=by
 obtain⟨_,e3,⟨e4,_⟩,_,e7⟩:=LD c b hl hb (h.qE c (fF hc))
 have hP:=h.put hc e3 e4
 unfold oD
 split
 ·exact(Adds.of (m:=m) (m':=gy m i (nQ c b).1) ⟨rfl,rfl,rfl,rfl⟩ rfl).trans (BN hP (fF (uT (c':=(nQ c b).1) hc)))
 rename_i hz
 split
 ·rename_i hg
  obtain⟨g1,g2⟩:=hg
  obtain⟨_,g3⟩:=LJ (nQ c b).1 e3 (e7 (by simpa using hz)) g1
  have hP2:=h.put hc g3 e4
  have ZA:=lY e3
  have hgv:=e3.given
  have hrx:=e3.rx
  have hn:=mX hP
  have hcr:oJ (KA m (nQ c b).1):=KX (mX h) ZA.1 (by omega)
  exact(Adds.of (m:=m) (m':=jI (gy m i (full (nQ c b).1))) ⟨rfl,rfl,rfl,rfl⟩ rfl).trans (iF _ hcr)
 ·exact .of ⟨rfl,rfl,rfl,rfl⟩ rfl
theorem R7{k:Nat}{m:aL}(h:MInv k m){f:bM}(hf:Good f)(hg:Po.BX f):Adds m (kC m f).1:=by
 have hlen:=hf.len
 unfold kC
 split
 ·exact .refl m
 split
 ·rename_i c5
  obtain⟨s,hs,hp⟩:=hg c5
  rw[hp]
  unfold GY
  rw[Sg.ze hs.1 hs.2,if_pos rfl]
  exact R4 h hs
 rcases dV m f.aU with⟨hn,_⟩ | ⟨i,c,hn,_,hc,_⟩
 ·rw[hn];exact .refl m
 ·rw[hn]
  simp only
  split
  ·exact .refl m
  ·exact Ov h hc hf.xZ (by omega)
end St
end V
namespace V
namespace St
def Rows(m m':aL):Prop:=∀c∈m'.aj,∀s∈c.Out,∃d∈m.aj,s∈d.Out
theorem Rows.refl(m:aL):Rows m m:=fun c hc _ hs=>⟨c,hc,hs⟩
theorem Rows.same{m m':aL}(h:m'.aj=m.aj):Rows m m':=fun c hc _ hs=>⟨c,by rw[← h];exact hc,hs⟩
theorem Rows.trans{a b c:aL}(h:Rows a b)(g:Rows b c):Rows a c:=fun x hx s hs=>by
 obtain⟨d,hd,hs⟩:=g x hx s hs
 exact h d hd s hs
theorem zW(m:aL){i:Nat}{c c':aS}(hc:m.aj[i]? = some c)(ho:∀s∈c'.Out,s∈c.Out):Rows m (gy m i c'):=fun d hd s hs=>by
 rcases List.mem_or_eq_of_mem_set hd with hd | rfl
 ·exact⟨d,hd,hs⟩
 ·exact⟨c,fF hc,ho s hs⟩
theorem HY(m m':aL)(c:aS)(ho:c.Out=[])(h:m'.aj=jY c m.aj):Rows m m':=fun d hd s hs=>by
 rw[h]at hd
 rcases(oo c _ d).1 hd with rfl | hd
 ·rw[ho]at hs;cases hs
 ·exact⟨d,hd,hs⟩
theorem Dc(m m':aL)(i:Nat)(h:m'.aj=qD m.aj i):Rows m m':=fun d hd s hs=>⟨d,(yT m.aj i).subset (by rw[← h];exact hd),hs⟩
theorem zX(m:aL)(c:aS):Rows m (nL m c):=by
 unfold nL
 split
 ·exact .refl m
 ·exact .same rfl
theorem Ni(m:aL)(psm sP mps cr:Int):Rows m (iE m psm sP mps cr).1:=by
 unfold iE
 (repeat' split) <;> first | exact .refl m | exact .same rfl
theorem PS(m:aL)(n:Int):Rows m (Cw m n).1:=by
 unfold Cw
 (repeat' split) <;> first | exact .refl m | exact zX m _
theorem PN(m:aL)(u:jo):Rows m (sF m u).1:=by
 unfold sF
 (repeat' split) <;> first | exact .refl m | exact .same rfl
theorem PL(m:aL)(id r:Int):Rows m (tu m id r).1:=by
 unfold tu
 (repeat' split) <;> first | exact .refl m | exact .same rfl
theorem PV(m:aL)(s:aT):Rows m (tV m s).1:=by
 unfold tV
 (repeat' split) <;> first | exact .same rfl | exact HY m _ _ rfl rfl
theorem Nh(m:aL)(s:aT):Rows m (oC m s).1:=by
 unfold oC
 (repeat' split) <;> first | exact .same rfl | exact Dc m _ _ rfl
theorem Nf(m:aL)(s:aT):Rows m (mU m s).1:=by
 unfold mU
 (repeat' split) <;> exact .same rfl
theorem Vr(c:aS)(n:Int):(Ce c n).1.Out=c.Out:=by
 unfold Ce
 (repeat' split) <;> rfl
theorem PU(m:aL)(s:aT):Rows m (BG m s):=by
 unfold BG
 rcases ko m s.Source with⟨hq,_⟩ | ⟨i,c,hq,_,hc,_⟩
 ·rw[hq];exact .refl m
 ·rw[hq]
  simp only
  have hp:=zW m (c':=(Ce c s.aA).1) hc (fun t ht=>by rw[Vr]at ht;exact ht)
  split
  ·exact .refl m
  split
  ·exact hp.trans (zX _ _)
  ·exact hp
theorem Ng(m:aL)(n:Int):Rows m (qY m n).1:=by
 unfold qY
 split
 ·exact .refl m
 ·exact Dc m _ _ rfl
theorem PX(m:aL)(s:aT):Rows m (sG m s).1:=by
 unfold sG
 split
 ·exact .refl m
 ·rename_i i r _
  have hd:Rows m (fI m i):=.same rfl
  split
  ·split
   ·exact hd
   split
   ·exact hd
   split
   ·exact hd
   ·exact HY m _ _ rfl rfl
  split
  ·exact hd.trans (Ng _ _)
  ·exact hd
theorem PK(m:aL)(s:aT):Rows m (yA m s).1:=by
 unfold yA
 split
 ·exact PV m s
 split
 ·exact Nh m s
 split
 ·exact Nf m s
 split
 ·exact PU m s
 ·exact PX m s
theorem LG(c:aS)(b:List Int):(nQ c b).1.Out=c.Out:=by
 unfold nQ
 split
 ·rfl
 split
 ·rfl
 ·unfold Sd.grown
  split <;> rfl
theorem rows_data(m:aL){i:Nat}{c:aS}(hc:m.aj[i]? = some c)(b:List Int):Rows m (oD m i c b).1:=by
 have hp:=zW m (c':=(nQ c b).1) hc (fun t ht=>by rw[LG]at ht;exact ht)
 have hp2:=zW m (c':=full (nQ c b).1) hc (fun t ht=>by
  rw[show(full (nQ c b).1).Out=(nQ c b).1.Out from rfl,LG]at ht
  exact ht)
 unfold oD
 split
 ·exact hp.trans (zX _ _)
 split
 ·exact hp2.trans (.same rfl)
 ·exact hp
theorem PW(m:aL)(b:List Int):Rows m (KG m b).1:=by
 unfold KG
 (repeat' split) <;> exact .same rfl
theorem PO(m:aL)(f:bM):Rows m (kC m f).1:=by
 unfold kC
 split
 ·exact .refl m
 split
 ·unfold GY
  split
  ·exact PK m _
  ·exact PW m _
 rcases dV m f.aU with⟨hn,_⟩ | ⟨i,c,hn,_,hc,_⟩
 ·rw[hn];exact .refl m
 ·rw[hn]
  simp only
  split
  ·exact .refl m
  ·exact rows_data m hc f.Payload
def Byc(c:aS):Prop:=∀s∈c.Out,∀x∈s,Byte x
theorem Qg(c:aS)(s:List Int)(r:List (List Int))(ho:c.Out=s::r):∀t∈(Sd.Dq c s r).Out,t∈c.Out:=by
 unfold Sd.Dq
 split
 ·intro t ht
  rw[ho]
  exact List.mem_cons_of_mem _ ht
 ·intro t ht
  exact ht
theorem Vf{s:List Int}(hs:∀x∈s,Byte x)(hl:s.length≤65535):∀x∈Sd.fm s,Byte x:=by
 intro x hx
 unfold Sd.fm at hx
 rcases List.mem_append.1 hx with hx | hx
 ·simp at hx
  unfold Byte
  omega
 ·exact hs x hx
theorem Ib:∀(n:Nat) (c:aS),Sd.Ok c→Sd.Sm c→(∀t∈(p8 n c).1.Out,t∈c.Out)∧(Byc c→∀p∈(p8 n c).2,∀x∈p,Byte x)
 | 0,c,_,_=>⟨fun _ h=>h,fun _ p hp=>by cases hp⟩
 | n+1,c,h,hs=>by
   unfold p8
   cases ho:c.Out with
   | nil=>exact⟨fun t ht=>by rw[ho]at ht;exact ht,fun _ p hp=>by cases hp⟩
   | cons s r=>
     simp only
     by_cases hc:c.aN>0
     ·rw[if_pos hc]
      obtain⟨k1,k2,_⟩:=Sd.J4 h hs ho hc
      obtain⟨q1,q2⟩:=Ib n (Sd.Dq c s r) k1 k2
      have hn:=Qg c s r ho
      refine⟨fun t ht=>by rw[← ho];exact hn t (q1 t ht),fun hb p hp=>?_⟩
      rcases List.mem_cons.1 hp with rfl | hp
      ·have hsl:=h.short s (by rw[ho];simp)
       have hpm:=h.YU
       intro x hx
       unfold Sd.partOf at hx
       exact Vf (hb s (by rw[ho];simp)) (by omega) x (List.mem_of_mem_drop (List.mem_of_mem_take hx))
      ·exact q2 (fun t ht=>hb t (hn t ht)) p hp
     ·rw[if_neg hc]
      exact⟨fun t ht=>by rw[ho]at ht;exact ht,fun _ p hp=>by cases hp⟩
theorem Jb(m:aL){c:aS}(h:Sd.Ok c):(∀t∈(gL m c).Out,t∈c.Out)∧(Byc c→∀p∈gH m c,∀x∈p,Byte x):=by
 unfold gL gH
 split
 ·exact⟨fun _ h=>h,fun _ p hp=>by cases hp⟩
 ·unfold sD
  split
  ·exact⟨fun _ h=>h,fun _ p hp=>by cases hp⟩
  ·exact Ib 65536 c h h.sm
theorem VG{l:List aS}(hl:∀c∈l,Sd.Ok c){fr:List (List (List Int))}(hf:∀f∈fr,∀p∈f,p.length≤4096∧∀x∈p,Byte x)(rd:Nat)(m:aL)(i:Nat):Adds m (Np l fr rd m i):=by
 unfold Np
 split
 ·rename_i f c h1 h2
  split
  ·rename_i p h3
   have hi:=lY (hl c (fF h2))
   obtain⟨p1,p2⟩:=hf f (fF h1) p (fF h3)
   exact Md m ⟨⟨by simp only;omega,p1,p2⟩,(fun e=>by simp only at e;omega),by simp only;omega⟩
  ·exact .refl m
 ·exact .refl m
theorem BM{l:List aS}(hl:∀c∈l,Sd.Ok c){fr:List (List (List Int))}(hf:∀f∈fr,∀p∈f,p.length≤4096∧∀x∈p,Byte x)(rd:Nat)(m:aL):∀n,Adds m (fK l fr rd m n)
 | 0=>.refl m
 | n+1=>by
   rw[mQ]
   exact(BM hl hf rd m n).trans (VG hl hf rd _ n)
theorem yj{l:List aS}(hl:∀c∈l,Sd.Ok c){fr:List (List (List Int))}(hf:∀f∈fr,∀p∈f,p.length≤4096∧∀x∈p,Byte x)(m:aL):∀n,Adds m (iX l fr m n)
 | 0=>.refl m
 | n+1=>by
   rw[lD]
   exact(yj hl hf m n).trans (BM hl hf n _ fr.length)
theorem Si{k:Nat}{m:aL}(h:MInv k m)(hb:∀c∈m.aj,Byc c):Adds m (FQ m)∧Rows m (FQ m):=by
 have g4:∀c∈m.aj.map (gL m),Sd.Ok c:=fun c hc=>by
  obtain⟨d,hd,rfl⟩:=List.mem_map.1 hc
  exact(rX m (h.qE d hd)).1
 have g7:∀f∈m.aj.map (gH m),∀p∈f,p.length≤4096∧∀x∈p,Byte x:=fun f hf p hp=>by
  obtain⟨d,hd,rfl⟩:=List.mem_map.1 hf
  exact⟨(LZ m (h.qE d hd)).2 p hp,(Jb m (h.qE d hd)).2 (hb d hd) p hp⟩
 have g3:(m.aj.map (gL m)).map (·.Local)=m.aj.map (·.Local):=by
  rw[List.map_map]
  exact List.map_congr_left fun c hc=>(rX m (h.qE c hc)).2.1
 unfold FQ
 refine⟨(Adds.of (m:=m) (m':={ m with aj:=m.aj.map (gL m) }) ⟨rfl,rfl,rfl,rfl⟩ rfl).trans (yj g4 g7 _ _),?_⟩
 have hf4:∀f∈m.aj.map (gH m),∀b∈f,b.length≤4096:=fun f hf b hb'=>(g7 f hf b hb').1
 have hch:=(qO (k:=k) (m:={ m with aj:=m.aj.map (gL m) }) (h.chans g3 g4) g4 hf4 (kZ (m.aj.map (gH m)))).2
 intro c hc s hs
 rw[hch]at hc
 obtain⟨d,hd,rfl⟩:=List.mem_map.1 hc
 exact⟨d,hd,(Jb m (h.qE d hd)).1 s hs⟩
end St
end V
namespace V
namespace St
theorem IW{k:Nat}{m:aL}(h:MInv k m){L:List bM}{s:Nat}{ps:List eT}(hf:Flow L s ps m.Out m.aR.toNat) :
 ((iM m).2.2=false→m.Out=[]∧(iM m).1=m)∧((iM m).2.2=true→Flow L s (ps++[(iM m).2.1]) (iM m).1.Out (iM m).1.aR.toNat):=by
 unfold iM
 cases ho:m.Out with
 | nil=>exact⟨fun _=>⟨rfl,rfl⟩,fun e=>by cases e⟩
 | cons f t=>
   have hs:=h.sent f t ho
   have hl:=Fq m
   rw[ho]at hf
   refine⟨(fun e=>by cases e),fun _=>?_⟩
   have hto:m.aR<toM m f∧toM m f≤(f.Payload.length:Int)+4:=by unfold toM;omega
   have hp:Uw m f=⟨if m.aR.toNat=0 then 2 else 1,((Fr.bytesOf f).take (toM m f).toNat).drop m.aR.toNat⟩:=by
    unfold Uw
    by_cases h0:m.aR=0
    ·rw[if_pos h0,if_pos (by omega)]
    ·rw[if_neg h0,if_neg (by omega)]
   have key:=wY ps L s f t m.aR.toNat (toM m f).toNat hf (by omega) (by omega)
   simp only[hp]
   unfold jL
   by_cases he:toM m f=(f.Payload.length:Int)+4
   ·rw[if_pos (show(toM m f).toNat=f.Payload.length+4 by omega),if_pos (show(toM m f).toNat=f.Payload.length+4 by omega)]at key
    rw[if_pos he]
    exact key
   ·rw[if_neg (show ¬ (toM m f).toNat=f.Payload.length+4 by omega),if_neg (show ¬ (toM m f).toNat=f.Payload.length+4 by omega)]at key
    rw[if_neg he]
    show Flow _ _ _ m.Out (toM m f).toNat
    rw[ho]
    exact key
def rest(m:aL):Nat:=Po.fP m-m.aR.toNat
theorem Ho{k:Nat}{m:aL}(h:MInv k m):m.aR.toNat≤Po.fP m:=by
 unfold Po.fP Po.uU
 cases ho:m.Out with
 | nil=>rw[h.nZ ho];simp
 | cons f t=>
   have hs:=h.sent f t ho
   simp only[List.map_cons,List.sum_cons]
   unfold Po.Jz
   omega
theorem Qd{k:Nat}{m:aL}(h:MInv k m){f:bM}{t:List bM}(ho:m.Out=f::t) :
 (toM m f=(f.Payload.length:Int)+4→rest (jL m f t)+27+27*Po.frX f≤rest m)∧(toM m f≠(f.Payload.length:Int)+4→rest (jL m f t)+27≤rest m):=by
 have hs:=h.sent f t ho
 have hl:=Fq m
 have hto:toM m f=min ((f.Payload.length:Int)+4) (m.aR+lim m):=rfl
 have Zy:Po.fP m=(m.aj.map (Po.kT m)).sum+(Po.Jz f+(t.map Po.Jz).sum):=by
  unfold Po.fP Po.uU
  rw[ho]
  simp only[List.map_cons,List.sum_cons]
 have hw:Po.Jz f=f.Payload.length+30+27*Po.frX f:=rfl
 unfold rest jL
 constructor
 ·intro he
  rw[if_pos he]
  have:Po.fP { m with Out:=t,aR:=0 }=(m.aj.map (Po.kT m)).sum+(t.map Po.Jz).sum:=rfl
  rw[this,Zy,hw]
  show _-(0:Int).toNat+27+_≤_
  rw[show(0:Int).toNat=0 from rfl]
  omega
 ·intro he
  rw[if_neg he]
  have:Po.fP { m with aR:=toM m f }=Po.fP m:=rfl
  rw[this]
  show Po.fP m-(toM m f).toNat+27≤_
  rw[Zy,hw]
  omega
def jP(f:bM):Bool:=f.aU==4||f.aU==6
theorem UG{l:List bM}(h:∀f∈l,VW f):l.filter jP=[]:=by
 rw[List.filter_eq_nil_iff]
 intro f hf
 have:=(h f hf).nfix
 unfold jP
 simp[this.1,this.2]
structure Way(L:List bM)(s:Nat)(ps:List eT)(a b:aL)(fx:List bM):Prop where
 flow:Flow L s ps a.Out a.aR.toNat
 asm:b.ay=eX L s
 good:∀f∈L,Good f∧Po.BX f
 fix:L.filter jP=fx
 emp:L=[]→s=0
theorem Way.adds{L:List bM}{s:Nat}{ps:List eT}{a a' b:aL}{fx:List bM}(h:Way L s ps a b fx)(ha:Adds a a'):∃l,(∀f∈l,VW f)∧a'.Out=a.Out++l∧Way (L++l) s ps a' b fx:=by
 obtain⟨⟨h1,h2,h3,h4⟩,l,hl,hn⟩:=ha
 refine⟨l,hn,hl,?_,?_,fun f hf=>?_,?_,fun e=>h.emp (List.append_eq_nil_iff.1 e).1⟩
 ·rw[hl,h1]
  exact vE ps L s a.Out a.aR.toNat l h.flow
 ·rw[h.asm]
  cases L with
  | cons f r=>rfl
  | nil=>
    rw[h.emp rfl]
    cases l <;> rfl
 ·rcases List.mem_append.1 hf with hf | hf
  ·exact h.good f hf
  ·exact⟨(hn f hf).good,(hn f hf).sig⟩
 ·rw[List.filter_append,h.fix,UG hn,List.append_nil]
theorem Way.right{L:List bM}{s:Nat}{ps:List eT}{a b b':aL}{fx:List bM}(h:Way L s ps a b fx)(hb:b'.ay=b.ay):Way L s ps a b' fx:=⟨h.flow,hb.trans h.asm,h.good,h.fix,h.emp⟩
end St
end V
namespace V
namespace Sy
structure Wr where
 s0:aL
 s1:aL
 a0:List eT
 a1:List eT
 sd:Nat→List (List Int)
 f0:List bM
 f1:List bM
 cn:Nat→Bool
 par:Int
 dat:Bool
 ng:Bool
 ans:Bool
def Wr.s(w:Wr)(k:Bool):aL:=if k=true then w.s1 else w.s0
def Wr.a(w:Wr)(k:Bool):List eT:=if k=true then w.a1 else w.a0
def Wr.f(w:Wr)(k:Bool):List bM:=if k=true then w.f1 else w.f0
def Wr.dK(w:Wr)(k:Bool)(m:aL):Wr:=if k=true then { w with s1:=m }else { w with s0:=m }
def Wr.jK(w:Wr)(k:Bool)(l:List eT):Wr:=if k=true then { w with a1:=l }else { w with a0:=l }
def Wr.sw(w:Wr)(k:Bool)(l:List bM):Wr:=if k=true then { w with f1:=l }else { w with f0:=l }
def slot(k:Bool)(lG:Int):Nat:=(if k=true then 64 else 0)+(lG%64).toNat
def abj(w:Wr)(k:Bool)(lG:Int)(b:List Int):Option aS:=(w.s k).aj.find? fun c=>c.Local==lG&&(match w.sd (slot (!k) c.Remote)with
 | d::_=>d==b
 | []=>false)
def mK(w:Wr)(k:Bool)(x:gD):Wr:=
 if x.Kind=2 then { w with sd:=aG w.sd (slot k x.aU) [],cn:=aG w.cn (slot k x.aU) false }
 else if x.Kind=5 then { w with ans:=w.ans || !w.cn (slot k x.aU),cn:=aG w.cn (slot k x.aU) false }
 else if x.Kind=1 then(match w.f (!k)with
  | f::r=>if f.aU=x.aU∧f.Payload=x.Data then w.sw (!k) r else { w with ng:=true }
  | []=>{ w with ng:=true })
 else if x.Kind=3 then(match abj w k x.aU x.Data with
  | some c=>{ w with sd:=aG w.sd (slot (!k) c.Remote) (w.sd (slot (!k) c.Remote)).tail }
  | none=>{ w with dat:=true })
 else if x.Kind=6 then(if (tu (w.s k) x.ID (x.Update.aO.tmod 2)).2=0 then w.dK k (tu (w.s k) x.ID (x.Update.aO.tmod 2)).1 else { w.dK k (tu (w.s k) x.ID (x.Update.aO.tmod 2)).1 with par:=-1000 })
 else if x.Kind=7 then { w with par:=w.par-1,ans:=w.ans||(w.par-1 == -1) }
 else w
def dY(w:Wr)(k:Bool):Wr×Bool:=if (iC (w.s k)).2.2=true then((w.dK k (iC (w.s k)).1).jK k (w.a k++[(iC (w.s k)).2.1]),true)else(w.dK k (iC (w.s k)).1,false)
def dQ:Nat→Wr→Bool→Bool→Wr×Bool
 | 0,w,_,y=>(w,y)
 | n+1,w,k,y=>if (dY w k).2=true then dQ n (dY w k).1 k true else((dY w k).1,y)
def mH(w:Wr)(k:Bool)(p:eT)(r:List eT):Wr:=(yH (w.s (!k)) p).2.foldl (fun w x=>mK w (!k) x) ((w.jK k r).dK (!k) (yH (w.s (!k)) p).1)
def bT:Nat→Wr→Bool→Wr
 | 0,w,_=>w
 | n+1,w,k=>match w.a k with
   | []=>w
   | p::r=>bT n (mH w k p r) k
open St
theorem MInv.tight{k:Nat}{m:aL}(h:MInv k m):MInv m.Out.length m:={ h with jm:=Nat.le_refl _ }
end Sy
end V
namespace V
namespace Sy
open St Po
def xs(l:List bM):Nat:=(l.map fun f=>27*frX f).sum
theorem EA(l k:List bM):xs (l++k)=xs l+xs k:=by unfold xs;rw[List.map_append,List.sum_append]
theorem uw(f:bM)(l:List bM):xs (f::l)=27*frX f+xs l:=by unfold xs;rw[List.map_cons,List.sum_cons]
def Om(m:aL):Nat:=fP m-xs m.Out-m.aR.toNat
theorem OV(l:List bM):xs l+(l.map fun f=>f.Payload.length+30).sum=(l.map Jz).sum:=by
 induction l with
 | nil=>rfl
 | cons f l ih=>
   rw[uw]
   simp only[List.map_cons,List.sum_cons]
   have:Jz f=f.Payload.length+30+27*frX f:=rfl
   omega
theorem tZ{k:Nat}{m:aL}(h:MInv k m):Om m+xs m.Out+m.aR.toNat=fP m:=by
 have h1:=OV m.Out
 have h2:m.aR.toNat≤(m.Out.map fun f=>f.Payload.length+30).sum:=by
  cases ho:m.Out with
  | nil=>rw[h.nZ ho];simp
  | cons f t=>
    have hs:=h.sent f t ho
    simp only[List.map_cons,List.sum_cons]
    omega
 have h3:fP m=(m.aj.map (kT m)).sum+(m.Out.map Jz).sum:=rfl
 unfold Om
 omega
theorem RJ{k k' g:Nat}{m m':aL}(h:MInv k m)(h':MInv k' m')(hs:Same m m'){l:List bM}(hl:m'.Out=m.Out++l)(hp:fP m'≤fP m+g):Om m'+xs l≤Om m+g:=by
 have e1:=tZ h
 have e2:=tZ h'
 rw[hl,EA,hs.sent]at e2
 omega
theorem RI{k:Nat}{m:aL}(h:MInv k m){f:bM}{t:List bM}(ho:m.Out=f::t)(h':MInv k (jL m f t)):Om (jL m f t)+27≤Om m:=by
 obtain⟨r1,r2⟩:=Qd h ho
 have e1:=tZ h
 have e2:=tZ h'
 have s1:=Ho h
 have s2:=Ho h'
 unfold rest at r1 r2
 by_cases he:toM m f=(f.Payload.length:Int)+4
 ·have r:=r1 he
  have ho':(jL m f t).Out=t:=by unfold jL;rw[if_pos he]
  rw[ho']at e2
  rw[ho,uw]at e1
  omega
 ·have r:=r2 he
  have ho':(jL m f t).Out=m.Out:=by unfold jL;rw[if_neg he]
  rw[ho']at e2
  omega
theorem kU(w:Wr)(k:Bool)(m:aL):(w.dK k m).s k=m∧(w.dK k m).s (!k)=w.s (!k):=by cases k <;> exact⟨rfl,rfl⟩
theorem dX(w:Wr)(k j:Bool)(m:aL):(w.dK k m).a j=w.a j∧(w.dK k m).f j=w.f j:=by cases k <;> cases j <;> exact⟨rfl,rfl⟩
theorem BR(w:Wr)(k:Bool)(l:List eT):(w.jK k l).a k=l∧(w.jK k l).a (!k)=w.a (!k):=by cases k <;> exact⟨rfl,rfl⟩
theorem jw(w:Wr)(k j:Bool)(l:List eT):(w.jK k l).s j=w.s j∧(w.jK k l).f j=w.f j:=by cases k <;> cases j <;> exact⟨rfl,rfl⟩
theorem wZ(w:Wr)(k:Bool)(l:List bM):(w.sw k l).f k=l∧(w.sw k l).f (!k)=w.f (!k):=by cases k <;> exact⟨rfl,rfl⟩
theorem jg(w:Wr)(k j:Bool)(l:List bM):(w.sw k l).s j=w.s j∧(w.sw k l).a j=w.a j:=by cases k <;> cases j <;> exact⟨rfl,rfl⟩
theorem kS(w:Wr)(k:Bool)(m:aL)(l:List eT)(q:List bM):(w.dK k m).ng=w.ng∧(w.jK k l).ng=w.ng∧(w.sw k q).ng=w.ng:=by cases k <;> exact⟨rfl,rfl,rfl⟩
structure Side(m:aL):Prop where
 inv:MInv m.Out.length m
 xZ:∀c∈m.aj,Byc c
structure Ord(L:Bool→List bM)(r:Bool→Nat)(w:Wr):Prop where
 side:∀k,Side (w.s k)
 way:∀k,Way (L k) (r k) (w.a k) (w.s k) (w.s (!k)) (w.f k)
 ok:w.ng=false
 role:∀k,(w.s k).iU=if k=true then 1 else 0
def phi(L:Bool→List bM)(w:Wr):Nat:=Om (w.s false)+xs (L false)+(Om (w.s true)+xs (L true))
theorem oV(L:Bool→List bM)(w:Wr)(k:Bool):phi L w=Om (w.s k)+xs (L k)+(Om (w.s (!k))+xs (L (!k))):=by
 cases k
 ·rfl
 ·unfold phi
  rw[show(!true)=false from rfl]
  omega
theorem Side.rows{m m':aL}(h:Side m){k:Nat}(hI:MInv k m')(hr:Rows m m'):Side m':=⟨MInv.tight hI,fun c hc s hs=>by
 obtain⟨d,hd,hs⟩:=hr c hc s hs
 exact h.xZ d hd s hs⟩
theorem Ord.adds{L:Bool→List bM}{r:Bool→Nat}{w:Wr}(h:Ord L r w)(k:Bool){m':aL}(hs:Side m')(ha:Adds (w.s k) m'){g:Nat}(hp:fP m'≤fP (w.s k)+g):∃L',Ord L' r (w.dK k m')∧phi L' (w.dK k m')≤phi L w+g∧L' (!k)=L (!k):=by
 obtain⟨l,hn,hl,hw⟩:=(h.way k).adds ha
 obtain⟨q1,q2⟩:=kU w k m'
 have hb:=RJ (h.side k).inv hs.inv ha.1 hl hp
 refine⟨fun j=>if j=k then L k++l else L j,⟨fun j=>?_,fun j=>?_,?_,fun j=>?_⟩,?_,?_⟩
 ·by_cases hj:j=k
  ·rw[hj,q1];exact hs
  ·rw[show j = !k by cases j <;> cases k <;> simp_all,q2];exact h.side _
 ·obtain⟨a1,a2⟩:=dX w k j m'
  rw[a1,a2]
  by_cases hj:j=k
  ·subst hj
   simp only[if_true]
   rw[q1,q2]
   exact hw
  ·have hjk:j = !k:=by cases j <;> cases k <;> simp_all
   subst hjk
   rw[if_neg hj,q2,Bool.not_not,q1]
   have:=h.way (!k)
   rw[Bool.not_not]at this
   exact this.right ha.1.asm
 ·rw[(kS w k m' [] []).1];exact h.ok
 ·by_cases hj:j=k
  ·rw[hj,q1,ha.1.role];exact h.role k
  ·rw[show j = !k by cases j <;> cases k <;> simp_all,q2];exact h.role _
 ·rw[oV _ _ k,oV L w k,q1,q2]
  simp only[if_true]
  rw[if_neg (show ¬ (!k)=k by cases k <;> simp),EA]
  omega
 ·show(if (!k)=k then _ else _)=_
  rw[if_neg (show ¬ (!k)=k by cases k <;> simp)]
end Sy
end V
namespace V
namespace Sy
open St Po
theorem VB(k:Bool):¬ (!k)=k:=by cases k <;> simp
theorem gT(j k:Bool):j=k∨j = !k:=by cases j <;> cases k <;> simp
theorem CX(w:Wr)(k:Bool)(m m':aL):(w.dK k m).dK k m'=w.dK k m':=by cases k <;> rfl
theorem CY(w:Wr)(k:Bool):w.dK k (w.s k)=w:=by cases k <;> rfl
theorem Ord.pre{L:Bool→List bM}{r:Bool→Nat}{w:Wr}(h:Ord L r w)(k:Bool)(hf:(w.s k).Out.length≤800000000):∃L',Ord L' r (w.dK k (EW (w.s k)))∧phi L' (w.dK k (EW (w.s k)))≤phi L w∧L' (!k)=L (!k):=by
 unfold EW
 by_cases h0:(w.s k).Out=[]
 ·rw[if_pos h0]
  obtain⟨_,hI⟩:=BI (h.side k).inv hf
  obtain⟨ha,hr⟩:=Si (h.side k).inv (h.side k).xZ
  obtain⟨L',q1,q2,q3⟩:=h.adds k ((h.side k).rows hI hr) ha (g:=0) (Ja (h.side k).inv)
  exact⟨L',q1,q2,q3⟩
 ·rw[if_neg h0,CY]
  exact⟨L,h,Nat.le_refl _,rfl⟩
theorem Ord.out{L:Bool→List bM}{r:Bool→Nat}{w:Wr}(h:Ord L r w)(k:Bool)(hf:(w.s k).Out.length≤900000000)(ht:(iM (w.s k)).2.2=true):Ord L r ((w.dK k (iM (w.s k)).1).jK k (w.a k++[(iM (w.s k)).2.1]))∧phi L ((w.dK k (iM (w.s k)).1).jK k (w.a k++[(iM (w.s k)).2.1]))+27≤phi L w:=by
 have hS:=h.side k
 have hW:=h.way k
 obtain⟨_,hI⟩:=Fa hS.inv hf
 have hfl:=(IW hS.inv hW.flow).2 ht
 have hx:∃f t,(w.s k).Out=f::t∧(iM (w.s k)).1=jL (w.s k) f t:=by
  unfold iM at ht ⊢
  cases ho:(w.s k).Out with
  | nil=>rw[ho]at ht;cases ht
  | cons f t=>exact⟨f,t,rfl,rfl⟩
 obtain⟨f,t,ho,he⟩:=hx
 rw[he]at hI
 have hb:=RI hS.inv ho hI
 rw[← he]at hb hI
 have hch:(iM (w.s k)).1.aj=(w.s k).aj:=by rw[he];unfold jL;split <;> rfl
 have hasm:(iM (w.s k)).1.ay=(w.s k).ay:=by rw[he];unfold jL;split <;> rfl
 have acV:(iM (w.s k)).1.iU=(w.s k).iU:=by rw[he];unfold jL;split <;> rfl
 generalize iM (w.s k)=o at *
 obtain⟨s1,s2⟩:=kU w k o.1
 obtain⟨a1,a2⟩:=BR (w.dK k o.1) k (w.a k++[o.2.1])
 refine⟨⟨fun j=>?_,fun j=>?_,?_,fun j=>?_⟩,?_⟩
 ·rw[(jw _ k j _).1]
  rcases gT j k with hj | hj
  ·rw[hj,s1]
   exact⟨MInv.tight hI,by rw[hch];exact hS.xZ⟩
  ·rw[hj,s2];exact h.side _
 ·rw[(jw _ k j _).1,(jw _ k (!j) _).1,(jw _ k j _).2,(dX w k j _).2]
  rcases gT j k with hj | hj
  ·subst hj
   rw[a1,s1,s2]
   exact⟨hfl,hW.asm,hW.good,hW.fix,hW.emp⟩
  ·subst hj
   rw[a2,(dX w k (!k) _).1,s2,Bool.not_not,s1]
   have:=h.way (!k)
   rw[Bool.not_not]at this
   exact this.right hasm
 ·rw[(kS _ k o.1 _ []).2.1,(kS w k o.1 [] []).1];exact h.ok
 ·rw[(jw _ k j _).1]
  rcases gT j k with hj | hj
  ·rw[hj,s1,acV];exact h.role k
  ·rw[hj,s2];exact h.role _
 ·rw[oV _ _ k,oV L w k,(jw _ k k _).1,(jw _ k (!k) _).1,s1,s2]
  omega
theorem Ord.dY{L:Bool→List bM}{r:Bool→Nat}{w:Wr}(h:Ord L r w)(k:Bool)(hf:(w.s k).Out.length≤800000000)(hf2:(EW (w.s k)).Out.length≤900000000):∃L',Ord L' r (Sy.dY w k).1∧L' (!k)=L (!k)∧(Sy.dY w k).1.a (!k)=w.a (!k)∧
 (((Sy.dY w k).2=true∧phi L' (Sy.dY w k).1+27≤phi L w∧((Sy.dY w k).1.a k).length=(w.a k).length+1)∨((Sy.dY w k).2=false∧phi L' (Sy.dY w k).1≤phi L w∧(Sy.dY w k).1.a k=w.a k∧((Sy.dY w k).1.s k).Out=[])):=by
 obtain⟨L',q1,q2,q3⟩:=h.pre k hf
 obtain⟨s1,s2⟩:=kU w k (EW (w.s k))
 have hS:=q1.side k
 rw[s1]at hS
 unfold Sy.dY iC
 by_cases ht:(iM (EW (w.s k))).2.2=true
 ·rw[if_pos ht]
  have hO:=q1.out k (by rw[s1];exact hf2) (by rw[s1];exact ht)
  rw[s1,CX,(dX w k k _).1]at hO
  refine⟨L',hO.1,q3,?_,.inl ⟨rfl,?_,?_⟩⟩
  ·rw[(BR _ k _).2,(dX w k (!k) _).1]
  ·have:=hO.2
   simp only
   omega
  ·simp only
   rw[(BR _ k _).1,lA]
   rfl
 ·rw[if_neg ht]
  obtain⟨f1,f2⟩:=(IW hS.inv (by have:=(q1.way k).flow;rw[s1]at this;exact this)).1 (by simpa using ht)
  rw[f2]
  refine⟨L',q1,q3,(dX w k (!k) _).1,.inr ⟨rfl,q2,(dX w k k _).1,?_⟩⟩
  show((w.dK k (EW (w.s k))).s k).Out=[]
  rw[s1]
  exact f1
end Sy
end V
namespace V
namespace Sy
open St Po
theorem Ord.same{L:Bool→List bM}{r:Bool→Nat}{w w':Wr}(h:Ord L r w)(h0:w'.s0=w.s0)(h1:w'.s1=w.s1)(h2:w'.a0=w.a0)(h3:w'.a1=w.a1)(h4:w'.f0=w.f0)(h5:w'.f1=w.f1)(h6:w'.ng=w.ng):Ord L r w'∧phi L w'=phi L w∧∀k,w'.a k=w.a k:=by
 have es:w'.s=w.s:=by funext k;cases k <;> simp[Wr.s,h0,h1]
 have ea:w'.a=w.a:=by funext k;cases k <;> simp[Wr.a,h2,h3]
 have ef:w'.f=w.f:=by funext k;cases k <;> simp[Wr.f,h4,h5]
 refine⟨⟨fun k=>by rw[es];exact h.side k,fun k=>by rw[es,ea,ef];exact h.way k,by rw[h6];exact h.ok,fun k=>by rw[es];exact h.role k⟩,by unfold phi;rw[es],fun k=>by rw[ea]⟩
theorem Pb{L:Bool→List bM}{r:Bool→Nat}{w:Wr}(h:Ord L r w)(k:Bool)(x:gD)(hx:x.Kind≠1)(hf:(w.s k).Out.length≤900000000):∃L',Ord L' r (mK w k x)∧phi L' (mK w k x)≤phi L w+(if x.Kind=6 then 44 else 0)∧L' (!k)=L (!k)∧∀j,(mK w k x).a j=w.a j:=by
 unfold mK
 by_cases k2:x.Kind=2
 ·rw[if_pos k2]
  obtain⟨q1,q2,q3⟩:=h.same (w':={ w with sd:=aG w.sd (slot k x.aU) [],cn:=aG w.cn (slot k x.aU) false }) rfl rfl rfl rfl rfl rfl rfl
  exact⟨L,q1,by omega,rfl,q3⟩
 rw[if_neg k2]
 by_cases k5:x.Kind=5
 ·rw[if_pos k5]
  obtain⟨q1,q2,q3⟩:=h.same (w':={ w with ans:=w.ans || !w.cn (slot k x.aU),cn:=aG w.cn (slot k x.aU) false }) rfl rfl rfl rfl rfl rfl rfl
  exact⟨L,q1,by omega,rfl,q3⟩
 rw[if_neg k5,if_neg hx]
 by_cases k3:x.Kind=3
 ·rw[if_pos k3]
  split
  ·rename_i c _
   obtain⟨q1,q2,q3⟩:=h.same (w':={ w with sd:=aG w.sd (slot (!k) c.Remote) (w.sd (slot (!k) c.Remote)).tail }) rfl rfl rfl rfl rfl rfl rfl
   exact⟨L,q1,by omega,rfl,q3⟩
  ·obtain⟨q1,q2,q3⟩:=h.same (w':={ w with dat:=true }) rfl rfl rfl rfl rfl rfl rfl
   exact⟨L,q1,by omega,rfl,q3⟩
 rw[if_neg k3]
 by_cases k6:x.Kind=6
 ·rw[if_pos k6]
  obtain⟨_,hI⟩:=z8 (h.side k).inv hf x.ID (x.Update.aO.tmod 2)
  have ha:=R5 (w.s k) x.ID (x.Update.aO.tmod 2)
  have hr:=PL (w.s k) x.ID (x.Update.aO.tmod 2)
  obtain⟨L',q1,q2,q3⟩:=h.adds k ((h.side k).rows hI hr) ha (Ue _ _ _)
  rw[if_pos k6]
  split
  ·exact⟨L',q1,q2,q3,fun j=>(dX w k j _).1⟩
  ·obtain⟨p1,p2,p3⟩:=q1.same (w':={ w.dK k (tu (w.s k) x.ID (x.Update.aO.tmod 2)).1 with par:=-1000 }) rfl rfl rfl rfl rfl rfl rfl
   exact⟨L',p1,by omega,q3,fun j=>(p3 j).trans (dX w k j _).1⟩
 rw[if_neg k6,if_neg k6]
 split
 ·obtain⟨q1,q2,q3⟩:=h.same (w':={ w with par:=w.par-1,ans:=w.ans||(w.par-1 == -1) }) rfl rfl rfl rfl rfl rfl rfl
  exact⟨L,q1,by omega,rfl,q3⟩
 ·exact⟨L,h,by omega,rfl,fun _=>rfl⟩
theorem ZR(m:aL){s:aT}:∀x∈(yA m s).2,x.Kind≠1∧(x.Kind=6→(yA m s).1=m∧nY s.Kind=2):=by
 unfold yA
 split
 ·unfold tV
  (repeat' split) <;> intro x hx <;> simp at hx
  subst hx
  exact⟨by simp[DJ],fun e=>by simp[DJ]at e⟩
 split
 ·unfold oC
  (repeat' split) <;> intro x hx <;> simp at hx
  subst hx
  exact⟨by simp[DJ],fun e=>by simp[DJ]at e⟩
 split
 ·rename_i h18
  unfold mU
  split
  ·intro x hx
   simp at hx
   subst hx
   exact⟨by simp,fun _=>⟨rfl,by rw[h18];decide⟩⟩
  ·intro x hx
   simp at hx
 split
 ·intro x hx
  simp at hx
 ·unfold sG qY
  (repeat' split) <;> intro x hx <;> simp at hx <;> subst hx <;> exact⟨by simp[DJ],fun e=>by simp[DJ]at e⟩
theorem QU(m:aL){f:bM}(hg:BX f)(hn:jP f=false):∀x∈(kC m f).2,x.Kind≠1∧(x.Kind=6→(kC m f).1=m∧frX f=2):=by
 have hn':¬ (f.aU=4∨f.aU=6):=by unfold jP at hn;simpa using hn
 unfold kC frX
 rw[if_neg hn',if_neg hn']
 by_cases c5:f.aU=5
 ·obtain⟨s,hs,hp⟩:=hg c5
  rw[if_pos c5,if_pos c5,hp,IL hs]
  unfold GY
  rw[Sg.ze hs.1 hs.2,if_pos rfl]
  exact ZR m
 ·rw[if_neg c5]
  intro x hx
  have h3:x.Kind=3:=by
   revert hx
   unfold oD Hr
   (repeat' split) <;> intro hx <;> simp at hx
   all_goals
    obtain⟨d,_,rfl⟩:=hx
    rfl
  exact⟨by omega,fun e=>by omega⟩
end Sy
end V
namespace V
namespace Sy
open St Po
def at_{α:Type}(g:Bool→α)(k:Bool)(x:α):Bool→α:=fun j=>if j=k then x else g j
theorem vL{α:Type}(g:Bool→α)(k:Bool)(x:α):at_ g k x k=x:=if_pos rfl
theorem rE{α:Type}(g:Bool→α)(k:Bool)(x:α):at_ g k x (!k)=g (!k):=if_neg (VB k)
theorem CZ(w:Wr)(k:Bool):w.sw k (w.f k)=w:=by cases k <;> rfl
def iY(m:aL)(a:jU):aL:={ m with ay:=a }
theorem Ord.base{L:Bool→List bM}{r:Bool→Nat}{w:Wr}(h:Ord L r w)(k:Bool){ps:List eT}{R:List bM}{u:Nat}(hf:Flow R u ps (w.s k).Out (w.s k).aR.toNat)(hg:∀f∈R,Good f∧BX f)(he:R=[]→u=0)(hv:Fr.Val (eX R u)) :
 Ord (at_ L k R) (at_ r k u) (((w.jK k ps).dK (!k) (iY (w.s (!k)) (eX R u))).sw k (R.filter jP))∧phi (at_ L k R) (((w.jK k ps).dK (!k) (iY (w.s (!k)) (eX R u))).sw k (R.filter jP))+xs (L k)=phi L w+xs R:=by
 have hS:=h.side (!k)
 obtain⟨s1,s2⟩:=kU (w.jK k ps) (!k) (iY (w.s (!k)) (eX R u))
 rw[Bool.not_not,(jw w k k ps).1]at s2
 obtain⟨f1,f2⟩:=wZ ((w.jK k ps).dK (!k) (iY (w.s (!k)) (eX R u))) k (R.filter jP)
 obtain⟨a1,a2⟩:=BR w k ps
 refine⟨⟨fun j=>?_,fun j=>?_,?_,fun j=>?_⟩,?_⟩
 ·rw[(jg _ k j _).1]
  rcases gT j k with hj | hj
  ·rw[hj,s2];exact h.side k
  ·rw[hj,s1];exact⟨hS.inv.iY hv,hS.xZ⟩
 ·rw[(jg _ k j _).1,(jg _ k (!j) _).1,(jg _ k j _).2,(dX _ (!k) j _).1]
  rcases gT j k with hj | hj
  ·subst hj
   rw[vL,vL,f1,s2,s1,a1]
   exact⟨hf,rfl,hg,rfl,he⟩
  ·subst hj
   rw[rE,rE,f2,Bool.not_not,s1,s2,a2,(dX _ (!k) (!k) _).2,(jw w k (!k) _).2]
   have:=h.way (!k)
   rw[Bool.not_not]at this
   exact⟨this.flow,this.asm,this.good,this.fix,this.emp⟩
 ·rw[(kS _ k (w.s k) [] _).2.2,(kS _ (!k) _ [] []).1,(kS w k (w.s k) ps []).2.1];exact h.ok
 ·rw[(jg _ k j _).1]
  rcases gT j k with hj | hj
  ·rw[hj,s2];exact h.role k
  ·rw[hj,s1];exact h.role _
 ·rw[oV _ _ k,oV L w k,(jg _ k k _).1,(jg _ k (!k) _).1,s1,s2,vL,rE]
  have:Om (iY (w.s (!k)) (eX R u))=Om (w.s (!k)):=rfl
  omega
theorem IV{L:List bM}{s:Nat}{p:eT}{ps:List eT}{O:List bM}{t:Nat}(h:Flow L s (p::ps) O t)(hg:∀f∈L,Good f):L≠[]∧(∀x∈p.Payload,Byte x)∧p.Payload.length≤200000:=by
 match L,h with
 | f::r,⟨u,h1,h2,h3,h4⟩=>
   have hf:=hg f (by simp)
   have:=hf.len
   subst h3
   refine⟨by simp,fun x hx=>Fr.FT hf.xZ x (List.mem_of_mem_take (List.mem_of_mem_drop hx)),?_⟩
   simp only[List.length_drop,List.length_take,Fr.iT]
   omega
theorem Ord.arr{L:Bool→List bM}{r:Bool→Nat}{w:Wr}(h:Ord L r w)(k:Bool){p:eT}{ps:List eT}(ha:w.a k=p::ps)(hf:(w.s (!k)).Out.length≤800000000):∃L' r',Ord L' r' (mH w k p ps)∧phi L' (mH w k p ps)≤phi L w∧(mH w k p ps).a k=ps∧(mH w k p ps).a (!k)=w.a (!k):=by
 have hW:=h.way k
 have hS:=h.side (!k)
 have hfl:=hW.flow
 rw[ha]at hfl
 have hgood:∀f∈L k,Good f:=fun f hq=>(hW.good f hq).1
 obtain⟨hne,hb,hl⟩:=IV hfl hgood
 have hval:=Fr.BD hS.inv.asm hb
 obtain⟨_,hI,hlen⟩:=IG hS.inv (by omega) hb hl
 have U8:∀(m:aL),((w.jK k ps).dK (!k) m).a k=ps∧((w.jK k ps).dK (!k) m).a (!k)=w.a (!k):=fun m=>by
  rw[(dX _ (!k) k m).1,(dX _ (!k) (!k) m).1]
  exact BR w k ps
 rw[hW.asm]at hval
 rcases xV hfl hgood with⟨f,rest,hL,U5,ZB⟩ | ⟨u,U5,ZB⟩
 ·have hin:yH (w.s (!k)) p=kC (iY (w.s (!k)) (eX rest 0)) f:=by
   unfold yH iY
   rw[hW.asm,U5]
  rw[U5]at hval
  have hgf:=hW.good f (by rw[hL];simp)
  obtain⟨q1,q2⟩:=h.base k ZB (fun g hq=>hW.good g (by rw[hL];simp[hq])) (fun _=>rfl) hval
  have hfx:=hW.fix
  rw[hL,List.filter_cons]at hfx
  rw[hL,uw]at q2
  by_cases hx:jP f=true
  ·rw[if_pos hx]at hfx
   have h46:f.aU=4∨f.aU=6:=by unfold jP at hx;simpa using hx
   have hfr:kC (iY (w.s (!k)) (eX rest 0)) f=(iY (w.s (!k)) (eX rest 0),[⟨1,f.aU,f.Payload,0,zu,0⟩]):=by unfold kC;rw[if_pos h46]
   have harr:mH w k p ps=((w.jK k ps).dK (!k) (iY (w.s (!k)) (eX rest 0))).sw k (rest.filter jP):=by
    unfold mH
    rw[hin,hfr]
    show mK ((w.jK k ps).dK (!k) (iY (w.s (!k)) (eX rest 0))) (!k) ⟨1,f.aU,f.Payload,0,zu,0⟩=_
    unfold mK
    rw[if_neg (by simp),if_neg (by simp),if_pos rfl,Bool.not_not,(dX _ (!k) k _).2,(jw w k k ps).2,← hfx]
    simp only
    rw[if_pos ⟨trivial,trivial⟩]
   rw[harr]
   refine⟨_,_,q1,by omega,?_⟩
   rw[(jg _ k k _).2,(jg _ k (!k) _).2]
   exact U8 _
  ·rw[if_neg hx]at hfx
   have hw1:((w.jK k ps).dK (!k) (iY (w.s (!k)) (eX rest 0))).sw k (rest.filter jP)=(w.jK k ps).dK (!k) (iY (w.s (!k)) (eX rest 0)):=by
    have e:rest.filter jP=((w.jK k ps).dK (!k) (iY (w.s (!k)) (eX rest 0))).f k:=by
     rw[(dX _ (!k) k _).2,(jw w k k ps).2,hfx]
    rw[e]
    exact CZ _ k
   rw[hw1]at q1 q2
   have hm':((w.jK k ps).dK (!k) (iY (w.s (!k)) (eX rest 0))).s (!k)=iY (w.s (!k)) (eX rest 0):=(kU _ (!k) _).1
   have hS1:=q1.side (!k)
   rw[hm']at hS1
   have hadd:=R7 hS1.inv hgf.1 hgf.2
   have hrow:=PO (iY (w.s (!k)) (eX rest 0)) f
   have hev:=QU (iY (w.s (!k)) (eX rest 0)) hgf.2 (by simpa using hx)
   have Zy:=Vb hS1.inv hgf.2
   rw[hin]at hI hlen
   unfold mH
   rw[hin]
   have hS2:Side (kC (iY (w.s (!k)) (eX rest 0)) f).1:=hS1.rows hI hrow
   obtain⟨L2,p1,p2,p3⟩:=q1.adds (!k) (m':=(kC (iY (w.s (!k)) (eX rest 0)) f).1) hS2 (by rw[hm'];exact hadd) (g:=fP (kC (iY (w.s (!k)) (eX rest 0)) f).1-fP (iY (w.s (!k)) (eX rest 0))) (by rw[hm'];omega)
   rw[CX]at p1 p2
   have hol:=hI.jm
   have ho0:(iY (w.s (!k)) (eX rest 0)).Out=(w.s (!k)).Out:=rfl
   match hE:(kC (iY (w.s (!k)) (eX rest 0)) f).2,hlen with
   | [],_=>
     refine⟨L2,_,p1,?_,U8 _⟩
     simp only[List.foldl_nil]
     omega
   | [x],_=>
     obtain⟨e1,e2⟩:=hev x (by rw[hE];simp)
     obtain⟨L3,t1,t2,_,t4⟩:=Pb p1 (!k) x e1 (by rw[(kU _ (!k) _).1];omega)
     refine⟨L3,_,t1,?_,?_⟩
     ·simp only[List.foldl_cons,List.foldl_nil]
      by_cases k6:x.Kind=6
      ·obtain⟨g1,g2⟩:=e2 k6
       rw[if_pos k6]at t2
       rw[g1]at p2 t2 ⊢
       omega
      ·rw[if_neg k6]at t2
       omega
     ·simp only[List.foldl_cons,List.foldl_nil]
      rw[t4,t4]
      exact U8 _
 ·have hin:yH (w.s (!k)) p=(iY (w.s (!k)) (eX (L k) u),[]):=by
   unfold yH iY
   rw[hW.asm,U5]
  rw[U5]at hval
  obtain⟨q1,q2⟩:=h.base k ZB hW.good (fun e=>absurd e hne) hval
  have hw1:((w.jK k ps).dK (!k) (iY (w.s (!k)) (eX (L k) u))).sw k ((L k).filter jP)=(w.jK k ps).dK (!k) (iY (w.s (!k)) (eX (L k) u)):=by
   have e:(L k).filter jP=((w.jK k ps).dK (!k) (iY (w.s (!k)) (eX (L k) u))).f k:=by
    rw[(dX _ (!k) k _).2,(jw w k k ps).2,hW.fix]
   rw[e]
   exact CZ _ k
  rw[hw1]at q1 q2
  have harr:mH w k p ps=(w.jK k ps).dK (!k) (iY (w.s (!k)) (eX (L k) u)):=by
   unfold mH
   rw[hin]
   rfl
  rw[harr]
  exact⟨_,_,q1,by omega,U8 _⟩
end Sy
end V
namespace V
namespace Sy
open St Po
def aK(w:Wr):Nat:=(w.a false).length+(w.a true).length
theorem nO(w:Wr)(k:Bool):aK w=(w.a k).length+(w.a (!k)).length:=by
 cases k
 ·rfl
 ·unfold aK
  rw[show(!true)=false from rfl]
  omega
def oI(L:Bool→List bM)(w:Wr):Nat:=2*phi L w+27*aK w
theorem Uz{k:Nat}{m:aL}(h:MInv k m):27*m.Out.length≤Om m:=by
 have h1:=tZ h
 have h2:=OV m.Out
 have h3:fP m=(m.aj.map (kT m)).sum+(m.Out.map Jz).sum:=rfl
 have h4:27*m.Out.length+m.aR.toNat≤(m.Out.map fun f=>f.Payload.length+30).sum:=by
  cases ho:m.Out with
  | nil=>rw[h.nZ ho];simp
  | cons f t=>
    have hs:=h.sent f t ho
    have:30*t.length≤(t.map fun f=>f.Payload.length+30).sum:=by
     clear ho h hs h1 h2 h3
     induction t with
     | nil=>simp
     | cons g t ih=>
       simp only[List.map_cons,List.sum_cons,List.length_cons]
       omega
    simp only[List.map_cons,List.sum_cons,List.length_cons]
    omega
 omega
theorem Ord.few{L:Bool→List bM}{r:Bool→Nat}{w:Wr}(h:Ord L r w)(k:Bool):27*(w.s k).Out.length≤phi L w:=by
 have:=Uz (h.side k).inv
 rw[oV L w k]
 omega
theorem lJ{r:Bool→Nat}(k:Bool):∀(n:Nat) (L:Bool→List bM) (w:Wr) (y:Bool),Ord L r w→phi L w≤100000000→∃L',Ord L' r (dQ n w k y).1∧phi L' (dQ n w k y).1≤phi L w∧oI L' (dQ n w k y).1≤oI L w∧(dQ n w k y).1.a (!k)=w.a (!k)∧((dQ n w k y).2=true→y=true∨oI L' (dQ n w k y).1+27≤oI L w)∧((dQ n w k y).2=false→0<n→(dQ n w k y).1.a k=w.a k∧((dQ n w k y).1.s k).Out=[])
 | 0,L,w,y,h,_=>⟨L,h,Nat.le_refl _,Nat.le_refl _,rfl,fun e=>.inl e,fun _ h=>absurd h (Nat.lt_irrefl 0)⟩
 | n+1,L,w,y,h,hp=>by
   have hf:=h.few k
   obtain⟨L0,c1,c2,_⟩:=h.pre k (by omega)
   have hf2:=c1.few k
   rw[(kU w k _).1]at hf2
   obtain⟨L1,q1,_,q3,q4⟩:=h.dY k (by omega) (by omega)
   unfold dQ
   rcases q4 with⟨t1,t2,t3⟩ | ⟨t1,t2,t3,t4⟩
   ·rw[if_pos t1]
    obtain⟨L2,p1,p2,p3,p4,p5,p6⟩:=lJ k n L1 (Sy.dY w k).1 true q1 (by omega)
    have e1:=nO w k
    have e2:=nO (Sy.dY w k).1 k
    rw[q3,t3]at e2
    unfold oI at p3 p5 ⊢
    refine⟨L2,p1,by omega,by omega,p4.trans q3,fun _=>.inr (by omega),fun e hn=>?_⟩
    exfalso
    have:∀(n:Nat) (w:Wr),(dQ n w k true).2=true:=by
     intro n
     induction n with
     | zero=>intro w;rfl
     | succ n ih=>
       intro w
       unfold dQ
       split
       ·exact ih _
       ·rfl
    rw[this]at e
    cases e
   ·rw[if_neg (by rw[t1];simp)]
    have e1:=nO w k
    have e2:=nO (Sy.dY w k).1 k
    rw[q3,t3]at e2
    unfold oI
    refine⟨L1,q1,t2,?_,q3,fun e=>.inl e,fun _ _=>⟨t3,t4⟩⟩
    show 2*phi L1 (Sy.dY w k).1+27*aK (Sy.dY w k).1≤_
    omega
theorem jC(k:Bool):∀(n:Nat) (L:Bool→List bM) (r:Bool→Nat) (w:Wr),Ord L r w→phi L w≤100000000→∃L' r',Ord L' r' (bT n w k)∧phi L' (bT n w k)≤phi L w∧oI L' (bT n w k)+27*min n (w.a k).length≤oI L w∧(bT n w k).a (!k)=w.a (!k)∧((bT n w k).a k).length+min n (w.a k).length=(w.a k).length
 | 0,L,r,w,h,_=>⟨L,r,h,Nat.le_refl _,by unfold bT;omega,rfl,by unfold bT;omega⟩
 | n+1,L,r,w,h,hp=>by
   unfold bT
   cases ha:w.a k with
   | nil=>exact⟨L,r,h,Nat.le_refl _,by simp,rfl,by simp[ha]⟩
   | cons p ps=>
     simp only
     have hf:=h.few (!k)
     obtain⟨L1,r1,q1,q2,q3,q4⟩:=h.arr k ha (by omega)
     obtain⟨L2,r2,p1,p2,p3,p4,p5⟩:=jC k n L1 r1 (mH w k p ps) q1 (by omega)
     have e1:=nO w k
     have e2:=nO (mH w k p ps) k
     rw[ha,List.length_cons]at e1
     rw[q3,q4]at e2
     rw[q3]at p3 p5
     unfold oI at p3 ⊢
     refine⟨L2,r2,p1,by omega,?_,p4.trans q4,?_⟩
     ·rw[List.length_cons]
      omega
     ·rw[List.length_cons]
      omega
end Sy
end V
namespace V
namespace Sy
open St Po
theorem xI(w:Wr)(k:Bool):(Sy.dY w k).1.s (!k)=w.s (!k):=by
 unfold Sy.dY
 split
 ·simp only
  rw[(jw _ k (!k) _).1]
  exact(kU w k _).2
 ·exact(kU w k _).2
theorem xH(k:Bool):∀(n:Nat) (w:Wr) (y:Bool),(dQ n w k y).1.s (!k)=w.s (!k)
 | 0,_,_=>rfl
 | n+1,w,y=>by
   unfold dQ
   split
   ·rw[xH k n]
    exact xI w k
   ·exact xI w k
def ER(w:Wr):Wr:=bT 100 (bT 100 w false) true
def wL(w:Wr):Wr×Bool:=dQ 20 (ER w) false false
def iy(w:Wr):Wr×Bool:=dQ 20 (wL w).1 true false
def uQ(w:Wr):Bool:=!(wL w).2&&(!(iy w).2&&(((iy w).1.a false).length+((iy w).1.a true).length==0))
theorem Dh{L:Bool→List bM}{r:Bool→Nat}{w:Wr}(h:Ord L r w)(hp:phi L w≤100000000):∃L' r',Ord L' r' (iy w).1∧phi L' (iy w).1≤phi L w∧(uQ w=false→oI L' (iy w).1+27≤oI L w)∧(uQ w=true→∀k,(iy w).1.a k=[]∧((iy w).1.s k).Out=[]):=by
 obtain⟨L1,r1,a1,a2,a3,a4,a5⟩:=jC false 100 L r w h hp
 obtain⟨L2,r2,b1,b2,b3,b4,b5⟩:=jC true 100 L1 r1 (bT 100 w false) a1 (by omega)
 obtain⟨L3,c1,c2,c3,c4,c5,c6⟩:=lJ false 20 L2 (ER w) false b1 (by unfold ER;omega)
 obtain⟨L4,d1,d2,d3,d4,d5,d6⟩:=lJ true 20 L3 (wL w).1 false c1 (by unfold wL;unfold ER at c2 ⊢;omega)
 have e3:(iy w).1=(dQ 20 (wL w).1 true false).1:=rfl
 have e2:(wL w).1=(dQ 20 (ER w) false false).1:=rfl
 rw[← e2]at c2 c3 c4 c5 c6
 rw[← e3]at d1 d2 d3 d4 d5 d6
 rw[show bT 100 (bT 100 w false) true=ER w from rfl]at b2 b3 b4 b5
 rw[show(dQ 20 (ER w) false false).2=(wL w).2 from rfl]at c5 c6
 rw[show(dQ 20 (wL w).1 true false).2=(iy w).2 from rfl]at d5 d6
 simp only[Bool.not_false,Bool.not_true]at a4 b4 c4 d4
 refine⟨L4,r2,d1,by omega,fun hr=>?_,fun hr=>?_⟩
 ·cases ha:(wL w).2 with
  | true=>
    rcases c5 ha with q | q
    ·cases q
    ·omega
  | false=>
    cases hb:(iy w).2 with
    | true=>
      rcases d5 hb with q | q
      ·cases q
      ·omega
    | false=>
      obtain⟨f1,_⟩:=c6 ha (by omega)
      obtain⟨f2,_⟩:=d6 hb (by omega)
      unfold uQ at hr
      rw[ha,hb]at hr
      have hz:((iy w).1.a false).length+((iy w).1.a true).length≠0:=by simpa using hr
      rw[f2,d4,c4,f1]at hz
      rw[a4]at b5 b3
      rw[b4]at hz
      omega
 ·unfold uQ at hr
  simp only[Bool.and_eq_true,Bool.not_eq_true',beq_iff_eq]at hr
  obtain⟨ha,hb,hz⟩:=hr
  obtain⟨_,g1⟩:=c6 ha (by omega)
  obtain⟨_,g2⟩:=d6 hb (by omega)
  intro k
  cases k with
  | false=>
    refine⟨List.eq_nil_of_length_eq_zero (by omega),?_⟩
    have:=xH true 20 (wL w).1 false
    rw[← e3]at this
    rw[show((iy w).1.s false)=(wL w).1.s false from this]
    exact g1
  | true=>exact⟨List.eq_nil_of_length_eq_zero (by omega),g2⟩
def pQ:Nat→Wr→Wr×Bool
 | 0,w=>(w,false)
 | n+1,w=>if uQ w=true then((iy w).1,true)else pQ n (iy w).1
theorem Ij:∀(n:Nat) (L:Bool→List bM) (r:Bool→Nat) (w:Wr),Ord L r w→phi L w≤100000000→oI L w<27*n→(pQ n w).2=true∧(pQ n w).1.ng=false∧∀k,(pQ n w).1.f k=[]
 | 0,_,_,_,_,_,h=>by omega
 | n+1,L,r,w,h,hp,hm=>by
   obtain⟨L',r',q1,q2,q3,q4⟩:=Dh h hp
   unfold pQ
   by_cases hr:uQ w=true
   ·rw[if_pos hr]
    refine⟨rfl,q1.ok,fun k=>?_⟩
    obtain⟨k1,k2⟩:=q4 hr k
    have hW:=q1.way k
    have hfl:=hW.flow
    rw[k1,k2]at hfl
    rw[← hW.fix,QG hfl]
    rfl
   ·rw[if_neg hr]
    have:=q3 (by simpa using hr)
    exact Ij n L' r' (iy w).1 q1 (by omega) (by omega)
end Sy
end V
namespace V
namespace Sy
open St Po
structure Ac where
 Side:Int
 Kind:Int
 N:Int
 bU:Int
 aU:Int
 bZ:Int
 cu:Int
 aA:Int
 Bytes:List Int
 Update:jo
def bE(x:Ac):Bool:=decide (x.Side%2=1)
def nP(w:Wr)(x:Ac):Wr:=
 if x.Kind=0 then(if (iE (w.s (bE x)) x.bU x.bZ x.cu x.aA).2.2=0 then { w.dK (bE x) (iE (w.s (bE x)) x.bU x.bZ x.cu x.aA).1 with cn:=aG w.cn (slot (bE x) (iE (w.s (bE x)) x.bU x.bZ x.cu x.aA).2.1) true }else w.dK (bE x) (iE (w.s (bE x)) x.bU x.bZ x.cu x.aA).1)
 else if x.Kind=1 then w.dK (bE x) (Cw (w.s (bE x)) x.aU).1
 else if x.Kind=2 then(if (kY (w.s (bE x)) x.aU x.Bytes).2=0 then { w.dK (bE x) (kY (w.s (bE x)) x.aU x.Bytes).1 with sd:=aG w.sd (slot (bE x) x.aU) (w.sd (slot (bE x) x.aU)++[x.Bytes]) }else w.dK (bE x) (kY (w.s (bE x)) x.aU x.Bytes).1)
 else if x.Kind=3 then(if (tL (w.s (bE x)) x.aU x.Bytes).2=0 then(w.dK (bE x) (tL (w.s (bE x)) x.aU x.Bytes).1).sw (bE x) (w.f (bE x)++[⟨x.aU,x.Bytes⟩])else w.dK (bE x) (tL (w.s (bE x)) x.aU x.Bytes).1)
 else if x.Kind=4 then(if (sF (w.s (bE x)) x.Update).2=0 then { w.dK (bE x) (sF (w.s (bE x)) x.Update).1 with par:=w.par+1 }else w.dK (bE x) (sF (w.s (bE x)) x.Update).1)
 else if x.Kind=5 then(dQ x.N.toNat w (bE x) false).1
 else if x.Kind=6 then bT x.N.toNat w (bE x)
 else if x.Kind=7 then w.dK (bE x) { w.s (bE x)with Level:=lvl x.N }
 else w
structure V3(x:Ac):Prop where
 psm:0≤x.bU∧x.bU≤65535
 len:x.Bytes.length≤4096
 xZ:∀b∈x.Bytes,Byte b
def cost(x:Ac):Nat:=5*x.Bytes.length+314
theorem Jh(w:Wr)(k:Bool)(m:aL):aK (w.dK k m)=aK w:=by cases k <;> rfl
theorem RZ(w:Wr)(k:Bool)(l:List bM):aK (w.sw k l)=aK w:=by cases k <;> rfl
theorem Ord.fixed{L:Bool→List bM}{r:Bool→Nat}{w:Wr}(h:Ord L r w)(k:Bool){f:bM}(hg:Good f)(hc:f.aU=4∨f.aU=6):Ord (at_ L k (L k++[f])) r ((w.dK k (qd (w.s k) f.aU f.Payload)).sw k (w.f k++[f]))∧phi (at_ L k (L k++[f])) ((w.dK k (qd (w.s k) f.aU f.Payload)).sw k (w.f k++[f]))≤phi L w+f.Payload.length+30:=by
 have hS:=h.side k
 have hW:=h.way k
 obtain⟨s1,s2⟩:=kU w k (qd (w.s k) f.aU f.Payload)
 have hI:MInv ((w.s k).Out.length+1) (qd (w.s k) f.aU f.Payload):=hS.inv.qd hg.len hg.lG
 have hfx:jP f=true:=by unfold jP;simpa using hc
 have hX:frX f=0:=by unfold frX;rw[if_pos hc]
 obtain⟨f1,f2⟩:=wZ (w.dK k (qd (w.s k) f.aU f.Payload)) k (w.f k++[f])
 refine⟨⟨fun j=>?_,fun j=>?_,?_,fun j=>?_⟩,?_⟩
 ·rw[(jg _ k j _).1]
  rcases gT j k with hj | hj
  ·rw[hj,s1];exact⟨MInv.tight hI,hS.xZ⟩
  ·rw[hj,s2];exact h.side _
 ·rw[(jg _ k j _).1,(jg _ k (!j) _).1,(jg _ k j _).2,(dX w k j _).1]
  rcases gT j k with hj | hj
  ·subst hj
   rw[vL,f1,s1,s2]
   refine⟨vE _ _ _ _ _ [f] hW.flow,?_,fun g hq=>?_,?_,fun e=>?_⟩
   ·rw[hW.asm]
    cases hL:L j with
    | cons g t=>rfl
    | nil=>rw[hW.emp hL];rfl
   ·rcases List.mem_append.1 hq with hq | hq
    ·exact hW.good g hq
    ·rw[List.mem_singleton]at hq
     subst hq
     exact⟨hg,fun e=>by omega⟩
   ·rw[List.filter_append,hW.fix]
    simp[List.filter_cons,hfx]
   ·simp at e
  ·subst hj
   rw[rE,f2,Bool.not_not,s1,s2,(dX w k (!k) _).2]
   have:=h.way (!k)
   rw[Bool.not_not]at this
   exact this.right rfl
 ·rw[(kS _ k (w.s k) [] _).2.2,(kS w k _ [] []).1];exact h.ok
 ·rw[(jg _ k j _).1]
  rcases gT j k with hj | hj
  ·rw[hj,s1];exact h.role k
  ·rw[hj,s2];exact h.role _
 ·rw[oV _ _ k,oV L w k,(jg _ k k _).1,(jg _ k (!k) _).1,s1,s2,vL,rE,EA,uw,hX]
  have e1:=tZ hS.inv
  have e2:=tZ hI
  have e3:=JW (w.s k) f.aU f.Payload
  have e4:Jz ⟨f.aU,f.Payload⟩=f.Payload.length+30:=by
   show f.Payload.length+30+27*frX f=_
   rw[hX]
  rw[show(qd (w.s k) f.aU f.Payload).Out=(w.s k).Out++[f]from rfl,EA,uw,hX,show(qd (w.s k) f.aU f.Payload).aR=(w.s k).aR from rfl]at e2
  have e5:xs []=0:=rfl
  omega
theorem UM{k:Nat}{m:aL}(h:MInv k m)(n:Int):MInv k { m with Level:=n }:=
 ⟨h.J9,h.NK,h.next,h.ask,h.xA,h.yN,h.MQ,h.qE,h.xg,h.cnt,h.out,h.nZ,h.sent,h.asm,h.jm⟩
theorem Mf{L:Bool→List bM}{r:Bool→Nat}{w:Wr}(h:Ord L r w)(hp:phi L w≤100000000){x:Ac}(hx:V3 x):∃L' r',Ord L' r' (nP w x)∧phi L' (nP w x)≤phi L w+cost x∧oI L' (nP w x)≤oI L w+2*cost x:=by
 have hf:=h.few (bE x)
 have hS:=h.side (bE x)
 have key:∀(m':aL) (g:Nat),g≤cost x→Side m'→Adds (w.s (bE x)) m'→fP m'≤fP (w.s (bE x))+g→∀w',w'.s0=(w.dK (bE x) m').s0→w'.s1=(w.dK (bE x) m').s1→w'.a0=(w.dK (bE x) m').a0→w'.a1=(w.dK (bE x) m').a1→w'.f0=(w.dK (bE x) m').f0→w'.f1=(w.dK (bE x) m').f1→w'.ng=(w.dK (bE x) m').ng→∃L' r',Ord L' r' w'∧phi L' w'≤phi L w+cost x∧oI L' w'≤oI L w+2*cost x:=fun m' g hg hs ha hpt w' b1 b2 b3 b4 b5 b6 b7=>by
  obtain⟨L',q1,q2,_⟩:=h.adds (bE x) hs ha hpt
  obtain⟨p1,p2,p3⟩:=q1.same b1 b2 b3 b4 b5 b6 b7
  refine⟨L',r,p1,by omega,?_⟩
  have:aK w'=aK w:=by
   unfold aK
   rw[p3,p3]
   exact Jh w (bE x) m'
  unfold oI
  omega
 have hcost:cost x=5*x.Bytes.length+314:=rfl
 unfold nP
 split
 ·obtain⟨_,hI⟩:=tT hS.inv (by omega) x.bU x.bZ x.cu x.aA hx.psm
  have ha:=Ow hS.inv x.bU x.bZ x.cu x.aA hx.psm
  have hs:=hS.rows hI (Ni _ _ _ _ _)
  have hq:=Rm (w.s (bE x)) x.bU x.bZ x.cu x.aA
  split
  ·exact key _ 314 (by omega) hs ha hq _ rfl rfl rfl rfl rfl rfl rfl
  ·exact key _ 314 (by omega) hs ha hq _ rfl rfl rfl rfl rfl rfl rfl
 split
 ·obtain⟨_,hI⟩:=nM hS.inv (by omega) x.aU
  exact key _ 0 (by omega) (hS.rows hI (PS _ _)) (R9 hS.inv x.aU) (Vo _ _) _ rfl rfl rfl rfl rfl rfl rfl
 split
 ·obtain⟨_,hI⟩:=zT hS.inv (by omega) x.aU x.Bytes (by have:=hx.len;omega)
  have ha:=Oo (w.s (bE x)) x.aU x.Bytes
  have hq:=Pw (w.s (bE x)) x.aU x.Bytes
  have hs:Side (kY (w.s (bE x)) x.aU x.Bytes).1:=⟨MInv.tight hI,fun c hc s hs=>by
   revert hc
   unfold kY
   rcases dV (w.s (bE x)) x.aU with⟨hn,_⟩ | ⟨i,d,hn,_,hd,_⟩
   ·rw[hn];exact fun hc=>hS.xZ c hc s hs
   ·rw[hn]
    simp only
    split
    ·exact fun hc=>hS.xZ c hc s hs
    split
    ·intro hc
     rcases List.mem_or_eq_of_mem_set hc with hc | rfl
     ·exact hS.xZ c hc s hs
     ·revert hs
      unfold K9
      split
      ·exact fun hs=>hS.xZ d (fF hd) s hs
      split
      ·exact fun hs=>hS.xZ d (fF hd) s hs
      split
      ·exact fun hs=>hS.xZ d (fF hd) s hs
      ·intro hs
       rcases List.mem_append.1 hs with hs | hs
       ·exact hS.xZ d (fF hd) s hs
       ·rw[List.mem_singleton]at hs
        subst hs
        exact hx.xZ
    ·exact fun hc=>hS.xZ c hc s hs⟩
  split
  ·exact key _ (5*x.Bytes.length+94) (by omega) hs ha (by omega) _ rfl rfl rfl rfl rfl rfl rfl
  ·exact key _ (5*x.Bytes.length+94) (by omega) hs ha (by omega) _ rfl rfl rfl rfl rfl rfl rfl
 split
 ·by_cases hz:(tL (w.s (bE x)) x.aU x.Bytes).2=0
  ·rw[if_pos hz]
   have hq:(x.aU=4∨x.aU=6)∧(tL (w.s (bE x)) x.aU x.Bytes).1=qd (w.s (bE x)) x.aU x.Bytes:=by
    unfold tL at hz ⊢
    split at hz
    ·cases hz
    split at hz
    ·cases hz
    split at hz
    ·cases hz
    ·rename_i g1 g2 g3
     rw[if_neg g1,if_neg g2,if_neg g3]
     exact⟨by omega,rfl⟩
   rw[hq.2]
   obtain⟨q1,q2⟩:=h.fixed (bE x) (f:=⟨x.aU,x.Bytes⟩) ⟨by simp only;omega,hx.len,hx.xZ⟩ hq.1
   refine⟨_,_,q1,by simp only at q2;omega,?_⟩
   unfold oI
   rw[RZ,Jh]
   simp only at q2
   omega
  ·rw[if_neg hz]
   have hq:(tL (w.s (bE x)) x.aU x.Bytes).1=w.s (bE x):=by
    unfold tL at hz ⊢
    (repeat' split) <;> first | rfl | skip
    rename_i g1 g2 g3
    rw[if_neg g1,if_neg g2,if_neg g3]at hz
    exact absurd rfl hz
   rw[hq,CY]
   exact⟨L,r,h,by omega,by omega⟩
 split
 ·obtain⟨_,hI⟩:=wQ hS.inv (by omega) x.Update
  have ha:=R6 hS.inv x.Update
  have hs:=hS.rows hI (PN _ _)
  have hq:=Ux (w.s (bE x)) x.Update
  split
  ·exact key _ 98 (by omega) hs ha hq _ rfl rfl rfl rfl rfl rfl rfl
  ·exact key _ 98 (by omega) hs ha hq _ rfl rfl rfl rfl rfl rfl rfl
 split
 ·obtain⟨L',q1,q2,q3,_⟩:=lJ (bE x) x.N.toNat L w false h hp
  exact⟨L',r,q1,by omega,by omega⟩
 split
 ·obtain⟨L',r',q1,q2,q3,_⟩:=jC (bE x) x.N.toNat L r w h hp
  exact⟨L',r',q1,by omega,by omega⟩
 split
 ·exact key { w.s (bE x)with Level:=lvl x.N } 0 (by omega) ⟨UM hS.inv _,hS.xZ⟩ (.of ⟨rfl,rfl,rfl,rfl⟩ rfl) (Nat.le_refl _) _ rfl rfl rfl rfl rfl rfl rfl
 ·exact⟨L,r,h,by omega,by omega⟩
end Sy
end V
namespace V
theorem MInv.leng{k:Nat}{m:aL}(h:MInv k m)(n:Int):MInv k { m with Length:=n }:=
 ⟨h.J9,h.NK,h.next,h.ask,h.xA,h.yN,h.MQ,h.qE,h.xg,h.cnt,h.out,h.nZ,h.sent,h.asm,h.jm⟩
theorem Ll{role:Int}{l:List eZ}(h:(gV role l).2=0):MInv 0 (gV role l).1:=by
 unfold gV at h ⊢
 split at h
 ·cases h
 split at h
 ·cases h
 rename_i h1 h2
 split at h
 ·rename_i h3
  rw[if_neg h1,if_neg h2,if_pos h3]
  have hl:∀(n k:Nat),k+n=l.length→AA l k n=0→∀i,k≤i→i<l.length→∀x,l[i]? = some x→tH (l.take i) x=0:=by
   intro n
   induction n with
   | zero=>intro k hk _ i h1 h2;omega
   | succ n ih=>
     intro k hk hc i h1 h2 x hx
     have hkx:l[k]? = some l[k]:=gE (by omega)
     rw[Dy hkx]at hc
     split at hc
     ·rename_i h0
      by_cases hi:i=k
      ·subst hi
       rw[hkx]at hx
       injection hx with hx
       rw[← hx]
       exact h0
      ·exact ih (k+1) (by omega) hc i (by omega) h2 x hx
     ·rename_i h0
      exact absurd hc h0
  have hu:fU (⟨role,0,l,[],[],1,⟨false,[]⟩,[],0,27⟩:aL)=0:=by
   unfold fU
   rw[List.filter_eq_nil_iff.2 (fun v _=>by simp[gF,VE]),List.length_nil]
  refine⟨by simp only;omega,fun x hx=>?_,by simp only;omega,by simp,by simp,by simp,by simp,by simp,by simp,(by simp only[hu];omega),by simp,fun _=>rfl,by simp,Fr.zD,by simp⟩
  obtain⟨i,hi,rfl⟩:=List.mem_iff_getElem.1 hx
  have:=hl l.length 0 (by omega) h3 i (by omega) hi _ (gE hi)
  unfold tH at this
  split at this
  ·cases this
  split at this
  ·cases this
  split at this
  ·cases this
  rename_i h5
  simp only[Bool.not_eq_false,Bool.and_eq_true]at h5
  exact⟨h5.1.1.1,h5.1.1.2,h5.1.2⟩
 ·rename_i h3
  exact absurd h h3
end V
namespace V
namespace Sy
open St Po
def lU(l0 l1:List eZ)(n0 n1:Int):Wr:=⟨{ (gV 0 l0).1 with Length:=n0 },{ (gV 1 l1).1 with Length:=n1 },[],[],fun _=>[],[],[],fun _=>false,0,false,false,false⟩
theorem Qj{role:Int}{l:List eZ}(h:(gV role l).2=0):(gV role l).1=⟨role,0,l,[],[],1,⟨false,[]⟩,[],0,27⟩:=by
 unfold gV at h ⊢
 split at h
 ·cases h
 split at h
 ·cases h
 split at h
 ·rename_i h1 h2 h3
  rw[if_neg h1,if_neg h2,if_pos h3]
 ·rename_i h3
  exact absurd h h3
theorem II{l0 l1:List eZ}(n0 n1:Int)(h0:(gV 0 l0).2=0)(h1:(gV 1 l1).2=0):Ord (fun _=>[]) (fun _=>0) (lU l0 l1 n0 n1)∧phi (fun _=>[]) (lU l0 l1 n0 n1)=0∧aK (lU l0 l1 n0 n1)=0:=by
 have i0:=(Ll h0).leng n0
 have i1:=(Ll h1).leng n1
 have e0:=Qj h0
 have e1:=Qj h1
 unfold lU
 rw[e0]at i0 ⊢
 rw[e1]at i1 ⊢
 refine⟨⟨fun k=>?_,fun k=>?_,rfl,fun k=>?_⟩,rfl,rfl⟩
 ·cases k
  ·exact⟨MInv.tight i0,fun c hc=>by cases hc⟩
  ·exact⟨MInv.tight i1,fun c hc=>by cases hc⟩
 ·cases k
  ·exact⟨⟨rfl,rfl⟩,rfl,(fun f hf=>by cases hf),rfl,fun _=>rfl⟩
  ·exact⟨⟨rfl,rfl⟩,rfl,(fun f hf=>by cases hf),rfl,fun _=>rfl⟩
 ·cases k <;> rfl
theorem BQ:∀(l:List Ac) (L:Bool→List bM) (r:Bool→Nat) (w:Wr),Ord L r w→(∀x∈l,V3 x)→phi L w+(l.map cost).sum≤100000000→∃L' r',Ord L' r' (l.foldl nP w)∧phi L' (l.foldl nP w)≤phi L w+(l.map cost).sum∧oI L' (l.foldl nP w)≤oI L w+2*(l.map cost).sum
 | [],L,r,w,h,_,_=>⟨L,r,h,by simp,by simp⟩
 | x::l,L,r,w,h,hx,hp=>by
   simp only[List.map_cons,List.sum_cons]at hp
   obtain⟨L1,r1,q1,q2,q3⟩:=Mf h (by omega) (hx x (by simp))
   obtain⟨L2,r2,p1,p2,p3⟩:=BQ l L1 r1 (nP w x) q1 (fun y hy=>hx y (by simp[hy])) (by omega)
   simp only[List.map_cons,List.sum_cons,List.foldl_cons]
   exact⟨L2,r2,p1,by omega,by omega⟩
theorem BH:∀l:List Ac,(l.map cost).sum=5*(l.map fun x=>x.Bytes.length).sum+314*l.length
 | []=>rfl
 | x::l=>by
   have:=BH l
   simp only[List.map_cons,List.sum_cons,List.length_cons]
   have:cost x=5*x.Bytes.length+314:=rfl
   omega
theorem CR{l0 l1:List eZ}(n0 n1:Int)(h0:(gV 0 l0).2=0)(h1:(gV 1 l1).2=0)(l:List Ac)(hx:∀x∈l,V3 x)(hl:l.length≤60)(hb:(l.map fun x=>x.Bytes.length).sum≤4096):(pQ 20000 (l.foldl nP (lU l0 l1 n0 n1))).2=true∧(pQ 20000 (l.foldl nP (lU l0 l1 n0 n1))).1.ng=false∧∀k,(pQ 20000 (l.foldl nP (lU l0 l1 n0 n1))).1.f k=[]:=by
 obtain⟨i1,i2,i3⟩:=II n0 n1 h0 h1
 have hc:=BH l
 obtain⟨L,r,q1,q2,q3⟩:=BQ l _ _ _ i1 hx (by omega)
 have hm:oI (fun _=>[]) (lU l0 l1 n0 n1)=0:=by unfold oI;omega
 exact Ij 20000 L r _ q1 (by omega) (by omega)
end Sy
end V
namespace V
namespace St
def waits(m:aL)(v:Int):Prop:=∃s∈m.aD,s.Kind=20∧s.Source=v
def FZ(m m':aL):Prop:=∀v,waits m' v↔waits m v
theorem FZ.refl(m:aL):FZ m m:=fun _=>Iff.rfl
theorem FZ.same{m m':aL}(h:m'.aD=m.aD):FZ m m':=fun v=>by unfold waits;rw[h]
theorem FZ.trans{a b c:aL}(h:FZ a b)(g:FZ b c):FZ a c:=fun v=>(g v).trans (h v)
theorem VL(m:aL)(s:aT)(h:s.Kind≠20):FZ m (uf m s):=fun v=>by
 unfold waits uf
 simp only[List.mem_append,List.mem_singleton]
 constructor
 ·rintro⟨t,ht | rfl,h1,h2⟩
  ·exact⟨t,ht,h1,h2⟩
  ·exact absurd h1 h
 ·rintro⟨t,ht,h1⟩
  exact⟨t,.inl ht,h1⟩
theorem Mg(m:aL)(c:aS):FZ m (nL m c):=by
 unfold nL
 split
 ·exact .refl m
 ·exact VL m _ (by simp only;omega)
theorem VK(m:aL)(s:aT):FZ m (tV m s).1:=by
 unfold tV
 (repeat' split) <;> exact .same rfl
theorem Sw(m:aL)(s:aT):FZ m (oC m s).1:=by
 unfold oC
 (repeat' split) <;> exact .same rfl
theorem Sr(m:aL)(s:aT):FZ m (mU m s).1:=by
 unfold mU
 (repeat' split) <;> exact .same rfl
theorem VJ(m:aL)(s:aT):FZ m (BG m s):=by
 unfold BG
 split
 ·exact .refl m
 ·split
  ·exact .refl m
  split
  ·exact(FZ.same (m:=m) rfl).trans (Mg _ _)
  ·exact .same rfl
theorem SA(m:aL)(i:Nat)(c:aS)(b:List Int):FZ m (oD m i c b).1:=by
 unfold oD
 split
 ·exact(FZ.same (m:=m) rfl).trans (Mg _ _)
 split
 ·exact .same rfl
 ·exact .same rfl
end St
end V
namespace V
namespace St
theorem uZ(m:aL){i:Nat}{r:aT}(hr:m.aD[i]? = some r)(s:aT):s∈m.aD↔s=r∨s∈qD m.aD i:=by
 have hlt:=(gS.1 hr).1
 have he:m.aD=m.aD.take i++r::m.aD.drop (i+1):=by
  have h1:m.aD.drop i=r::m.aD.drop (i+1):=by
   rw[List.drop_eq_getElem_cons hlt]
   rw[gE hlt]at hr
   injection hr with hr
   rw[hr]
  rw[← h1,List.take_append_drop]
 conv=>lhs;rw[he]
 unfold qD
 simp only[List.mem_append,List.mem_cons]
 constructor
 ·rintro(h | h | h)
  ·exact .inr (.inl h)
  ·exact .inl h
  ·exact .inr (.inr h)
 ·rintro(h | h | h)
  ·exact .inr (.inl h)
  ·exact .inl h
  ·exact .inr (.inr h)
theorem JD{k:Nat}{m:aL}(h:MInv k m){i:Nat}{r:aT}(hr:m.aD[i]? = some r)(h20:r.Kind=20)(v:Int):waits (fI m i) v↔waits m v∧v≠r.Source:=by
 unfold waits
 show(∃s∈qD m.aD i,_)↔_
 constructor
 ·rintro⟨s,hs,h1,h2⟩
  exact⟨⟨s,(uZ m hr s).2 (.inr hs),h1,h2⟩,fun e=>GQ h hr h20 s hs (.inl h1) (by rw[h2,e])⟩
 ·rintro⟨⟨s,hs,h1,h2⟩,hne⟩
  rcases(uZ m hr s).1 hs with rfl | hs
  ·exact absurd h2.symm hne
  ·exact⟨s,hs,h1,h2⟩
theorem Sv(m:aL){i:Nat}{r:aT}(hr:m.aD[i]? = some r)(h20:r.Kind≠20):FZ m (fI m i):=fun v=>by
 unfold waits
 show(∃s∈qD m.aD i,_)↔_
 constructor
 ·rintro⟨s,hs,h1⟩
  exact⟨s,(uZ m hr s).2 (.inr hs),h1⟩
 ·rintro⟨s,hs,h1,h2⟩
  rcases(uZ m hr s).1 hs with rfl | hs
  ·exact absurd h1 h20
  ·exact⟨s,hs,h1,h2⟩
def BS(m m':aL)(es:List gD):Prop:=(∀v,waits m' v↔waits m v∧∀x∈es,(x.Kind=2∨x.Kind=5)→x.aU≠v)∧(∀x∈es,x.Kind=5→waits m x.aU)∧∀x∈es,(x.Kind=2∨x.Kind=5)→64≤x.aU∧x.aU≤127
theorem BS.none{m m':aL}(h:FZ m m')(es:List gD)(he:∀x∈es,x.Kind≠2∧x.Kind≠5):BS m m' es:=⟨fun v=>by
 rw[h v]
 exact⟨fun hw=>⟨hw,fun x hx hk=>by have:=he x hx;omega⟩,fun hw=>hw.1⟩,(fun x hx hk=>absurd hk (he x hx).2),fun x hx hk=>by have:=he x hx;omega⟩
theorem BS.one{k:Nat}{m m':aL}(h:MInv k m){i:Nat}{r:aT}(hr:m.aD[i]? = some r)(h20:r.Kind=20)(hm:m'.aD=(fI m i).aD){kd res:Int}(hk:kd=2∨kd=5):BS m m' [DJ kd r.Source res 0]:=by
 refine⟨fun v=>?_,fun x hx _=>?_,fun x hx _=>?_⟩
 ·have e:waits m' v↔waits (fI m i) v:=by unfold waits;rw[hm]
  rw[e,JD h hr h20 v]
  constructor
  ·rintro⟨h1,h2⟩
   refine⟨h1,fun x hx _ e=>?_⟩
   rw[List.mem_singleton]at hx
   subst hx
   exact h2 e.symm
  ·rintro⟨h1,h2⟩
   exact⟨h1,fun e=>h2 _ (List.mem_singleton.2 rfl) hk e.symm⟩
 ·rw[List.mem_singleton]at hx
  subst hx
  exact⟨r,fF hr,h20,rfl⟩
 ·rw[List.mem_singleton]at hx
  subst hx
  exact Pj (h.ask r (fF hr)).1 (.inl h20)
theorem MN{k:Nat}{m:aL}(h:MInv k m)(s:aT):BS m (sG m s).1 (sG m s).2:=by
 unfold sG
 rcases oP m s with⟨h1,_⟩ | ⟨i,r,h1,_,hr,_⟩
 ·rw[h1];exact .none (.refl m) [] (by simp)
 ·rw[h1]
  simp only
  by_cases h20:r.Kind=20
  ·rw[if_pos h20]
   split
   ·exact .one h hr h20 rfl (.inr rfl)
   split
   ·exact .one h hr h20 rfl (.inr rfl)
   split
   ·exact .one h hr h20 rfl (.inr rfl)
   ·exact .one h hr h20 rfl (.inl rfl)
  ·rw[if_neg h20]
   have hd:=Sv m hr h20
   split
   ·unfold qY
    split
    ·exact .none hd [] (by simp)
    ·exact .none (hd.trans (.same rfl)) _ (by simp[DJ])
   ·exact .none hd _ (by simp[DJ])
theorem ML{k:Nat}{m:aL}(h:MInv k m)(s:aT):BS m (tV m s).1 (tV m s).2:=by
 have ha:=VK m s
 revert ha
 unfold tV
 split
 ·exact fun ha=>.none ha [] (by simp)
 split
 ·exact fun ha=>.none ha [] (by simp)
 split
 ·exact fun ha=>.none ha [] (by simp)
 rename_i hu
 split
 ·exact fun ha=>.none ha [] (by simp)
 ·intro ha
  obtain⟨v,_,f2,f3,f4,f5⟩:=kD (m:=m) (by omega)
  refine⟨fun u=>?_,fun x hx hk=>?_,fun x hx _=>?_⟩
  ·rw[ha u]
   refine⟨fun hw=>⟨hw,fun x hx _ e=>?_⟩,fun hw=>hw.1⟩
   rw[List.mem_singleton]at hx
   subst hx
   simp only[DJ]at e
   obtain⟨t,ht,h1,h2⟩:=hw
   have:=(dM m v).2 (.inr ⟨t,ht,.inl h1,by rw[h2,← e,f2]⟩)
   rw[f3]at this
   cases this
  ·rw[List.mem_singleton]at hx
   subst hx
   simp[DJ]at hk
  ·rw[List.mem_singleton]at hx
   subst hx
   show 64≤l5 m∧l5 m≤127
   rw[f2]
   exact⟨f4,f5⟩
theorem MK{k:Nat}{m:aL}(h:MInv k m){f:bM}(hg:Po.BX f):BS m (kC m f).1 (kC m f).2:=by
 unfold kC
 split
 ·exact .none (.refl m) _ (by simp)
 split
 ·rename_i c5
  obtain⟨s,hs,hp⟩:=hg c5
  rw[hp]
  unfold GY
  rw[Sg.ze hs.1 hs.2,if_pos rfl]
  unfold yA
  split
  ·exact ML h s
  split
  ·refine .none (Sw m s) _ ?_
   unfold oC
   (repeat' split) <;> simp[DJ]
  split
  ·refine .none (Sr m s) _ ?_
   unfold mU
   split <;> simp
  split
  ·exact .none (VJ m s) [] (by simp)
  ·exact MN h s
 split
 ·exact .none (.refl m) [] (by simp)
 ·split
  ·exact .none (.refl m) [] (by simp)
  ·refine .none (SA m _ _ _) _ ?_
   unfold oD Hr
   (repeat' split) <;> simp
   all_goals
    intro a b _ e
    subst e
    exact⟨by simp,by simp⟩
end St
end V
namespace V
namespace Sy
open St Po
structure Rel(n:Nat)(p:Int)(w:Wr)(t:bD):Prop where
 sides:t.sides=(w.s0,w.s1)
 aK:t.aK=(w.a0,w.a1)
 fixed:t.fixed=(w.f0,w.f1)
 cn:t.connects=w.cn
 par:t.params=w.par
 ng:t.frame=w.ng
 ans:t.answer=w.ans
 rows:∀j,(t.au j).length≤n
 rng : -p≤w.par∧w.par≤p
theorem mO(v:Int):qa FF v=some (aI (gI v 64)):=rfl
theorem EI{v:Int}(h:0≤v):EJ 64 (aI (gI v 64))=some (v%64).toNat:=by
 have:gI v 64=v%64:=by unfold gI;rw[Int.tmod_eq_emod_of_nonneg (by omega)]
 rw[this,bN (by omega) (by omega)]
 unfold EJ
 rw[if_pos (by omega)]
theorem qL{v:Int}(h:64≤v∧v≤127):EJ 64 (aI (gI v 64))=some (v%64).toNat:=EI (by omega)
theorem wF{α:Type}(x:α)(l:List α):sub (x::l) 1 (len (x::l))=some l:=by
 have:=kG (x::l) 1 (x::l).length (by simp) (Nat.le_refl _)
 rw[List.take_length]at this
 exact this
theorem kI{n:Nat}{α:Type}{S:Nat→List α}(h:∀j,(S j).length≤n)(i:Nat){l:List α}(hl:l.length≤n):∀j,(aG (aG S i []) i l j).length≤n:=fun j=>by
 unfold aG
 split
 ·exact hl
 ·exact h j
theorem Hg{n:Nat}{α:Type}{S:Nat→List α}(h:∀j,(S j).length≤n)(i:Nat):∀j,(aG S i [] j).length≤n:=fun j=>by
 unfold aG
 split
 ·exact Nat.zero_le _
 ·exact h j
theorem Rel.more{n n':Nat}{p p':Int}{w:Wr}{t:bD}(h:Rel n p w t)(hn:n≤n')(hp:p≤p'):Rel n' p' w t:=⟨h.sides,h.aK,h.fixed,h.cn,h.par,h.ng,h.ans,fun j=>Nat.le_trans (h.rows j) hn,by have:=h.rng;omega⟩
theorem Rel.sd{n:Nat}{p:Int}{w:Wr}{t:bD}(h:Rel n p w t){w':Wr}(h0:w'.s0=w.s0∧w'.s1=w.s1∧w'.a0=w.a0∧w'.a1=w.a1∧w'.f0=w.f0∧w'.f1=w.f1∧w'.cn=w.cn∧w'.par=w.par∧w'.ng=w.ng∧w'.ans=w.ans){S:Nat→List (List Int)}(hS:∀j,(S j).length≤n)(d:Bool):Rel n p w' { t with au:=S,data:=d }:=by
 obtain⟨a1,a2,a3,a4,a5,a6,a7,a8,a9,a10⟩:=h0
 exact⟨by rw[a1,a2];exact h.sides,by rw[a3,a4];exact h.aK,by rw[a5,a6];exact h.fixed,by rw[a7];exact h.cn,by rw[a8];exact h.par,by rw[a9];exact h.ng,by rw[a10];exact h.ans,hS,by rw[a8];exact h.rng⟩
theorem Pd{n:Nat}{t:bD}{x:gD}{kk:Nat}(hI:MInv kk t.sides.2){S:Nat→List (List Int)}(hS:∀j,(S j).length≤n){i:Nat}(hi:i<t.sides.2.aj.length) :
 ∃S',(∀j,(S' j).length≤n)∧(q16 FF t x { t with au:=S } (i:Int)=some (.next ({ t with au:=S' },((i+1:Nat):Int)))∨q16 FF t x { t with au:=S } (i:Int)=some (.done (.inr { t with au:=S' }))):=by
 have hcl:=hI.qC
 unfold q16
 rw[if_pos (by simp[len];omega)]
 obtain⟨c,hc⟩:∃c,t.sides.2.aj[i]? = some c:=⟨_,gE hi⟩
 have hr:=(lY (hI.qE c (List.mem_of_getElem? hc))).2
 rw[bf hc,bs,mO,bs,qL hr,bs]
 have hw:aI ((i:Int)+1)=((i+1:Nat):Int):=wN i (by omega)
 simp only
 rcases(by cases S (c.Remote%64).toNat with
  | nil=>exact .inl rfl
  | cons b r=>exact .inr ⟨b,r,rfl⟩:S (c.Remote%64).toNat=[]∨∃b r,S (c.Remote%64).toNat=b::r)with hrow | ⟨b,r,hrow⟩
 ·simp only[hrow]
  rw[if_neg (by simp[len])]
  unfold q53
  exact⟨_,kI hS (c.Remote%64).toNat (l:=[]) (Nat.zero_le _),.inl (by rw[hw])⟩
 ·have hbr:=hS (c.Remote%64).toNat
  rw[hrow]at hbr
  simp only[hrow]
  by_cases hl:c.Local=x.aU
  ·rw[if_pos (by simp[hl,len] <;> omega),show idx (b::r) 0=some b from rfl,bs,show qk FF b x.Data=some (str b==str x.Data)from rfl,bs]
   by_cases hs:(str b==str x.Data)=true
   ·rw[if_pos hs,wF,bs]
    exact⟨_,kI hS (c.Remote%64).toNat (l:=r) (by rw[List.length_cons]at hbr;omega),.inr rfl⟩
   ·rw[if_neg hs]
    unfold q53
    exact⟨_,kI hS (c.Remote%64).toNat (l:=b::r) hbr,.inl (by rw[hw])⟩
  ·rw[if_neg (by simp[hl])]
   unfold q53
   exact⟨_,kI hS (c.Remote%64).toNat (l:=b::r) hbr,.inl (by rw[hw])⟩
theorem Gy{n:Nat}{t:bD}{x:gD}{kk:Nat}(hI:MInv kk t.sides.2)(hS:∀j,(t.au j).length≤n) :
 ∃S',(∀j,(S' j).length≤n)∧(iter (fun s=>q16 FF t x s.1 s.2) FF (t,0)=some (.inl { t with au:=S' })∨iter (fun s=>q16 FF t x s.1 s.2) FF (t,0)=some (.inr { t with au:=S' })):=by
 have hcl:=hI.qC
 have key:∀(d:Nat) (F:Nat) (S:Nat→List (List Int)) (i:Nat),(∀j,(S j).length≤n)→i+d=t.sides.2.aj.length→d<F→∃S',(∀j,(S' j).length≤n)∧(iter (fun s=>q16 FF t x s.1 s.2) F ({ t with au:=S },(i:Int))=some (.inl { t with au:=S' })∨iter (fun s=>q16 FF t x s.1 s.2) F ({ t with au:=S },(i:Int))=some (.inr { t with au:=S' })):=by
  intro d
  induction d with
  | zero=>
    intro F S i h1 h2 h3
    obtain⟨F,rfl⟩:∃G,F=G+1:=⟨F-1,by omega⟩
    refine⟨S,h1,.inl (aW ?_)⟩
    show q16 FF t x { t with au:=S } (i:Int)=_
    unfold q16
    rw[if_neg (by simp[len];omega)]
  | succ d ih=>
    intro F S i h1 h2 h3
    obtain⟨F,rfl⟩:∃G,F=G+1:=⟨F-1,by omega⟩
    obtain⟨S1,g1,g2⟩:=Pd (x:=x) hI h1 (i:=i) (by omega)
    rcases g2 with g2 | g2
    ·obtain⟨S2,k1,k2⟩:=ih F S1 (i+1) g1 (by omega) (by omega)
     refine⟨S2,k1,?_⟩
     rw[bV g2]
     exact k2
    ·exact⟨S1,g1,.inr (aW g2)⟩
 exact key t.sides.2.aj.length FF t.au 0 hS (by omega) (by have:=FFk;omega)
theorem JE{n:Nat}{p:Int}{w:Wr}{t:bD}(h:Rel n p w t){kk:Nat}(hI:MInv kk (w.s true))(hk:kk≤900000000){x:gD}(h1:x.Kind=1→(∀y∈x.Data,Byte y)∧∀f∈w.f (!true),∀y∈f.Payload,Byte y)(hc:x.Kind=2∨x.Kind=5→64≤x.aU∧x.aU≤127)(hr:1000≤p)(hp:p≤1000000000000) :
 ∃t',q54 FF t x=some t'∧Rel n (p+1) (mK w true x) t':=by
 have hR:=h
 obtain⟨e1,e2,e3,e4,e5,e6,e7,e8,e9⟩:=h
 have es:t.sides.2=w.s true:=by rw[e1];rfl
 unfold q54 mK
 rw[mO,bs]
 by_cases k2:x.Kind=2
 ·rw[if_pos (by simp[k2]),if_pos k2,qL (hc (.inl k2)),bs]
  unfold ql
  refine⟨_,rfl,⟨e1,e2,e3,?_,e5,e6,e7,Hg e8 _,by simp only;omega⟩⟩
  rw[show slot true x.aU=64+(x.aU%64).toNat from by simp[slot]]
  simp only[e4]
 rw[if_neg (c:=(x.Kind==2)=true) (by simpa using k2),if_neg k2]
 by_cases k5:x.Kind=5
 ·rw[if_pos (by simp[k5]),if_pos k5,qL (hc (.inr k5)),bs]
  have hz:(if t.answer=true then some true else some (!t.connects (64+(x.aU%64).toNat)))=some (w.ans || !w.cn (64+(x.aU%64).toNat)):=by
   rw[e7,e4]
   cases w.ans <;> rfl
  rw[hz,bs,bs]
  unfold ql
  refine⟨_,rfl,⟨e1,e2,e3,?_,e5,e6,?_,e8,by simp only;omega⟩⟩
  ·rw[show slot true x.aU=64+(x.aU%64).toNat from by simp[slot]]
   simp only[e4]
  ·rw[show slot true x.aU=64+(x.aU%64).toNat from by simp[slot]]
 rw[if_neg (c:=(x.Kind==5)=true) (by simpa using k5),if_neg k5]
 by_cases k1:x.Kind=1
 ·rw[if_pos (by simp[k1]),if_pos k1]
  obtain⟨hb1,hb2⟩:=h1 k1
  have ef:t.fixed.1=w.f (!true):=by rw[e3];rfl
  cases hf:w.f (!true)with
  | nil=>
    rw[ef,hf,if_pos (by simp[len])]
    unfold YK
    exact⟨_,if_pos rfl,⟨e1,e2,e3,e4,e5,rfl,e7,e8,by simp only;omega⟩⟩
  | cons f r=>
    rw[ef,hf,if_neg (by simp[len];omega),show idx (f::r) 0=some f from rfl,bs,bs]
    rw[hf]at hb2
    by_cases yI:f.aU=x.aU
    ·rw[if_neg (by simp[yI])]
     rw[show qk FF f.Payload x.Data=some (str f.Payload==str x.Data)from rfl,bs,nX hb1,nX (hb2 f (by simp))]
     unfold YK
     by_cases hd:f.Payload=x.Data
     ·rw[if_neg (by simp[hd])]
      rw[ef,hf,wF,bs]
      unfold ql
      refine⟨_,rfl,?_⟩
      simp only
      rw[if_pos ⟨yI,hd⟩]
      exact⟨e1,e2,by simp only[e3];rfl,e4,e5,e6,e7,e8,by show -(p+1)≤w.par∧w.par≤p+1;omega⟩
     ·rw[if_pos (by simpa using hd)]
      refine⟨_,rfl,?_⟩
      simp only
      rw[if_neg (fun q=>hd q.2)]
      exact⟨e1,e2,e3,e4,e5,rfl,e7,e8,by simp only;omega⟩
    ·rw[if_pos (by simpa using yI)]
     unfold YK
     refine⟨_,if_pos rfl,?_⟩
     simp only
     rw[if_neg (fun q=>yI q.1)]
     exact⟨e1,e2,e3,e4,e5,rfl,e7,e8,by simp only;omega⟩
 rw[if_neg (c:=(x.Kind==1)=true) (by simpa using k1),if_neg k1]
 by_cases k3:x.Kind=3
 ·rw[if_pos (by simp[k3]),if_pos k3]
  obtain⟨S',g1,g2⟩:=Gy (x:=x) (t:=t) (by rw[es];exact hI) e8
  have key:∀(w':Wr) (d:Bool),(w'.s0=w.s0∧w'.s1=w.s1∧w'.a0=w.a0∧w'.a1=w.a1∧w'.f0=w.f0∧w'.f1=w.f1∧w'.cn=w.cn∧w'.par=w.par∧w'.ng=w.ng∧w'.ans=w.ans)→Rel n (p+1) w' { t with au:=S',data:=d }:=fun w' d h0=>(hR.sd h0 g1 d).more (Nat.le_refl _) (by omega)
  rcases g2 with g2 | g2
  ·rw[g2,bs]
   refine⟨_,rfl,key _ true ?_⟩
   split <;> exact⟨rfl,rfl,rfl,rfl,rfl,rfl,rfl,rfl,rfl,rfl⟩
  ·rw[g2,bs]
   refine⟨_,rfl,key _ t.data ?_⟩
   split <;> exact⟨rfl,rfl,rfl,rfl,rfl,rfl,rfl,rfl,rfl,rfl⟩
 rw[if_neg (c:=(x.Kind==3)=true) (by simpa using k3),if_neg k3]
 by_cases k6:x.Kind=6
 ·rw[if_pos (by simp[k6]),if_pos k6,es,(z8 hI hk x.ID _).1,bs]
  unfold q7n q7m
  rw[show gI x.Update.aO 2=x.Update.aO.tmod 2 from rfl]
  by_cases h0:(tu (w.s true) x.ID (x.Update.aO.tmod 2)).2=0
  ·rw[if_neg (by simp[h0]),if_pos h0]
   unfold ql
   exact⟨_,rfl,⟨by simp only[e1];rfl,e2,e3,e4,e5,e6,e7,e8,by show -(p+1)≤w.par∧w.par≤p+1;omega⟩⟩
  ·rw[if_pos (by simpa using h0),if_neg h0]
   unfold ql
   exact⟨_,rfl,⟨by simp only[e1];rfl,e2,e3,e4,rfl,e6,e7,e8,by simp only;omega⟩⟩
 rw[if_neg (c:=(x.Kind==6)=true) (by simpa using k6),if_neg k6]
 by_cases k7:x.Kind=7
 ·rw[if_pos (by simp[k7]),if_pos k7]
  unfold ql
  have hw:aI (t.params-1)=w.par-1:=by rw[e5];exact bN (by omega) (by omega)
  exact⟨_,rfl,⟨e1,e2,e3,e4,hw,e6,by simp only[hw,e7],e8,by simp only;omega⟩⟩
 ·rw[if_neg (by simpa using k7),if_neg k7]
  unfold ql
  exact⟨_,rfl,(hR.more (Nat.le_refl _) (by omega):Rel n (p+1) w t)⟩
theorem Pe{n:Nat}{t:bD}{x:gD}{kk:Nat}(hI:MInv kk t.sides.1){S:Nat→List (List Int)}(hS:∀j,(S j).length≤n){i:Nat}(hi:i<t.sides.1.aj.length) :
 ∃S',(∀j,(S' j).length≤n)∧(OI FF t x { t with au:=S } (i:Int)=some (.next ({ t with au:=S' },((i+1:Nat):Int)))∨OI FF t x { t with au:=S } (i:Int)=some (.done (.inr { t with au:=S' }))):=by
 have hcl:=hI.qC
 unfold OI
 rw[if_pos (by simp[len];omega)]
 obtain⟨c,hc⟩:∃c,t.sides.1.aj[i]? = some c:=⟨_,gE hi⟩
 have hr:=(lY (hI.qE c (List.mem_of_getElem? hc))).2
 rw[bf hc,bs,mO,bs,qL hr,bs]
 have hw:aI ((i:Int)+1)=((i+1:Nat):Int):=wN i (by omega)
 simp only
 rcases(by cases S (64+(c.Remote%64).toNat)with
  | nil=>exact .inl rfl
  | cons b r=>exact .inr ⟨b,r,rfl⟩:S (64+(c.Remote%64).toNat)=[]∨∃b r,S (64+(c.Remote%64).toNat)=b::r)with hrow | ⟨b,r,hrow⟩
 ·simp only[hrow]
  rw[if_neg (by simp[len])]
  unfold q55
  exact⟨_,kI hS (64+(c.Remote%64).toNat) (l:=[]) (Nat.zero_le _),.inl (by rw[hw])⟩
 ·have hbr:=hS (64+(c.Remote%64).toNat)
  rw[hrow]at hbr
  simp only[hrow]
  by_cases hl:c.Local=x.aU
  ·rw[if_pos (by simp[hl,len] <;> omega),show idx (b::r) 0=some b from rfl,bs,show qk FF b x.Data=some (str b==str x.Data)from rfl,bs]
   by_cases hs:(str b==str x.Data)=true
   ·rw[if_pos hs,wF,bs]
    exact⟨_,kI hS (64+(c.Remote%64).toNat) (l:=r) (by rw[List.length_cons]at hbr;omega),.inr rfl⟩
   ·rw[if_neg hs]
    unfold q55
    exact⟨_,kI hS (64+(c.Remote%64).toNat) (l:=b::r) hbr,.inl (by rw[hw])⟩
  ·rw[if_neg (by simp[hl])]
   unfold q55
   exact⟨_,kI hS (64+(c.Remote%64).toNat) (l:=b::r) hbr,.inl (by rw[hw])⟩
theorem Gz{n:Nat}{t:bD}{x:gD}{kk:Nat}(hI:MInv kk t.sides.1)(hS:∀j,(t.au j).length≤n) :
 ∃S',(∀j,(S' j).length≤n)∧(iter (fun s=>OI FF t x s.1 s.2) FF (t,0)=some (.inl { t with au:=S' })∨iter (fun s=>OI FF t x s.1 s.2) FF (t,0)=some (.inr { t with au:=S' })):=by
 have hcl:=hI.qC
 have key:∀(d:Nat) (F:Nat) (S:Nat→List (List Int)) (i:Nat),(∀j,(S j).length≤n)→i+d=t.sides.1.aj.length→d<F→∃S',(∀j,(S' j).length≤n)∧(iter (fun s=>OI FF t x s.1 s.2) F ({ t with au:=S },(i:Int))=some (.inl { t with au:=S' })∨iter (fun s=>OI FF t x s.1 s.2) F ({ t with au:=S },(i:Int))=some (.inr { t with au:=S' })):=by
  intro d
  induction d with
  | zero=>
    intro F S i h1 h2 h3
    obtain⟨F,rfl⟩:∃G,F=G+1:=⟨F-1,by omega⟩
    refine⟨S,h1,.inl (aW ?_)⟩
    show OI FF t x { t with au:=S } (i:Int)=_
    unfold OI
    rw[if_neg (by simp[len];omega)]
  | succ d ih=>
    intro F S i h1 h2 h3
    obtain⟨F,rfl⟩:∃G,F=G+1:=⟨F-1,by omega⟩
    obtain⟨S1,g1,g2⟩:=Pe (x:=x) hI h1 (i:=i) (by omega)
    rcases g2 with g2 | g2
    ·obtain⟨S2,k1,k2⟩:=ih F S1 (i+1) g1 (by omega) (by omega)
     refine⟨S2,k1,?_⟩
     rw[bV g2]
     exact k2
    ·exact⟨S1,g1,.inr (aW g2)⟩
 exact key t.sides.1.aj.length FF t.au 0 hS (by omega) (by have:=FFk;omega)
theorem JF{n:Nat}{p:Int}{w:Wr}{t:bD}(h:Rel n p w t){kk:Nat}(hI:MInv kk (w.s false))(hk:kk≤900000000){x:gD}(h1:x.Kind=1→(∀y∈x.Data,Byte y)∧∀f∈w.f (!false),∀y∈f.Payload,Byte y)(hc:x.Kind=2∨x.Kind=5→64≤x.aU∧x.aU≤127)(hr:1000≤p)(hp:p≤1000000000000) :
 ∃t',q56 FF t x=some t'∧Rel n (p+1) (mK w false x) t':=by
 have hR:=h
 obtain⟨e1,e2,e3,e4,e5,e6,e7,e8,e9⟩:=h
 have es:t.sides.1=w.s false:=by rw[e1];rfl
 unfold q56 mK
 rw[mO,bs]
 by_cases k2:x.Kind=2
 ·rw[if_pos (by simp[k2]),if_pos k2,qL (hc (.inl k2)),bs]
  unfold qm
  refine⟨_,rfl,⟨e1,e2,e3,?_,e5,e6,e7,Hg e8 _,by simp only;omega⟩⟩
  rw[show slot false x.aU=(x.aU%64).toNat from by simp[slot]]
  simp only[e4]
 rw[if_neg (c:=(x.Kind==2)=true) (by simpa using k2),if_neg k2]
 by_cases k5:x.Kind=5
 ·rw[if_pos (by simp[k5]),if_pos k5,qL (hc (.inr k5)),bs]
  have hz:(if t.answer=true then some true else some (!t.connects ((x.aU%64).toNat)))=some (w.ans || !w.cn ((x.aU%64).toNat)):=by
   rw[e7,e4]
   cases w.ans <;> rfl
  rw[hz,bs,bs]
  unfold qm
  refine⟨_,rfl,⟨e1,e2,e3,?_,e5,e6,?_,e8,by simp only;omega⟩⟩
  ·rw[show slot false x.aU=(x.aU%64).toNat from by simp[slot]]
   simp only[e4]
  ·rw[show slot false x.aU=(x.aU%64).toNat from by simp[slot]]
 rw[if_neg (c:=(x.Kind==5)=true) (by simpa using k5),if_neg k5]
 by_cases k1:x.Kind=1
 ·rw[if_pos (by simp[k1]),if_pos k1]
  obtain⟨hb1,hb2⟩:=h1 k1
  have ef:t.fixed.2=w.f (!false):=by rw[e3];rfl
  cases hf:w.f (!false)with
  | nil=>
    rw[ef,hf,if_pos (by simp[len])]
    unfold YJ
    exact⟨_,if_pos rfl,⟨e1,e2,e3,e4,e5,rfl,e7,e8,by simp only;omega⟩⟩
  | cons f r=>
    rw[ef,hf,if_neg (by simp[len];omega),show idx (f::r) 0=some f from rfl,bs,bs]
    rw[hf]at hb2
    by_cases yI:f.aU=x.aU
    ·rw[if_neg (by simp[yI])]
     rw[show qk FF f.Payload x.Data=some (str f.Payload==str x.Data)from rfl,bs,nX hb1,nX (hb2 f (by simp))]
     unfold YJ
     by_cases hd:f.Payload=x.Data
     ·rw[if_neg (by simp[hd])]
      rw[ef,hf,wF,bs]
      unfold qm
      refine⟨_,rfl,?_⟩
      simp only
      rw[if_pos ⟨yI,hd⟩]
      exact⟨e1,e2,by simp only[e3];rfl,e4,e5,e6,e7,e8,by show -(p+1)≤w.par∧w.par≤p+1;omega⟩
     ·rw[if_pos (by simpa using hd)]
      refine⟨_,rfl,?_⟩
      simp only
      rw[if_neg (fun q=>hd q.2)]
      exact⟨e1,e2,e3,e4,e5,rfl,e7,e8,by simp only;omega⟩
    ·rw[if_pos (by simpa using yI)]
     unfold YJ
     refine⟨_,if_pos rfl,?_⟩
     simp only
     rw[if_neg (fun q=>yI q.1)]
     exact⟨e1,e2,e3,e4,e5,rfl,e7,e8,by simp only;omega⟩
 rw[if_neg (c:=(x.Kind==1)=true) (by simpa using k1),if_neg k1]
 by_cases k3:x.Kind=3
 ·rw[if_pos (by simp[k3]),if_pos k3]
  obtain⟨S',g1,g2⟩:=Gz (x:=x) (t:=t) (by rw[es];exact hI) e8
  have key:∀(w':Wr) (d:Bool),(w'.s0=w.s0∧w'.s1=w.s1∧w'.a0=w.a0∧w'.a1=w.a1∧w'.f0=w.f0∧w'.f1=w.f1∧w'.cn=w.cn∧w'.par=w.par∧w'.ng=w.ng∧w'.ans=w.ans)→Rel n (p+1) w' { t with au:=S',data:=d }:=fun w' d h0=>(hR.sd h0 g1 d).more (Nat.le_refl _) (by omega)
  rcases g2 with g2 | g2
  ·rw[g2,bs]
   refine⟨_,rfl,key _ true ?_⟩
   split <;> exact⟨rfl,rfl,rfl,rfl,rfl,rfl,rfl,rfl,rfl,rfl⟩
  ·rw[g2,bs]
   refine⟨_,rfl,key _ t.data ?_⟩
   split <;> exact⟨rfl,rfl,rfl,rfl,rfl,rfl,rfl,rfl,rfl,rfl⟩
 rw[if_neg (c:=(x.Kind==3)=true) (by simpa using k3),if_neg k3]
 by_cases k6:x.Kind=6
 ·rw[if_pos (by simp[k6]),if_pos k6,es,(z8 hI hk x.ID _).1,bs]
  unfold q7t q7s
  rw[show gI x.Update.aO 2=x.Update.aO.tmod 2 from rfl]
  by_cases h0:(tu (w.s false) x.ID (x.Update.aO.tmod 2)).2=0
  ·rw[if_neg (by simp[h0]),if_pos h0]
   unfold qm
   exact⟨_,rfl,⟨by simp only[e1];rfl,e2,e3,e4,e5,e6,e7,e8,by show -(p+1)≤w.par∧w.par≤p+1;omega⟩⟩
  ·rw[if_pos (by simpa using h0),if_neg h0]
   unfold qm
   exact⟨_,rfl,⟨by simp only[e1];rfl,e2,e3,e4,rfl,e6,e7,e8,by simp only;omega⟩⟩
 rw[if_neg (c:=(x.Kind==6)=true) (by simpa using k6),if_neg k6]
 by_cases k7:x.Kind=7
 ·rw[if_pos (by simp[k7]),if_pos k7]
  unfold qm
  have hw:aI (t.params-1)=w.par-1:=by rw[e5];exact bN (by omega) (by omega)
  exact⟨_,rfl,⟨e1,e2,e3,e4,hw,e6,by simp only[hw,e7],e8,by simp only;omega⟩⟩
 ·rw[if_neg (by simpa using k7),if_neg k7]
  unfold qm
  exact⟨_,rfl,(hR.more (Nat.le_refl _) (by omega):Rel n (p+1) w t)⟩
end Sy
end V
namespace V
namespace Sy
open St Po
theorem RO{L:Bool→List bM}{r:Bool→Nat}{w:Wr}(hO:Ord L r w)(k:Bool){p:eT}{ps:List eT}(ha:w.a k=p::ps)(hf:(w.s (!k)).Out.length≤800000000) :
 qq FF (w.s (!k)) p=some (yH (w.s (!k)) p)∧(yH (w.s (!k)) p).2.length≤1∧(∃q,q≤800000001∧MInv q (yH (w.s (!k)) p).1)∧(∀f∈w.f k,∀y∈f.Payload,Byte y)∧∀x∈(yH (w.s (!k)) p).2,(x.Kind=1→∀y∈x.Data,Byte y)∧(x.Kind=2∨x.Kind=5→64≤x.aU∧x.aU≤127):=by
 have hW:=hO.way k
 have hS:=hO.side (!k)
 have hfl:=hW.flow
 rw[ha]at hfl
 have hgood:∀f∈L k,Good f:=fun f hq=>(hW.good f hq).1
 obtain⟨_,hb,hl⟩:=IV hfl hgood
 obtain⟨hin,hm,hlen⟩:=IG hS.inv (by omega) hb hl
 have hval:=Fr.BD hS.inv.asm hb
 refine⟨hin,hlen,⟨_,by omega,hm⟩,fun f hq y hy=>?_,?_⟩
 ·rw[← hW.fix,List.mem_filter]at hq
  exact(hgood f hq.1).xZ y hy
 ·rw[hW.asm]at hval
  unfold yH
  rw[hW.asm]
  rcases xV hfl hgood with⟨f,rest,hL,U5,_⟩ | ⟨u,U5,_⟩
  ·rw[U5]at hval ⊢
   have hgf:=hW.good f (by rw[hL];simp)
   have hI:=hS.inv.iY hval
   have ht:=MK hI hgf.2
   intro x hx
   refine⟨fun hk y hy=>?_,fun hk=>ht.2.2 x hx hk⟩
   by_cases hfix:jP f=true
   ·have hc:f.aU=4∨f.aU=6:=by unfold jP at hfix;simpa using hfix
    simp only[kC,if_pos hc,List.mem_singleton]at hx
    subst hx
    exact hgf.1.xZ y hy
   ·exact absurd hk (QU _ hgf.2 (by simpa using hfix) x hx).1
  ·rw[U5]
   exact fun x hx=>by simp at hx
structure Xv(t c:bD):Prop where
 sides:c.sides.2=t.sides.2
 aK:c.aK.2=t.aK.2
 rest:c.fixed=t.fixed∧c.params=t.params∧c.frame=t.frame∧c.answer=t.answer
theorem C9{nn:Nat}{p:Int}{r:Bool→Nat}{t:bD}:∀(n F:Nat) (w:Wr) (c:bD) (y:Bool) (L:Bool→List bM),n<F→n<1000000000→Ord L r w→phi L w≤100000000→oI L w≤1000000000→Rel nn p w c→Xv t c→
 ∃c',Rel nn p (dQ n w false y).1 c'∧(iter (fun s=>Ws FF t s.1 s.2.1 s.2.2) F (c,(n:Int),y)=some (.inl (c',(dQ n w false y).2))∨iter (fun s=>Ws FF t s.1 s.2.1 s.2.2) F (c,(n:Int),y)=some (.inr ((dQ n w false y).2,c')))∧Xv t c'
 | 0,F,w,c,y,L,hF,_,_,_,_,hR,hA=>by
   obtain⟨F,rfl⟩:∃G,F=G+1:=⟨F-1,by omega⟩
   obtain⟨a1,a2,a3,a4,a5,a6⟩:=hA
   have e:Ws FF t c ((0:Nat):Int) y=some (.done (.inl ({ t with sides:=(c.sides.1,t.sides.2),aK:=(c.aK.1,t.aK.2),au:=c.au,connects:=c.connects },y))):=if_neg (by simp)
   refine⟨{ t with sides:=(c.sides.1,t.sides.2),aK:=(c.aK.1,t.aK.2),au:=c.au,connects:=c.connects },⟨?_,?_,a3▸hR.fixed,hR.cn,a4▸hR.par,a5▸hR.ng,a6▸hR.ans,hR.rows,hR.rng⟩,.inl (aW e),⟨rfl,rfl,rfl,rfl,rfl,rfl⟩⟩
   ·have:=hR.sides
    simp only[← a1]
    exact this
   ·have:=hR.aK
    simp only[← a2]
    exact this
 | n+1,F,w,c,y,L,hF,hn,hO,hp,hm,hR,hA=>by
   obtain⟨F,rfl⟩:∃G,F=G+1:=⟨F-1,by omega⟩
   have hf:=hO.few false
   obtain⟨L0,c1,c2,_⟩:=hO.pre false (by omega)
   have hf2:=c1.few false
   rw[(kU w false _).1]at hf2
   obtain⟨L1,q1,_,q3,q4⟩:=hO.dY false (by omega) (by omega)
   have hout:=(Dn (hO.side false).inv (by omega)).1
   have es:c.sides.1=w.s false:=by rw[hR.sides];rfl
   have ea:c.aK.1=w.a false:=by rw[hR.aK];rfl
   have e1:=nO w false
   have e2:=nO (Sy.dY w false).1 false
   have hlen:(w.a false).length≤1000000000:=by unfold oI at hm;omega
   obtain⟨a1,a2,a3,a4,a5,a6⟩:=hA
   have hb:∀o,q5t FF t c ((n+1:Nat):Int) y (iC (w.s false))=some o→Ws FF t c ((n+1:Nat):Int) y=some o:=fun o ho=>by
    unfold Ws
    rw[if_pos (by simp <;> omega),es,hout,bs]
    exact ho
   have hw:aI (((n+1:Nat):Int)-1)=(n:Int):=by rw[bN (by omega) (by omega)];omega
   unfold dQ
   rcases q4 with⟨t1,t2,t3⟩ | ⟨t1,t2,t3,t4⟩
   ·rw[if_pos t1]
    rw[q3,t3]at e2
    have ht:(iC (w.s false)).2.2=true:=by
     unfold Sy.dY at t1
     split at t1
     ·assumption
     ·cases t1
    have hs1:(Sy.dY w false).1=(w.dK false (iC (w.s false)).1).jK false (w.a false++[(iC (w.s false)).2.1]):=by unfold Sy.dY;rw[if_pos ht]
    have hj:=hb (.next ({ t with sides:=((iC (w.s false)).1,t.sides.2),aK:=(w.a false++[(iC (w.s false)).2.1],t.aK.2),au:=c.au,connects:=c.connects },(n:Int),true)) (by
     unfold q5t
     rw[if_neg (by simp[ht]),ea,dP (by simp;omega) (by omega),bs,hw])
    have Va:Rel nn p (Sy.dY w false).1 ({ t with sides:=((iC (w.s false)).1,t.sides.2),aK:=(w.a false++[(iC (w.s false)).2.1],t.aK.2),au:=c.au,connects:=c.connects }):=by
     rw[hs1]
     refine⟨?_,?_,a3▸hR.fixed,hR.cn,a4▸hR.par,a5▸hR.ng,a6▸hR.ans,hR.rows,hR.rng⟩
     ·have:=hR.sides
      simp only[← a1,this]
      rfl
     ·have:=hR.aK
      simp only[← a2,this]
      rfl
    obtain⟨c',g1,g2,g3⟩:=C9 (t:=t) n F (Sy.dY w false).1 ({ t with sides:=((iC (w.s false)).1,t.sides.2),aK:=(w.a false++[(iC (w.s false)).2.1],t.aK.2),au:=c.au,connects:=c.connects }) true L1 (by omega) (by omega) q1 (by omega) (by unfold oI at hm ⊢;omega) Va ⟨rfl,rfl,rfl,rfl,rfl,rfl⟩
    refine⟨c',g1,?_,g3⟩
    rw[bV hj]
    exact g2
   ·rw[if_neg (by rw[t1];simp)]
    have ht:(iC (w.s false)).2.2=false:=by
     cases hq:(iC (w.s false)).2.2 with
     | false=>rfl
     | true=>exact absurd t1 (by unfold Sy.dY;rw[if_pos hq];simp)
    have hs1:(Sy.dY w false).1=w.dK false (iC (w.s false)).1:=by unfold Sy.dY;rw[if_neg (by simp[ht])]
    have hj:=hb (.done (.inr (y,{ t with sides:=((iC (w.s false)).1,t.sides.2),aK:=(c.aK.1,t.aK.2),au:=c.au,connects:=c.connects }))) (by
     unfold q5t
     rw[if_pos (by simp[ht])])
    refine⟨{ t with sides:=((iC (w.s false)).1,t.sides.2),aK:=(c.aK.1,t.aK.2),au:=c.au,connects:=c.connects },?_,.inr (aW hj),⟨rfl,rfl,rfl,rfl,rfl,rfl⟩⟩
    simp only
    rw[hs1]
    refine⟨?_,?_,a3▸hR.fixed,hR.cn,a4▸hR.par,a5▸hR.ng,a6▸hR.ans,hR.rows,hR.rng⟩
    ·have:=hR.sides
     simp only[← a1,this]
     rfl
    ·have:=hR.aK
     simp only[← a2,this]
     rfl
theorem zR{nn:Nat}{p:Int}{r:Bool→Nat}{L:Bool→List bM}{w:Wr}{t:bD}{n:Nat}(hn:n<1000000000)(hO:Ord L r w)(hp:phi L w≤100000000)(hm:oI L w≤1000000000)(hR:Rel nn p w t) :
 ∃c',Rel nn p (dQ n w false false).1 c'∧q36 FF t (n:Int)=some ((dQ n w false false).2,c'):=by
 obtain⟨c',g1,g2,a1,a2,a3,a4,a5,a6⟩:=C9 (t:=t) n FF w t false L (by have:=FFk;have:=ff;omega) hn hO hp hm hR ⟨rfl,rfl,rfl,rfl,rfl,rfl⟩
 unfold q36
 rcases g2 with g2 | g2
 ·rw[g2,bs]
  refine⟨{ t with sides:=(c'.sides.1,t.sides.2),aK:=(c'.aK.1,t.aK.2),au:=c'.au,connects:=c'.connects },⟨?_,?_,a3▸g1.fixed,g1.cn,a4▸g1.par,a5▸g1.ng,a6▸g1.ans,g1.rows,g1.rng⟩,rfl⟩
  ·have:=g1.sides
   simp only[← a1]
   exact this
  ·have:=g1.aK
   simp only[← a2]
   exact this
 ·rw[g2,bs]
  exact⟨c',g1,rfl⟩
theorem Jg{nn:Nat}:∀(n F:Nat) (p:Int) (w:Wr) (c:bD) (L:Bool→List bM) (r:Bool→Nat),n<F→n<1000000000→Ord L r w→phi L w≤100000000→Rel nn p w c→1000≤p→p+n≤1000000000000→
 ∃c',Rel nn (p+n) (bT n w false) c'∧iter (fun s=>Wq FF s.1 s.2) F (c,(n:Int))=some c'
 | 0,F,p,w,c,L,r,hF,_,_,_,hR,_,_=>by
   obtain⟨F,rfl⟩:∃G,F=G+1:=⟨F-1,by omega⟩
   exact⟨c,hR.more (Nat.le_refl _) (by omega),aW (show Wq FF c ((0:Nat):Int)=_ from if_neg (by simp))⟩
 | n+1,F,p,w,c,L,r,hF,hn,hO,hp,hR,IQ,hpn=>by
   obtain⟨F,rfl⟩:∃G,F=G+1:=⟨F-1,by omega⟩
   have ea:c.aK.1=w.a false:=by rw[hR.aK];rfl
   have es:c.sides.2=w.s (!false):=by rw[hR.sides];rfl
   unfold bT
   cases ha:w.a false with
   | nil=>
     refine⟨c,hR.more (Nat.le_refl _) (by omega),aW (show Wq FF c ((n+1:Nat):Int)=_ from if_neg ?_)⟩
     rw[ea,ha]
     simp[len]
   | cons q qs=>
     simp only
     have hf:=hO.few (!false)
     obtain⟨hin,hlen,⟨kq,hkq,hmI⟩,hfb,hev⟩:=RO hO false ha (by omega)
     obtain⟨L1,r1,q1,q2,_,_⟩:=hO.arr false ha (by omega)
     have hw:aI (((n+1:Nat):Int)-1)=(n:Int):=by rw[bN (by omega) (by omega)];omega
     have hR0:Rel nn p ((w.jK false qs).dK (!false) (yH (w.s (!false)) q).1) ({ c with sides:=(c.sides.1,(yH (w.s (!false)) q).1),aK:=(qs,c.aK.2) }):=by
      refine⟨?_,?_,hR.fixed,hR.cn,hR.par,hR.ng,hR.ans,hR.rows,hR.rng⟩
      ·have:=hR.sides
       simp only[this]
       rfl
      ·have:=hR.aK
       simp only[this]
       rfl
     have hone:∃c1,Rel nn (p+1) (mH w false q qs) c1∧iter (fun s=>OJ FF (yH (w.s (!false)) q).2 s.1 s.2) FF ({ c with sides:=(c.sides.1,(yH (w.s (!false)) q).1),aK:=(qs,c.aK.2) },0)=some c1:=by
      unfold mH
      obtain⟨G,hG⟩:∃G,FF=G+2:=⟨FF-2,by have:=ff;omega⟩
      match hes:(yH (w.s (!false)) q).2,hlen with
      | [],_=>
        refine⟨_,hR0.more (Nat.le_refl _) (by omega),?_⟩
        rw[show iter (fun s=>OJ FF [] s.1 s.2) FF=iter (fun s=>OJ FF [] s.1 s.2) (G+1+1)from by rw[hG]]
        exact aW (show OJ FF [] _ 0=_ from if_neg (by simp[len]))
      | [x],_=>
        rw[hes]at hev
        have hx:=hev x (by simp)
        obtain⟨c1,g1,g2⟩:=JE hR0 (x:=x) (kk:=kq) hmI (by omega) (fun hk=>⟨hx.1 hk,hfb⟩) hx.2 IQ (by omega)
        refine⟨c1,g2,?_⟩
        rw[show iter (fun s=>OJ FF [x] s.1 s.2) FF=iter (fun s=>OJ FF [x] s.1 s.2) (G+1+1)from by rw[hG]]
        rw[bV (s':=(c1,1)) (show OJ FF [x] _ 0=_ from by
         unfold OJ
         rw[if_pos (by simp[len]),show idx [x] 0=some x from rfl,bs,g1,bs]
         rfl)]
        exact aW (show OJ FF [x] c1 1=_ from if_neg (by simp[len]))
     obtain⟨c1,g1,g2⟩:=hone
     obtain⟨c',k1,k2⟩:=Jg n F (p+1) (mH w false q qs) c1 L1 r1 (by omega) (by omega) q1 (by omega) g1 (by omega) (by omega)
     refine⟨c',k1.more (Nat.le_refl _) (by omega),?_⟩
     rw[bV (s':=(c1,(n:Int))) (show Wq FF c ((n+1:Nat):Int)=_ from by
      unfold Wq
      rw[ea,ha,es,if_pos (by simp[len] <;> omega),show idx (q::qs) 0=some q from rfl,bs,bs,hin,bs]
      unfold q7r q7q q7p q7o
      rw[ea,ha,wF,bs,g2,bs,hw])]
     exact k2
theorem vN{nn:Nat}{p:Int}{r:Bool→Nat}{L:Bool→List bM}{w:Wr}{t:bD}{n:Nat}(hn:n<1000000000)(hO:Ord L r w)(hp:phi L w≤100000000)(hR:Rel nn p w t)(h1:1000≤p)(h2:p+n≤1000000000000) :
 ∃c',Rel nn (p+n) (bT n w false) c'∧q38 FF t (n:Int)=some c':=by
 obtain⟨c',g1,g2⟩:=Jg n FF p w t L r (by have:=ff;omega) hn hO hp hR h1 h2
 unfold q38
 rw[g2,bs]
 exact⟨c',g1,rfl⟩
structure Xu(t c:bD):Prop where
 sides:c.sides.1=t.sides.1
 aK:c.aK.1=t.aK.1
 rest:c.fixed=t.fixed∧c.params=t.params∧c.frame=t.frame∧c.answer=t.answer
theorem C8{nn:Nat}{p:Int}{r:Bool→Nat}{t:bD}:∀(n F:Nat) (w:Wr) (c:bD) (y:Bool) (L:Bool→List bM),n<F→n<1000000000→Ord L r w→phi L w≤100000000→oI L w≤1000000000→Rel nn p w c→Xu t c→
 ∃c',Rel nn p (dQ n w true y).1 c'∧(iter (fun s=>Wp FF t s.1 s.2.1 s.2.2) F (c,(n:Int),y)=some (.inl (c',(dQ n w true y).2))∨iter (fun s=>Wp FF t s.1 s.2.1 s.2.2) F (c,(n:Int),y)=some (.inr ((dQ n w true y).2,c')))∧Xu t c'
 | 0,F,w,c,y,L,hF,_,_,_,_,hR,hA=>by
   obtain⟨F,rfl⟩:∃G,F=G+1:=⟨F-1,by omega⟩
   obtain⟨a1,a2,a3,a4,a5,a6⟩:=hA
   have e:Wp FF t c ((0:Nat):Int) y=some (.done (.inl ({ t with sides:=(t.sides.1,c.sides.2),aK:=(t.aK.1,c.aK.2),au:=c.au,connects:=c.connects },y))):=if_neg (by simp)
   refine⟨{ t with sides:=(t.sides.1,c.sides.2),aK:=(t.aK.1,c.aK.2),au:=c.au,connects:=c.connects },⟨?_,?_,a3▸hR.fixed,hR.cn,a4▸hR.par,a5▸hR.ng,a6▸hR.ans,hR.rows,hR.rng⟩,.inl (aW e),⟨rfl,rfl,rfl,rfl,rfl,rfl⟩⟩
   ·have:=hR.sides
    simp only[← a1]
    exact this
   ·have:=hR.aK
    simp only[← a2]
    exact this
 | n+1,F,w,c,y,L,hF,hn,hO,hp,hm,hR,hA=>by
   obtain⟨F,rfl⟩:∃G,F=G+1:=⟨F-1,by omega⟩
   have hf:=hO.few true
   obtain⟨L0,c1,c2,_⟩:=hO.pre true (by omega)
   have hf2:=c1.few true
   rw[(kU w true _).1]at hf2
   obtain⟨L1,q1,_,q3,q4⟩:=hO.dY true (by omega) (by omega)
   have hout:=(Dn (hO.side true).inv (by omega)).1
   have es:c.sides.2=w.s true:=by rw[hR.sides];rfl
   have ea:c.aK.2=w.a true:=by rw[hR.aK];rfl
   have e1:=nO w true
   have e2:=nO (Sy.dY w true).1 true
   have hlen:(w.a true).length≤1000000000:=by unfold oI at hm;omega
   obtain⟨a1,a2,a3,a4,a5,a6⟩:=hA
   have hb:∀o,q5u FF t c ((n+1:Nat):Int) y (iC (w.s true))=some o→Wp FF t c ((n+1:Nat):Int) y=some o:=fun o ho=>by
    unfold Wp
    rw[if_pos (by simp <;> omega),es,hout,bs]
    exact ho
   have hw:aI (((n+1:Nat):Int)-1)=(n:Int):=by rw[bN (by omega) (by omega)];omega
   unfold dQ
   rcases q4 with⟨t1,t2,t3⟩ | ⟨t1,t2,t3,t4⟩
   ·rw[if_pos t1]
    rw[q3,t3]at e2
    have ht:(iC (w.s true)).2.2=true:=by
     unfold Sy.dY at t1
     split at t1
     ·assumption
     ·cases t1
    have hs1:(Sy.dY w true).1=(w.dK true (iC (w.s true)).1).jK true (w.a true++[(iC (w.s true)).2.1]):=by unfold Sy.dY;rw[if_pos ht]
    have hj:=hb (.next ({ t with sides:=(t.sides.1,(iC (w.s true)).1),aK:=(t.aK.1,w.a true++[(iC (w.s true)).2.1]),au:=c.au,connects:=c.connects },(n:Int),true)) (by
     unfold q5u
     rw[if_neg (by simp[ht]),ea,dP (by simp;omega) (by omega),bs,hw])
    have Va:Rel nn p (Sy.dY w true).1 ({ t with sides:=(t.sides.1,(iC (w.s true)).1),aK:=(t.aK.1,w.a true++[(iC (w.s true)).2.1]),au:=c.au,connects:=c.connects }):=by
     rw[hs1]
     refine⟨?_,?_,a3▸hR.fixed,hR.cn,a4▸hR.par,a5▸hR.ng,a6▸hR.ans,hR.rows,hR.rng⟩
     ·have:=hR.sides
      simp only[← a1,this]
      rfl
     ·have:=hR.aK
      simp only[← a2,this]
      rfl
    obtain⟨c',g1,g2,g3⟩:=C8 (t:=t) n F (Sy.dY w true).1 ({ t with sides:=(t.sides.1,(iC (w.s true)).1),aK:=(t.aK.1,w.a true++[(iC (w.s true)).2.1]),au:=c.au,connects:=c.connects }) true L1 (by omega) (by omega) q1 (by omega) (by unfold oI at hm ⊢;omega) Va ⟨rfl,rfl,rfl,rfl,rfl,rfl⟩
    refine⟨c',g1,?_,g3⟩
    rw[bV hj]
    exact g2
   ·rw[if_neg (by rw[t1];simp)]
    have ht:(iC (w.s true)).2.2=false:=by
     cases hq:(iC (w.s true)).2.2 with
     | false=>rfl
     | true=>exact absurd t1 (by unfold Sy.dY;rw[if_pos hq];simp)
    have hs1:(Sy.dY w true).1=w.dK true (iC (w.s true)).1:=by unfold Sy.dY;rw[if_neg (by simp[ht])]
    have hj:=hb (.done (.inr (y,{ t with sides:=(t.sides.1,(iC (w.s true)).1),aK:=(t.aK.1,c.aK.2),au:=c.au,connects:=c.connects }))) (by
     unfold q5u
     rw[if_pos (by simp[ht])])
    refine⟨{ t with sides:=(t.sides.1,(iC (w.s true)).1),aK:=(t.aK.1,c.aK.2),au:=c.au,connects:=c.connects },?_,.inr (aW hj),⟨rfl,rfl,rfl,rfl,rfl,rfl⟩⟩
    simp only
    rw[hs1]
    refine⟨?_,?_,a3▸hR.fixed,hR.cn,a4▸hR.par,a5▸hR.ng,a6▸hR.ans,hR.rows,hR.rng⟩
    ·have:=hR.sides
     simp only[← a1,this]
     rfl
    ·have:=hR.aK
     simp only[← a2,this]
     rfl
theorem zQ{nn:Nat}{p:Int}{r:Bool→Nat}{L:Bool→List bM}{w:Wr}{t:bD}{n:Nat}(hn:n<1000000000)(hO:Ord L r w)(hp:phi L w≤100000000)(hm:oI L w≤1000000000)(hR:Rel nn p w t) :
 ∃c',Rel nn p (dQ n w true false).1 c'∧q3b FF t (n:Int)=some ((dQ n w true false).2,c'):=by
 obtain⟨c',g1,g2,a1,a2,a3,a4,a5,a6⟩:=C8 (t:=t) n FF w t false L (by have:=FFk;have:=ff;omega) hn hO hp hm hR ⟨rfl,rfl,rfl,rfl,rfl,rfl⟩
 unfold q3b
 rcases g2 with g2 | g2
 ·rw[g2,bs]
  refine⟨{ t with sides:=(t.sides.1,c'.sides.2),aK:=(t.aK.1,c'.aK.2),au:=c'.au,connects:=c'.connects },⟨?_,?_,a3▸g1.fixed,g1.cn,a4▸g1.par,a5▸g1.ng,a6▸g1.ans,g1.rows,g1.rng⟩,rfl⟩
  ·have:=g1.sides
   simp only[← a1]
   exact this
  ·have:=g1.aK
   simp only[← a2]
   exact this
 ·rw[g2,bs]
  exact⟨c',g1,rfl⟩
theorem Jf{nn:Nat}:∀(n F:Nat) (p:Int) (w:Wr) (c:bD) (L:Bool→List bM) (r:Bool→Nat),n<F→n<1000000000→Ord L r w→phi L w≤100000000→Rel nn p w c→1000≤p→p+n≤1000000000000→
 ∃c',Rel nn (p+n) (bT n w true) c'∧iter (fun s=>Wo FF s.1 s.2) F (c,(n:Int))=some c'
 | 0,F,p,w,c,L,r,hF,_,_,_,hR,_,_=>by
   obtain⟨F,rfl⟩:∃G,F=G+1:=⟨F-1,by omega⟩
   exact⟨c,hR.more (Nat.le_refl _) (by omega),aW (show Wo FF c ((0:Nat):Int)=_ from if_neg (by simp))⟩
 | n+1,F,p,w,c,L,r,hF,hn,hO,hp,hR,IQ,hpn=>by
   obtain⟨F,rfl⟩:∃G,F=G+1:=⟨F-1,by omega⟩
   have ea:c.aK.2=w.a true:=by rw[hR.aK];rfl
   have es:c.sides.1=w.s (!true):=by rw[hR.sides];rfl
   unfold bT
   cases ha:w.a true with
   | nil=>
     refine⟨c,hR.more (Nat.le_refl _) (by omega),aW (show Wo FF c ((n+1:Nat):Int)=_ from if_neg ?_)⟩
     rw[ea,ha]
     simp[len]
   | cons q qs=>
     simp only
     have hf:=hO.few (!true)
     obtain⟨hin,hlen,⟨kq,hkq,hmI⟩,hfb,hev⟩:=RO hO true ha (by omega)
     obtain⟨L1,r1,q1,q2,_,_⟩:=hO.arr true ha (by omega)
     have hw:aI (((n+1:Nat):Int)-1)=(n:Int):=by rw[bN (by omega) (by omega)];omega
     have hR0:Rel nn p ((w.jK true qs).dK (!true) (yH (w.s (!true)) q).1) ({ c with sides:=((yH (w.s (!true)) q).1,c.sides.2),aK:=(c.aK.1,qs) }):=by
      refine⟨?_,?_,hR.fixed,hR.cn,hR.par,hR.ng,hR.ans,hR.rows,hR.rng⟩
      ·have:=hR.sides
       simp only[this]
       rfl
      ·have:=hR.aK
       simp only[this]
       rfl
     have hone:∃c1,Rel nn (p+1) (mH w true q qs) c1∧iter (fun s=>OH FF (yH (w.s (!true)) q).2 s.1 s.2) FF ({ c with sides:=((yH (w.s (!true)) q).1,c.sides.2),aK:=(c.aK.1,qs) },0)=some c1:=by
      unfold mH
      obtain⟨G,hG⟩:∃G,FF=G+2:=⟨FF-2,by have:=ff;omega⟩
      match hes:(yH (w.s (!true)) q).2,hlen with
      | [],_=>
        refine⟨_,hR0.more (Nat.le_refl _) (by omega),?_⟩
        rw[show iter (fun s=>OH FF [] s.1 s.2) FF=iter (fun s=>OH FF [] s.1 s.2) (G+1+1)from by rw[hG]]
        exact aW (show OH FF [] _ 0=_ from if_neg (by simp[len]))
      | [x],_=>
        rw[hes]at hev
        have hx:=hev x (by simp)
        obtain⟨c1,g1,g2⟩:=JF hR0 (x:=x) (kk:=kq) hmI (by omega) (fun hk=>⟨hx.1 hk,hfb⟩) hx.2 IQ (by omega)
        refine⟨c1,g2,?_⟩
        rw[show iter (fun s=>OH FF [x] s.1 s.2) FF=iter (fun s=>OH FF [x] s.1 s.2) (G+1+1)from by rw[hG]]
        rw[bV (s':=(c1,1)) (show OH FF [x] _ 0=_ from by
         unfold OH
         rw[if_pos (by simp[len]),show idx [x] 0=some x from rfl,bs,g1,bs]
         rfl)]
        exact aW (show OH FF [x] c1 1=_ from if_neg (by simp[len]))
     obtain⟨c1,g1,g2⟩:=hone
     obtain⟨c',k1,k2⟩:=Jf n F (p+1) (mH w true q qs) c1 L1 r1 (by omega) (by omega) q1 (by omega) g1 (by omega) (by omega)
     refine⟨c',k1.more (Nat.le_refl _) (by omega),?_⟩
     rw[bV (s':=(c1,(n:Int))) (show Wo FF c ((n+1:Nat):Int)=_ from by
      unfold Wo
      rw[ea,ha,es,if_pos (by simp[len] <;> omega),show idx (q::qs) 0=some q from rfl,bs,bs,hin,bs]
      unfold q7x q7w q7v q7u
      rw[ea,ha,wF,bs,g2,bs,hw])]
     exact k2
theorem vM{nn:Nat}{p:Int}{r:Bool→Nat}{L:Bool→List bM}{w:Wr}{t:bD}{n:Nat}(hn:n<1000000000)(hO:Ord L r w)(hp:phi L w≤100000000)(hR:Rel nn p w t)(h1:1000≤p)(h2:p+n≤1000000000000) :
 ∃c',Rel nn (p+n) (bT n w true) c'∧q3d FF t (n:Int)=some c':=by
 obtain⟨c',g1,g2⟩:=Jf n FF p w t L r (by have:=ff;omega) hn hO hp hR h1 h2
 unfold q3d
 rw[g2,bs]
 exact⟨c',g1,rfl⟩
end Sy
end V
namespace V
namespace Sy
open St Po
def iG(x:D5):Ac:=⟨x.Side,x.Kind,x.N,x.bU,x.aU,x.bZ,x.cu,x.aA,x.Bytes,x.Update⟩
structure SS(x:D5):Prop where
 side:0≤x.Side
 n:0≤x.N∧x.N≤255
 lG:0≤x.aU
 ok:V3 (iG x)
def FL(n:Nat)(w:Wr):Prop:=∀k,(w.f k).length≤n
theorem Tv(w:Wr)(k:Bool)(x:gD)(j:Bool):((mK w k x).f j).length≤(w.f j).length:=by
 unfold mK
 split
 ·exact Nat.le_refl _
 split
 ·exact Nat.le_refl _
 split
 ·split
  ·rename_i f r hf
   split
   ·rcases gT j (!k)with hj | hj
    ·rw[hj,(wZ w (!k) r).1,hf]
     simp
    ·have:=(wZ w (!k) r).2
     rw[hj,this]
     exact Nat.le_refl _
   ·exact Nat.le_refl _
  ·exact Nat.le_refl _
 split
 ·split <;> exact Nat.le_refl _
 split
 ·split
  ·rw[(dX w k j _).2];exact Nat.le_refl _
  ·show((w.dK k _).f j).length≤_
   rw[(dX w k j _).2];exact Nat.le_refl _
 split <;> exact Nat.le_refl _
theorem K5(k j:Bool):∀(n:Nat) (w:Wr) (y:Bool),((dQ n w k y).1.f j)=w.f j
 | 0,_,_=>rfl
 | n+1,w,y=>by
   have h1:(Sy.dY w k).1.f j=w.f j:=by
    unfold Sy.dY
    split
    ·rw[(jw _ k j _).2,(dX w k j _).2]
    ·exact(dX w k j _).2
   unfold dQ
   split
   ·rw[K5 k j n,h1]
   ·exact h1
theorem RN(k j:Bool):∀(n:Nat) (w:Wr),((bT n w k).f j).length≤(w.f j).length
 | 0,_=>Nat.le_refl _
 | n+1,w=>by
   have h2:∀(es:List gD) (w:Wr),((es.foldl (fun w x=>mK w (!k) x) w).f j).length≤(w.f j).length:=by
    intro es
    induction es with
    | nil=>intro w;exact Nat.le_refl _
    | cons x es ih=>intro w;exact Nat.le_trans (ih _) (Tv w (!k) x j)
   unfold bT
   split
   ·exact Nat.le_refl _
   ·rename_i p r _
    refine Nat.le_trans (RN k j n _) ?_
    unfold mH
    refine Nat.le_trans (h2 _ _) ?_
    rw[(dX _ (!k) j _).2,(jw w k j r).2]
    exact Nat.le_refl _
theorem I9{k:Nat}{m:aL}(h:MInv k m)(psm sP mps cr:Int)(h0:(iE m psm sP mps cr).2.2=0):64≤(iE m psm sP mps cr).2.1∧(iE m psm sP mps cr).2.1≤127:=by
 unfold iE at h0 ⊢
 split at h0
 ·cases h0
 split at h0
 ·cases h0
 split at h0
 ·cases h0
 rename_i h1 h2 h3
 rw[if_neg h1,if_neg h2,if_neg h3]
 obtain⟨v,_,f2,_,f4,f5⟩:=kD (m:=m) (by omega)
 simp only
 rw[f2]
 exact⟨f4,f5⟩
theorem Sq{nn:Nat}{p:Int}{r:Bool→Nat}{L:Bool→List bM}{w:Wr}{t:bD}{x:D5}(hs:x.Side%2=0)(hx:SS x)(hO:Ord L r w)(hp:phi L w≤100000000)(hm:oI L w≤1000000000)(hR:Rel nn p w t)(hF:FL nn w)(hn:nn≤1000)(h1:1000≤p)(h2:p≤1000000000) :
 ∃t',YO FF t x=some t'∧Rel (nn+1) (p+256) (nP w (iG x)) t':=by
 obtain⟨x1,x2,x3,x4⟩:=hx
 have hsd:bE (iG x)=false:=by
  show decide (x.Side%2=1)=false
  rw[hs];rfl
 have hrm:aI (gI x.Side 2)=0:=by
  have:gI x.Side 2=x.Side%2:=by unfold gI;rw[Int.tmod_eq_emod_of_nonneg x1]
  rw[this,hs];rfl
 have hN:aI x.N=x.N:=bN (by omega) (by omega)
 have hNn:(x.N.toNat:Int)=x.N:=Int.toNat_of_nonneg x2.1
 have hf:=hO.few false
 have hI:=(hO.side false).inv
 have es:t.sides.1=w.s false:=by rw[hR.sides];rfl
 have ef:t.fixed.1=w.f false:=by rw[hR.fixed];rfl
 have Va:Rel (nn+1) (p+256) w t:=hR.more (by omega) (by omega)
 obtain⟨e1,e2,e3,e4,e5,e6,e7,e8,e9⟩:=hR
 have base:∀m:aL,Rel (nn+1) (p+256) (w.dK false m) ({ t with sides:=(m,t.sides.2),fixed:=(t.fixed.1,t.fixed.2) }):=fun m=>by
  refine⟨?_,e2,?_,e4,e5,e6,e7,fun j=>Nat.le_trans (e8 j) (by omega),by show -(p+256)≤w.par∧w.par≤p+256;omega⟩
  ·simp only[e1];rfl
  ·simp only[e3];rfl
 unfold YO nP
 rw[hsd,hrm,if_pos (by rfl)]
 simp only[show(iG x).Kind=x.Kind from rfl,show(iG x).bU=x.bU from rfl,show(iG x).bZ=x.bZ from rfl,show(iG x).cu=x.cu from rfl,show(iG x).aA=x.aA from rfl,show(iG x).aU=x.aU from rfl,show(iG x).Bytes=x.Bytes from rfl,show(iG x).Update=x.Update from rfl,show(iG x).N=x.N from rfl]
 by_cases k0:x.Kind=0
 ·rw[if_pos (by simp[k0]),if_pos k0,es,(tT hI (by omega) x.bU x.bZ x.cu x.aA x4.psm).1,bs]
  by_cases hz:(iE (w.s false) x.bU x.bZ x.cu x.aA).2.2=0
  ·rw[if_pos (by simp[hz]),if_pos hz,mO,bs,qL (I9 hI _ _ _ _ hz),bs]
   unfold qi
   have hb:=base (iE (w.s false) x.bU x.bZ x.cu x.aA).1
   refine⟨_,rfl,⟨hb.sides,hb.aK,hb.fixed,?_,hb.par,hb.ng,hb.ans,hb.rows,hb.rng⟩⟩
   rw[show slot false (iE (w.s false) x.bU x.bZ x.cu x.aA).2.1=((iE (w.s false) x.bU x.bZ x.cu x.aA).2.1%64).toNat from by simp[slot]]
   simp only[e4]
  ·rw[if_neg (by simpa using hz),if_neg hz]
   exact⟨_,rfl,base _⟩
 rw[if_neg (c:=(x.Kind==0)=true) (by simpa using k0),if_neg k0]
 by_cases k1:x.Kind=1
 ·rw[if_pos (by simp[k1]),if_pos k1,es,(nM hI (by omega) x.aU).1,bs]
  exact⟨_,rfl,base _⟩
 rw[if_neg (c:=(x.Kind==1)=true) (by simpa using k1),if_neg k1]
 by_cases k2:x.Kind=2
 ·rw[if_pos (by simp[k2]),if_pos k2,es,(zT hI (by omega) x.aU x.Bytes (by have:x.Bytes.length≤4096:=x4.len;omega)).1,bs]
  by_cases hz:(kY (w.s false) x.aU x.Bytes).2=0
  ·rw[if_pos (by simp[hz]),if_pos hz,mO,bs,EI x3,bs]
   have h8:=e8 ((x.aU%64).toNat)
   rw[dP (by simp;omega) (by omega),bs]
   unfold qi
   have hb:=base (kY (w.s false) x.aU x.Bytes).1
   refine⟨_,rfl,⟨hb.sides,hb.aK,hb.fixed,hb.cn,hb.par,hb.ng,hb.ans,kI hb.rows _ (by simp;omega),hb.rng⟩⟩
  ·rw[if_neg (by simpa using hz),if_neg hz]
   exact⟨_,rfl,base _⟩
 rw[if_neg (c:=(x.Kind==2)=true) (by simpa using k2),if_neg k2]
 by_cases k3:x.Kind=3
 ·rw[if_pos (by simp[k3]),if_pos k3,es,(IX hI (by omega) x.aU x.Bytes).1,bs]
  by_cases hz:(tL (w.s false) x.aU x.Bytes).2=0
  ·have hfl:=hF false
   rw[if_pos (by simp[hz]),if_pos hz,ef,dP (by simp;omega) (by omega),bs]
   unfold qi
   have hb:=base (tL (w.s false) x.aU x.Bytes).1
   refine⟨_,rfl,⟨hb.sides,hb.aK,?_,hb.cn,hb.par,hb.ng,hb.ans,hb.rows,hb.rng⟩⟩
   simp only[e3]
   rfl
  ·rw[if_neg (by simpa using hz),if_neg hz]
   exact⟨_,rfl,base _⟩
 rw[if_neg (c:=(x.Kind==3)=true) (by simpa using k3),if_neg k3]
 by_cases k4:x.Kind=4
 ·rw[if_pos (by simp[k4]),if_pos k4,es,(wQ hI (by omega) x.Update).1,bs]
  by_cases hz:(sF (w.s false) x.Update).2=0
  ·rw[if_pos (by simp[hz]),if_pos hz]
   unfold qi
   have hb:=base (sF (w.s false) x.Update).1
   have hw:aI (t.params+1)=w.par+1:=by rw[e5];exact bN (by omega) (by omega)
   exact⟨_,rfl,⟨hb.sides,hb.aK,hb.fixed,hb.cn,hw,hb.ng,hb.ans,hb.rows,by simp only;omega⟩⟩
  ·rw[if_neg (by simpa using hz),if_neg hz]
   exact⟨_,rfl,base _⟩
 rw[if_neg (c:=(x.Kind==4)=true) (by simpa using k4),if_neg k4]
 by_cases k5:x.Kind=5
 ·rw[if_pos (by simp[k5]),if_pos k5,hN]
  obtain⟨c',g1,g2⟩:=zR (n:=x.N.toNat) (by omega) hO hp hm Va
  rw[hNn]at g2
  rw[g2,bs]
  exact⟨c',rfl,g1⟩
 rw[if_neg (c:=(x.Kind==5)=true) (by simpa using k5),if_neg k5]
 by_cases k6:x.Kind=6
 ·rw[if_pos (by simp[k6]),if_pos k6,hN]
  obtain⟨c',g1,g2⟩:=vN (n:=x.N.toNat) (by omega) hO hp (⟨e1,e2,e3,e4,e5,e6,e7,e8,e9⟩:Rel nn p w t) h1 (by omega)
  rw[hNn]at g2
  rw[g2,bs]
  exact⟨c',rfl,g1.more (by omega) (by omega)⟩
 rw[if_neg (c:=(x.Kind==6)=true) (by simpa using k6),if_neg k6]
 by_cases k7:x.Kind=7
 ·rw[if_pos (by simp[k7]),if_pos k7,hN,es,Da FF _ x.N ff (hI.sz (by omega)),bs]
  exact⟨_,rfl,base _⟩
 ·rw[if_neg (by simpa using k7),if_neg k7]
  unfold qi
  exact⟨_,rfl,Va⟩
theorem Sn{nn:Nat}{p:Int}{r:Bool→Nat}{L:Bool→List bM}{w:Wr}{t:bD}{x:D5}(hs:x.Side%2=1)(hx:SS x)(hO:Ord L r w)(hp:phi L w≤100000000)(hm:oI L w≤1000000000)(hR:Rel nn p w t)(hF:FL nn w)(hn:nn≤1000)(h1:1000≤p)(h2:p≤1000000000) :
 ∃t',YO FF t x=some t'∧Rel (nn+1) (p+256) (nP w (iG x)) t':=by
 obtain⟨x1,x2,x3,x4⟩:=hx
 have hsd:bE (iG x)=true:=by
  show decide (x.Side%2=1)=true
  rw[hs];rfl
 have hrm:aI (gI x.Side 2)=1:=by
  have:gI x.Side 2=x.Side%2:=by unfold gI;rw[Int.tmod_eq_emod_of_nonneg x1]
  rw[this,hs];rfl
 have hN:aI x.N=x.N:=bN (by omega) (by omega)
 have hNn:(x.N.toNat:Int)=x.N:=Int.toNat_of_nonneg x2.1
 have hf:=hO.few true
 have hI:=(hO.side true).inv
 have es:t.sides.2=w.s true:=by rw[hR.sides];rfl
 have ef:t.fixed.2=w.f true:=by rw[hR.fixed];rfl
 have Va:Rel (nn+1) (p+256) w t:=hR.more (by omega) (by omega)
 obtain⟨e1,e2,e3,e4,e5,e6,e7,e8,e9⟩:=hR
 have base:∀m:aL,Rel (nn+1) (p+256) (w.dK true m) ({ t with sides:=(t.sides.1,m),fixed:=(t.fixed.1,t.fixed.2) }):=fun m=>by
  refine⟨?_,e2,?_,e4,e5,e6,e7,fun j=>Nat.le_trans (e8 j) (by omega),by show -(p+256)≤w.par∧w.par≤p+256;omega⟩
  ·simp only[e1];rfl
  ·simp only[e3];rfl
 unfold YO nP
 rw[hsd,hrm,if_neg (by decide),if_pos (by rfl)]
 simp only[show(iG x).Kind=x.Kind from rfl,show(iG x).bU=x.bU from rfl,show(iG x).bZ=x.bZ from rfl,show(iG x).cu=x.cu from rfl,show(iG x).aA=x.aA from rfl,show(iG x).aU=x.aU from rfl,show(iG x).Bytes=x.Bytes from rfl,show(iG x).Update=x.Update from rfl,show(iG x).N=x.N from rfl]
 by_cases k0:x.Kind=0
 ·rw[if_pos (by simp[k0]),if_pos k0,es,(tT hI (by omega) x.bU x.bZ x.cu x.aA x4.psm).1,bs]
  by_cases hz:(iE (w.s true) x.bU x.bZ x.cu x.aA).2.2=0
  ·rw[if_pos (by simp[hz]),if_pos hz,mO,bs,qL (I9 hI _ _ _ _ hz),bs]
   unfold qj
   have hb:=base (iE (w.s true) x.bU x.bZ x.cu x.aA).1
   refine⟨_,rfl,⟨hb.sides,hb.aK,hb.fixed,?_,hb.par,hb.ng,hb.ans,hb.rows,hb.rng⟩⟩
   rw[show slot true (iE (w.s true) x.bU x.bZ x.cu x.aA).2.1=64+((iE (w.s true) x.bU x.bZ x.cu x.aA).2.1%64).toNat from by simp[slot]]
   simp only[e4]
  ·rw[if_neg (by simpa using hz),if_neg hz]
   exact⟨_,rfl,base _⟩
 rw[if_neg (c:=(x.Kind==0)=true) (by simpa using k0),if_neg k0]
 by_cases k1:x.Kind=1
 ·rw[if_pos (by simp[k1]),if_pos k1,es,(nM hI (by omega) x.aU).1,bs]
  exact⟨_,rfl,base _⟩
 rw[if_neg (c:=(x.Kind==1)=true) (by simpa using k1),if_neg k1]
 by_cases k2:x.Kind=2
 ·rw[if_pos (by simp[k2]),if_pos k2,es,(zT hI (by omega) x.aU x.Bytes (by have:x.Bytes.length≤4096:=x4.len;omega)).1,bs]
  by_cases hz:(kY (w.s true) x.aU x.Bytes).2=0
  ·rw[if_pos (by simp[hz]),if_pos hz,mO,bs,EI x3,bs]
   have h8:=e8 (64+(x.aU%64).toNat)
   rw[dP (by simp;omega) (by omega),bs]
   unfold qj
   have hb:=base (kY (w.s true) x.aU x.Bytes).1
   refine⟨_,rfl,⟨hb.sides,hb.aK,hb.fixed,hb.cn,hb.par,hb.ng,hb.ans,kI hb.rows _ (by simp;omega),hb.rng⟩⟩
  ·rw[if_neg (by simpa using hz),if_neg hz]
   exact⟨_,rfl,base _⟩
 rw[if_neg (c:=(x.Kind==2)=true) (by simpa using k2),if_neg k2]
 by_cases k3:x.Kind=3
 ·rw[if_pos (by simp[k3]),if_pos k3,es,(IX hI (by omega) x.aU x.Bytes).1,bs]
  by_cases hz:(tL (w.s true) x.aU x.Bytes).2=0
  ·have hfl:=hF true
   rw[if_pos (by simp[hz]),if_pos hz,ef,dP (by simp;omega) (by omega),bs]
   unfold qj
   have hb:=base (tL (w.s true) x.aU x.Bytes).1
   refine⟨_,rfl,⟨hb.sides,hb.aK,?_,hb.cn,hb.par,hb.ng,hb.ans,hb.rows,hb.rng⟩⟩
   simp only[e3]
   rfl
  ·rw[if_neg (by simpa using hz),if_neg hz]
   exact⟨_,rfl,base _⟩
 rw[if_neg (c:=(x.Kind==3)=true) (by simpa using k3),if_neg k3]
 by_cases k4:x.Kind=4
 ·rw[if_pos (by simp[k4]),if_pos k4,es,(wQ hI (by omega) x.Update).1,bs]
  by_cases hz:(sF (w.s true) x.Update).2=0
  ·rw[if_pos (by simp[hz]),if_pos hz]
   unfold qj
   have hb:=base (sF (w.s true) x.Update).1
   have hw:aI (t.params+1)=w.par+1:=by rw[e5];exact bN (by omega) (by omega)
   exact⟨_,rfl,⟨hb.sides,hb.aK,hb.fixed,hb.cn,hw,hb.ng,hb.ans,hb.rows,by simp only;omega⟩⟩
  ·rw[if_neg (by simpa using hz),if_neg hz]
   exact⟨_,rfl,base _⟩
 rw[if_neg (c:=(x.Kind==4)=true) (by simpa using k4),if_neg k4]
 by_cases k5:x.Kind=5
 ·rw[if_pos (by simp[k5]),if_pos k5,hN]
  obtain⟨c',g1,g2⟩:=zQ (n:=x.N.toNat) (by omega) hO hp hm Va
  rw[hNn]at g2
  rw[g2,bs]
  exact⟨c',rfl,g1⟩
 rw[if_neg (c:=(x.Kind==5)=true) (by simpa using k5),if_neg k5]
 by_cases k6:x.Kind=6
 ·rw[if_pos (by simp[k6]),if_pos k6,hN]
  obtain⟨c',g1,g2⟩:=vM (n:=x.N.toNat) (by omega) hO hp (⟨e1,e2,e3,e4,e5,e6,e7,e8,e9⟩:Rel nn p w t) h1 (by omega)
  rw[hNn]at g2
  rw[g2,bs]
  exact⟨c',rfl,g1.more (by omega) (by omega)⟩
 rw[if_neg (c:=(x.Kind==6)=true) (by simpa using k6),if_neg k6]
 by_cases k7:x.Kind=7
 ·rw[if_pos (by simp[k7]),if_pos k7,hN,es,Da FF _ x.N ff (hI.sz (by omega)),bs]
  exact⟨_,rfl,base _⟩
 ·rw[if_neg (by simpa using k7),if_neg k7]
  unfold qj
  exact⟨_,rfl,Va⟩
end Sy
end V
namespace V
namespace Sy
open St Po
theorem VI{nn:Nat}{p:Int}{r:Bool→Nat}{L:Bool→List bM}{w:Wr}{t:bD}{x:D5}(hx:SS x)(hO:Ord L r w)(hp:phi L w≤100000000)(hm:oI L w≤1000000000)(hR:Rel nn p w t)(hF:FL nn w)(hn:nn≤1000)(h1:1000≤p)(h2:p≤1000000000) :
 ∃t',YO FF t x=some t'∧Rel (nn+1) (p+256) (nP w (iG x)) t':=by
 rcases(by omega:x.Side%2=0∨x.Side%2=1)with h | h
 ·exact Sq h hx hO hp hm hR hF hn h1 h2
 ·exact Sn h hx hO hp hm hR hF hn h1 h2
theorem Z9{nn:Nat}{w:Wr}(h:FL nn w)(x:Ac):FL (nn+1) (nP w x):=fun k=>by
 have hk:=h k
 unfold nP
 split
 ·split
  ·show((w.dK _ _).f k).length≤_
   rw[(dX w _ k _).2];omega
  ·rw[(dX w _ k _).2];omega
 split
 ·rw[(dX w _ k _).2];omega
 split
 ·split
  ·show((w.dK _ _).f k).length≤_
   rw[(dX w _ k _).2];omega
  ·rw[(dX w _ k _).2];omega
 split
 ·split
  ·rcases gT k (bE x)with hj | hj
   ·rw[hj,(wZ _ _ _).1,lA]
    have:=h (bE x)
    simp only[List.length_singleton]
    omega
   ·rw[hj,(wZ _ _ _).2,(dX w _ _ _).2]
    have:=h (!bE x)
    omega
  ·rw[(dX w _ k _).2];omega
 split
 ·split
  ·show((w.dK _ _).f k).length≤_
   rw[(dX w _ k _).2];omega
  ·rw[(dX w _ k _).2];omega
 split
 ·rw[K5];omega
 split
 ·exact Nat.le_trans (RN _ _ _ _) (by omega)
 split
 ·rw[(dX w _ k _).2];omega
 ·omega
theorem Me{l:List D5}{dJ:uq}(hl:dJ.eG=l)(h60:l.length≤60)(hg:∀x∈l,SS x):∀(l2:List D5) (i F:Nat) (p:Int) (w:Wr) (c:bD) (L:Bool→List bM) (r:Bool→Nat),l=l.take i++l2→i+l2.length=l.length→l2.length<F→Ord L r w→phi L w+(l2.map fun x=>cost (iG x)).sum≤100000000→oI L w+2*(l2.map fun x=>cost (iG x)).sum≤1000000000→Rel i p w c→FL i w→1000≤p→p+256*l2.length≤1000000000→
 ∃c',Rel l.length (p+256*l2.length) ((l2.map iG).foldl nP w) c'∧iter (fun s=>q22 FF dJ s.1 s.2) F (c,(i:Int))=some c'
 | [],i,F,p,w,c,L,r,h1,h2,h3,_,_,_,hR,_,_,_=>by
   obtain⟨F,rfl⟩:∃G,F=G+1:=⟨F-1,by omega⟩
   refine⟨c,hR.more (by simp at h2;omega) (by simp),aW (show q22 FF dJ c (i:Int)=_ from ?_)⟩
   unfold q22
   rw[hl,if_neg (by simp[len];simp at h2;omega)]
 | x::l2,i,F,p,w,c,L,r,h1,h2,h3,hO,hp,hm,hR,hF,IQ,hpp=>by
   obtain⟨F,rfl⟩:∃G,F=G+1:=⟨F-1,by omega⟩
   simp only[List.map_cons,List.sum_cons,List.length_cons]at hp hm h2 h3 hpp ⊢
   have hx:l[i]? = some x:=by
    have h4:(l.take i).length=i:=by rw[List.length_take];omega
    have h5:(l.take i++x::l2)[i]? = some x:=by
     rw[List.getElem?_append_right (by omega),h4]
     simp
    rw[← h1]at h5
    exact h5
   have hxg:=hg x (List.mem_of_getElem? hx)
   obtain⟨c1,g1,g2⟩:=VI hxg hO (by omega) (by omega) hR hF (by omega) IQ (by omega)
   obtain⟨L1,r1,q1,q2,q3⟩:=Mf hO (by omega) hxg.ok
   obtain⟨c',k1,k2⟩:=Me hl h60 hg l2 (i+1) F (p+256) (nP w (iG x)) c1 L1 r1 (by
    have h4:l.take (i+1)=l.take i++[x]:=(iJ hx).symm
    rw[h4,List.append_assoc]
    exact h1) (by omega) (by omega) q1 (by omega) (by omega) g2 (Z9 hF _) (by omega) (by omega)
   refine⟨c',k1.more (Nat.le_refl _) (by omega),?_⟩
   have hw:aI ((i:Int)+1)=((i+1:Nat):Int):=wN i (by omega)
   rw[bV (s':=(c1,((i+1:Nat):Int))) (show q22 FF dJ c (i:Int)=_ from by
    unfold q22
    rw[hl,if_pos (by simp[len];omega),bf hx,bs,g1,bs,hw])]
   exact k2
theorem PZ{nn:Nat}{p:Int}{w:Wr}{c:bD}{L:Bool→List bM}{r:Bool→Nat}(hO:Ord L r w)(hp:phi L w≤100000000)(hm:oI L w≤1000000000)(hR:Rel nn p w c)(h1:1000≤p)(h2:p≤100000000000){i:Int}(hi:i<20000)(h0:0≤i) :
 ∃c',Rel nn (p+200) (iy w).1 c'∧Uj FF c i=some (if uQ w=true then .done (.inr (c',true))else .next (c',i+1)):=by
 obtain⟨L1,r1,a1,a2,a3,a4,a5⟩:=jC false 100 L r w hO hp
 obtain⟨L2,r2,b1,b2,b3,b4,b5⟩:=jC true 100 L1 r1 (bT 100 w false) a1 (by omega)
 obtain⟨L3,d1,d2,d3,_⟩:=lJ false 20 L2 (ER w) false b1 (show phi L2 (bT 100 (bT 100 w false) true)≤_ by omega)
 rw[show ER w=bT 100 (bT 100 w false) true from rfl]at d1 d2 d3
 obtain⟨c1,g1,g2⟩:=vN (n:=100) (by omega) hO hp hR h1 (by omega)
 obtain⟨c2,g3,g4⟩:=vM (n:=100) (by omega) a1 (by omega) g1 (by omega) (by omega)
 obtain⟨c3,g5,g6⟩:=zR (n:=20) (by omega) b1 (by omega) (by omega) g3
 obtain⟨c4,g7,g8⟩:=zQ (n:=20) (by omega) d1 (by omega) (by omega) g5
 have e2:wL w=dQ 20 (bT 100 (bT 100 w false) true) false false:=rfl
 have e3:iy w=dQ 20 (wL w).1 true false:=rfl
 have hR4:Rel nn (p+200) (iy w).1 c4:=(by rw[e3,e2];exact g7.more (Nat.le_refl _) (by omega))
 refine⟨c4,hR4,?_⟩
 have hw:aI (i+1)=i+1:=bN (by omega) (by omega)
 unfold Uj
 rw[if_pos (by simpa using hi)]
 rw[show(100:Int)=((100:Nat):Int)from rfl,show(20:Int)=((20:Nat):Int)from rfl,g2,bs,g4,bs,g6,bs]
 rw[g8,bs]
 unfold q68
 have ha:c4.aK=((iy w).1.a0,(iy w).1.a1):=hR4.aK
 have hlen:(iy w).1.a0.length+(iy w).1.a1.length≤1000000000:=by
  obtain⟨L4,_,_,f3,_⟩:=lJ true 20 L3 (dQ 20 (bT 100 (bT 100 w false) true) false false).1 false d1 (by omega)
  have:aK (iy w).1=(iy w).1.a0.length+(iy w).1.a1.length:=rfl
  have hq:oI L4 (iy w).1≤1000000000:=by
   rw[e3,e2]
   omega
  unfold oI at hq
  omega
 have hz:(aI (len c4.aK.1+len c4.aK.2)==0)=(((iy w).1.a false).length+((iy w).1.a true).length==0):=by
  rw[ha]
  simp only[len]
  rw[bN (by omega) (by omega)]
  show((((iy w).1.a0.length:Int)+((iy w).1.a1.length:Int))==0)=((iy w).1.a0.length+(iy w).1.a1.length==0)
  rw[Bool.eq_iff_iff]
  simp only[beq_iff_eq]
  omega
 have hr:uQ w=(!(dQ 20 (bT 100 (bT 100 w false) true) false false).2&&(!(dQ 20 (dQ 20 (bT 100 (bT 100 w false) true) false false).1 true false).2&&(((iy w).1.a false).length+((iy w).1.a true).length==0))):=rfl
 simp only
 rw[hz,hr,hw]
 cases (dQ 20 (bT 100 (bT 100 w false) true) false false).2 <;> cases (dQ 20 (dQ 20 (bT 100 (bT 100 w false) true) false false).1 true false).2 <;> cases (((iy w).1.a false).length+((iy w).1.a true).length==0) <;> rfl
theorem Lv{nn:Nat}:∀(n i F:Nat) (p:Int) (w:Wr) (c:bD) (L:Bool→List bM) (r:Bool→Nat),i+n=20000→n<F→Ord L r w→phi L w≤100000000→oI L w≤1000000000→Rel nn p w c→1000≤p→p+200*n≤100000000000→
 ∃c',Rel nn (p+200*n) (pQ n w).1 c'∧iter (fun s=>Uj FF s.1 s.2) F (c,(i:Int))=some (if (pQ n w).2=true then .inr (c',true)else .inl c')
 | 0,i,F,p,w,c,L,r,hi,hF,_,_,_,hR,_,_=>by
   obtain⟨F,rfl⟩:∃G,F=G+1:=⟨F-1,by omega⟩
   have hq:Uj FF c (i:Int)=some (.done (.inl c)):=by
    unfold Uj
    exact if_neg fun h=>by
     have:=of_decide_eq_true h
     omega
   exact⟨c,hR.more (Nat.le_refl _) (by omega),aW hq⟩
 | n+1,i,F,p,w,c,L,r,hi,hF,hO,hp,hm,hR,h1,h2=>by
   obtain⟨F,rfl⟩:∃G,F=G+1:=⟨F-1,by omega⟩
   obtain⟨L',r',q1,q2,q3,q4⟩:=Dh hO hp
   obtain⟨c1,g1,g2⟩:=PZ (i:=(i:Int)) hO hp hm hR h1 (by omega) (by omega) (by omega)
   unfold pQ
   by_cases hr:uQ w=true
   ·rw[if_pos hr]
    rw[if_pos hr]at g2
    exact⟨c1,g1.more (Nat.le_refl _) (by omega),aW g2⟩
   ·rw[if_neg hr]
    rw[if_neg hr]at g2
    have h3:=q3 (by simpa using hr)
    obtain⟨c',k1,k2⟩:=Lv n (i+1) F (p+200) (iy w).1 c1 L' r' (by omega) (by omega) q1 (by omega) (by omega) g1 (by omega) (by omega)
    refine⟨c',k1.more (Nat.le_refl _) (by omega),?_⟩
    exact(bV (body:=fun s=>Uj FF s.1 s.2) (s:=(c,(i:Int))) g2).trans k2
end Sy
end V
namespace V
namespace Sy
open St Po
theorem Im{dJ:uq}:∀(d i F:Nat) (n:Int),i+d=min dJ.eG.length 60→d<F→0≤n→n≤4096*i→
 (∃m:Int,iter (fun s=>qx FF dJ s.1 s.2) F (n,(i:Int))=some (.inl m)∧m=n+(((dJ.eG.take 60).drop i).map fun x=>(x.Bytes.length:Int)).sum∧∀x∈(dJ.eG.take 60).drop i,x.Bytes.length≤4096)∨iter (fun s=>qx FF dJ s.1 s.2) F (n,(i:Int))=some (.inr false)
 | 0,i,F,n,h,hF,h0,h1=>by
   obtain⟨F,rfl⟩:∃G,F=G+1:=⟨F-1,by omega⟩
   have hd:(dJ.eG.take 60).drop i=[]:=List.drop_of_length_le (by rw[List.length_take];omega)
   refine .inl ⟨n,aW (show qx FF dJ n (i:Int)=_ from ?_),by rw[hd];simp,by rw[hd];simp⟩
   unfold qx
   rw[if_neg]
   have hl:=lN dJ.eG
   simp only[Bool.and_eq_true,decide_eq_true_eq]
   omega
 | d+1,i,F,n,h,hF,h0,h1=>by
   obtain⟨F,rfl⟩:∃G,F=G+1:=⟨F-1,by omega⟩
   have hi:i<dJ.eG.length:=by omega
   obtain⟨x,hx⟩:∃x,dJ.eG[i]? = some x:=⟨_,gE hi⟩
   have hdr:(dJ.eG.take 60).drop i=x::(dJ.eG.take 60).drop (i+1):=by
    have hl:i<(dJ.eG.take 60).length:=by rw[List.length_take];omega
    rw[List.drop_eq_getElem_cons hl]
    congr 1
    rw[List.getElem_take]
    rw[gE hi]at hx
    injection hx
   have hw:aI ((i:Int)+1)=((i+1:Nat):Int):=wN i (by omega)
   have hif:((decide ((i:Int)<len dJ.eG))&&decide ((i:Int)<60))=true:=by
    have hl:=lN dJ.eG
    simp only[Bool.and_eq_true,decide_eq_true_eq]
    omega
   by_cases hb:(len x.Bytes)>4096
   ·refine .inr (aW (show qx FF dJ n (i:Int)=_ from ?_))
    unfold qx
    rw[if_pos hif,bf hx,bs,if_pos (by simpa using hb)]
   ·have hb':x.Bytes.length≤4096:=by simp only[len]at hb;omega
    have hn:aI (n+len x.Bytes)=n+(x.Bytes.length:Int):=by
     simp only[len]
     exact bN (by omega) (by omega)
    have hs:qx FF dJ n (i:Int)=some (.next (n+(x.Bytes.length:Int),((i+1:Nat):Int))):=by
     unfold qx
     rw[if_pos hif,bf hx,bs,if_neg (by simpa using hb),bs,hn,hw]
    rcases Im (dJ:=dJ) d (i+1) F (n+(x.Bytes.length:Int)) (by omega) (by omega) (by omega) (by omega)with⟨m,g1,g2,g3⟩ | g
    ·refine .inl ⟨m,?_,?_,?_⟩
     ·rw[bV (body:=fun s=>qx FF dJ s.1 s.2) (s:=(n,(i:Int))) hs]
      exact g1
     ·rw[hdr,g2,List.map_cons,List.sum_cons]
      omega
     ·rw[hdr]
      intro y hy
      rcases List.mem_cons.1 hy with rfl | hy
      ·exact hb'
      ·exact g3 y hy
    ·refine .inr ?_
     rw[bV (body:=fun s=>qx FF dJ s.1 s.2) (s:=(n,(i:Int))) hs]
     exact g
theorem TB(l:List D5):(l.map fun x=>(x.Bytes.length:Int)).sum=((l.map fun x=>x.Bytes.length).sum:Nat):=by
 induction l with
 | nil=>rfl
 | cons x l ih=>simp only[List.map_cons,List.sum_cons,ih];omega
theorem Qp(dJ:uq):∃b,q3x FF dJ=some b∧(b=true→dJ.eG.length≤60∧(∀x∈dJ.eG,x.Bytes.length≤4096)∧(dJ.eG.map fun x=>x.Bytes.length).sum≤4096∧dJ.ak.1.length≤10∧dJ.ak.2.length≤10):=by
 unfold q3x
 rcases Im (dJ:=dJ) (min dJ.eG.length 60) 0 FF 0 (by omega) (by have:=ff;omega) (by omega) (by omega)with⟨m,g1,g2,g3⟩ | g
 ·rw[show((0:Nat):Int)=0 from rfl]at g1
  rw[g1,bs]
  unfold q6a
  refine⟨_,rfl,fun h=>?_⟩
  have hl:=lN dJ.eG
  have hl1:=lN dJ.ak.1
  have hl2:=lN dJ.ak.2
  simp only[Bool.and_eq_true,decide_eq_true_eq]at h
  obtain⟨⟨⟨h1,h2⟩,h3⟩,h4⟩:=h
  have ht:dJ.eG.take 60=dJ.eG:=List.take_of_length_le (by omega)
  rw[List.drop_zero,ht]at g2 g3
  rw[TB]at g2
  exact⟨by omega,g3,by omega,by omega,by omega⟩
 ·rw[show((0:Nat):Int)=0 from rfl]at g
  rw[g,bs]
  exact⟨false,rfl,fun h=>by cases h⟩
def kX:aL:=⟨0,0,[],[],[],0,⟨false,[]⟩,[],0,0⟩
def w0(s0 s1:aL):bD:=⟨(s0,s1),([],[]),fun _=>[],([],[]),fun _=>false,0,false,false,false⟩
theorem Nb(dJ:uq):(iter (fun s=>qh FF dJ s.1 s.2) FF (w0 kX kX,0)=some (.inl (w0 { (gV 0 dJ.ak.1).1 with Length:=dJ.bH.1 } { (gV 1 dJ.ak.2).1 with Length:=dJ.bH.2 }))∧(gV 0 dJ.ak.1).2=0∧(gV 1 dJ.ak.2).2=0)∨
 ((∃c,iter (fun s=>qh FF dJ s.1 s.2) FF (w0 kX kX,0)=some (.inr (c,false)))∧((gV 0 dJ.ak.1).2≠0∨(gV 1 dJ.ak.2).2≠0)):=by
 obtain⟨G,hG⟩:∃G,FF=G+3:=⟨FF-3,by have:=ff;omega⟩
 have ZJ:1000<FF:=by have:=ff;omega
 have hit:∀s:bD×Int,iter (fun s=>qh FF dJ s.1 s.2) FF s=iter (fun s=>qh FF dJ s.1 s.2) (G+1+1+1) s:=fun s=>by rw[hG]
 rw[hit]
 by_cases h0:(gV 0 dJ.ak.1).2=0
 ·have s1:qh FF dJ (w0 kX kX) 0=some (.next (w0 { (gV 0 dJ.ak.1).1 with Length:=dJ.bH.1 } kX,1)):=by
   unfold qh
   rw[if_pos (by decide),if_pos (by decide),Fh FF 0 _ ZJ,bs,if_neg (by simp[h0])]
   rfl
  rw[bV (body:=fun s=>qh FF dJ s.1 s.2) (s:=(w0 kX kX,0)) s1]
  by_cases h1:(gV 1 dJ.ak.2).2=0
  ·refine .inl ⟨?_,h0,h1⟩
   have s2:qh FF dJ (w0 { (gV 0 dJ.ak.1).1 with Length:=dJ.bH.1 } kX) 1=some (.next (w0 { (gV 0 dJ.ak.1).1 with Length:=dJ.bH.1 } { (gV 1 dJ.ak.2).1 with Length:=dJ.bH.2 },2)):=by
    unfold qh
    rw[if_pos (by decide),if_neg (by decide),if_pos (by decide),Fh FF 1 _ ZJ,bs,if_neg (by simp[h1])]
    rfl
   rw[bV (body:=fun s=>qh FF dJ s.1 s.2) (s:=(w0 { (gV 0 dJ.ak.1).1 with Length:=dJ.bH.1 } kX,1)) s2]
   have s3:qh FF dJ (w0 { (gV 0 dJ.ak.1).1 with Length:=dJ.bH.1 } { (gV 1 dJ.ak.2).1 with Length:=dJ.bH.2 }) 2=some (.done (.inl (w0 { (gV 0 dJ.ak.1).1 with Length:=dJ.bH.1 } { (gV 1 dJ.ak.2).1 with Length:=dJ.bH.2 }))):=if_neg (by decide)
   exact aW (body:=fun s=>qh FF dJ s.1 s.2) s3
  ·refine .inr ⟨?_,.inr h1⟩
   have s2:∃c,qh FF dJ (w0 { (gV 0 dJ.ak.1).1 with Length:=dJ.bH.1 } kX) 1=some (.done (.inr (c,false))):=by
    unfold qh
    rw[if_pos (by decide),if_neg (by decide),if_pos (by decide),Fh FF 1 _ ZJ,bs,if_pos (by simpa using h1)]
    exact⟨_,rfl⟩
   obtain⟨c,s2⟩:=s2
   exact⟨c,aW (body:=fun s=>qh FF dJ s.1 s.2) s2⟩
 ·refine .inr ⟨?_,.inl h0⟩
  have s1:∃c,qh FF dJ (w0 kX kX) 0=some (.done (.inr (c,false))):=by
   unfold qh
   rw[if_pos (by decide),if_pos (by decide),Fh FF 0 _ ZJ,bs,if_pos (by simpa using h0)]
   exact⟨_,rfl⟩
  obtain⟨c,s1⟩:=s1
  exact⟨c,aW (body:=fun s=>qh FF dJ s.1 s.2) s1⟩
def Mv(dJ:uq):Prop:=∀x∈dJ.eG,0≤x.Side∧(0≤x.N∧x.N≤255)∧0≤x.aU∧(0≤x.bU∧x.bU≤65535)∧∀b∈x.Bytes,Byte b
theorem YF{dJ:uq}(hg:Mv dJ)(h60:dJ.eG.length≤60)(hb:∀x∈dJ.eG,x.Bytes.length≤4096)(hsum:(dJ.eG.map fun x=>x.Bytes.length).sum≤4096) :
 ((∃c,q3u FF dJ=some (c,false))∧q57 FF dJ=some true)∨
 ∃c nn p,q3u FF dJ=some (c,true)∧(gV 0 dJ.ak.1).2=0∧(gV 1 dJ.ak.2).2=0∧Rel nn p (pQ 20000 ((dJ.eG.map iG).foldl nP (lU dJ.ak.1 dJ.ak.2 dJ.bH.1 dJ.bH.2))).1 c:=by
 have ZJ:1000<FF:=by have:=ff;omega
 have hag:∀x∈dJ.eG,SS x:=fun x hx=>by
  obtain⟨a1,a2,a3,a4,a5⟩:=hg x hx
  exact⟨a1,a2,a3,⟨a4,hb x hx,a5⟩⟩
 have hrun:q3u FF dJ=(iter (fun s=>qh FF dJ s.1 s.2) FF (w0 kX kX,0)).bind fun o=>(match o with
  | .inl u=>q69 FF dJ u
  | .inr u=>some u):=rfl
 rw[hrun]
 rcases Nb dJ with⟨h1,n0,n1⟩ | ⟨⟨c,h1⟩,h2⟩
 ·refine .inr ?_
  rw[h1,bs]
  simp only
  unfold q69
  obtain⟨i1,i2,i3⟩:=II dJ.bH.1 dJ.bH.2 n0 n1
  have hm:oI (fun _=>[]) (lU dJ.ak.1 dJ.ak.2 dJ.bH.1 dJ.bH.2)=0:=by unfold oI;omega
  have hc:=BH (dJ.eG.map iG)
  have hce:(dJ.eG.map fun x=>cost (iG x))=(dJ.eG.map iG).map cost:=by rw[List.map_map];rfl
  have hbe:((dJ.eG.map iG).map fun x=>x.Bytes.length)=dJ.eG.map fun x=>x.Bytes.length:=by rw[List.map_map];rfl
  rw[hbe,List.length_map]at hc
  have hR0:Rel 0 1000 (lU dJ.ak.1 dJ.ak.2 dJ.bH.1 dJ.bH.2) (w0 { (gV 0 dJ.ak.1).1 with Length:=dJ.bH.1 } { (gV 1 dJ.ak.2).1 with Length:=dJ.bH.2 }):=⟨rfl,rfl,rfl,rfl,rfl,rfl,rfl,fun _=>Nat.le_refl _,by show -1000≤(0:Int)∧(0:Int)≤1000;omega⟩
  obtain⟨c1,g1,g2⟩:=Me (dJ:=dJ) rfl h60 hag dJ.eG 0 FF 1000 _ _ _ _ (by simp) (by simp) (by have:=ff;omega) i1 (by rw[hce];omega) (by rw[hce];omega) hR0 (fun k=>by cases k <;> exact Nat.le_refl _) (by omega) (by omega)
  obtain⟨L,r,q1,q2,q3⟩:=BQ (dJ.eG.map iG) _ _ _ i1 (fun x hx=>by
   obtain⟨y,hy,rfl⟩:=List.mem_map.1 hx
   exact(hag y hy).ok) (by omega)
  obtain⟨c2,k1,k2⟩:=Lv 20000 0 FF _ _ c1 L r (by omega) (by have:=ff;omega) q1 (by omega) (by omega) g1 (by omega) (by omega)
  have ac6:=(CR dJ.bH.1 dJ.bH.2 n0 n1 (dJ.eG.map iG) (fun x hx=>by
   obtain⟨y,hy,rfl⟩:=List.mem_map.1 hx
   exact(hag y hy).ok) (by rw[List.length_map];exact h60) (by rw[hbe];exact hsum)).1
  rw[ac6,if_pos rfl]at k2
  rw[show((0:Nat):Int)=0 from rfl]at g2 k2
  have g2':iter (fun s=>q22 FF dJ s.1 s.2) FF ({ w0 { (gV 0 dJ.ak.1).1 with Length:=dJ.bH.1 } { (gV 1 dJ.ak.2).1 with Length:=dJ.bH.2 }with aK:=(([]:List eT),([]:List eT)),fixed:=(([]:List bM),([]:List bM)),params:=0,data:=false,frame:=false,answer:=false },0)=some c1:=g2
  rw[g2',bs]
  unfold q7y
  rw[k2,bs]
  exact⟨c2,_,_,rfl,n0,n1,k1⟩
 ·refine .inl ⟨⟨c,by rw[h1,bs]⟩,?_⟩
  unfold q57
  rw[K7 FF 0 _ ZJ,bs,K7 FF 1 _ ZJ,bs]
  congr 1
  simp only[Bool.or_eq_true,bne_iff_ne]
  exact h2
end Sy
open Sy
theorem N8(dJ:uq)(hg:Mv dJ):q3w FF dJ=some true:=by
 unfold q3w
 obtain⟨b,h1,h2⟩:=Qp dJ
 rw[h1,bs,QT]
 cases b with
 | false=>rfl
 | true=>
   obtain⟨a1,a2,a3,_,_⟩:=h2 rfl
   rw[if_neg (by simp)]
   rcases YF hg a1 a2 a3 with⟨⟨c,r1⟩,r2⟩ | ⟨c,nn,p,r1,n0,n1,hR⟩
   ·rw[r1,bs]
    rw[r2]
    rfl
   ·rw[r1,bs]
    simp only
    rw[if_neg (by simp)]
    obtain⟨_,e2,e3⟩:=CR dJ.bH.1 dJ.bH.2 n0 n1 (dJ.eG.map iG) (fun x hx=>by
     obtain⟨y,hy,rfl⟩:=List.mem_map.1 hx
     obtain⟨_,_,_,b4,b5⟩:=hg y hy
     exact⟨b4,a2 y hy,b5⟩) (by rw[List.length_map];exact a1) (by rw[List.map_map];exact a3)
    have f0:=e3 false
    have f1:=e3 true
    have hf:=hR.fixed
    have hfr:=hR.ng
    rw[e2]at hfr
    have hz:c.fixed=([],[]):=by
     rw[hf]
     exact Prod.ext f0 f1
    rw[hfr,hz]
    rfl
end V
end Go.Proofs.YtbgfhaahhdnogaaGreat
