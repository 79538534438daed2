/- Data arrives; a packet arrives: the program and the referenc -/
import Derived.Test.YtbgfhaahhdnogaaGreatLawN
namespace Go.Proofs.YtbgfhaahhdnogaaGreat
namespace V
theorem half(g:Int)(h:0<=g/\g<=65535):Ou .i64 g 2=g/2:=by
 have:g.tdiv 2=g/2:=Int.tdiv_eq_ediv_of_nonneg h.1;unfold Ou;rw[this,wrap_i64];exact bP (by omega) (by omega)
theorem NQ(x:bM)(q:aT×List (List Int)×Int)(hq:q.2.1.length<=1)(he:x.aq=[]):iter (fun s:bM×Int=>UD FF q s.1 s.2) FF (x,0)=some { x with aq:=q.2.1.map fun d=>⟨3,q.1.ap,d,0,zu,0⟩ }:=by
 have hF:FF=(FF-2)+1+1:=by rw[jW]
 rw[hF];generalize FF-2=f;obtain⟨c,l,e⟩:=q
 match l,hq with
 | [],_=>
   rw[aX (o:=x) (by
    show UD (f+1+1) (c,[],e) x 0=_;unfold UD;rw[nG0 (df (by simp[len]))])]
   cases x;simp only at he;rw[he];rfl
 | [d],_=>
   rw[bU (s':=(({ x with aq:=[⟨3,c.ap,d,0,zu,0⟩] }:bM),(1:Int))) (by
    show UD (f+1+1) (c,[d],e) x 0=_;unfold UD;rw[pG0 (dt (by simp[len])),show idx [d] 0=some d from rfl,bs];unfold qe;rw[he,dV (by simp) (by simp),bs,bs];rfl),aX (o:=({ x with aq:=[⟨3,c.ap,d,0,zu,0⟩] }:bM)) (by
    show UD (f+1+1) (c,[d],e) { x with aq:=[⟨3,c.ap,d,0,zu,0⟩] } 1=_;unfold UD;rw[nG0 (df (by simp[len]))])]
   rfl
theorem vH{m:aI}{i:Nat}{c c':aT}(hc:m.aj[i]? = some c):(gD m i c').aj[i]? = some c':=by
 have hlt:=(gS.1 hc).1;unfold gD;simp[List.getElem?_set_self hlt]
theorem M5{b:List Int}(hb:∀x∈b,Byte x)(e:Int):∀f∈(Fr.M6 b e).2.1,(∀x∈f.al,Byte x)/\f.al.length<=65531:=by
 unfold Fr.M6;split
 ·intro f hf;cases hf
 ·split
  ·intro f hf;cases hf
  ·split
   ·intro f hf;cases hf
   ·split
    ·intro f hf;cases hf
    ·intro f hf;rename_i h0 h1 h2 h3;rw[show(Fr.az,[(⟨(Fr.hd b).2,b.drop 4⟩:bJ)],e).2.1=[(⟨(Fr.hd b).2,b.drop 4⟩:bJ)]from rfl,mS]at hf;subst hf;refine⟨fun x hx=>hb x (List.mem_of_mem_drop hx),?_⟩;simp only[List.length_drop];omega
theorem Sb{a:kH}{p:eH}(ha:Fr.Val a)(hp:∀x∈p.al,Byte x):∀f∈(Fr.feed a p).2.1,(∀x∈f.al,Byte x)/\f.al.length<=65531:=by
 unfold Fr.feed;split
 ·intro f hf;cases hf
 ·split
  ·intro f hf;cases hf
  ·split
   ·exact M5 hp _
   ·split
    ·intro f hf;cases hf
    ·exact M5 (fun x hx=>(List.mem_append.1 hx).elim (ha.yT x) (hp x)) _
theorem MInv.gK{k:Nat}{m:aI}(h:MInv k m){a:kH}(ha:Fr.Val a):MInv k { m with ay:=a }:=
 ⟨h.K4,h.MK,h.next,h.ask,h.yA,h.zo,h.NR,h.qW,h.yh,h.cnt,h.out,h.oP,h.sent,ha,h.jL⟩
def VT(x:bM)(f:bJ):Option bM:=
 if ((f.aU==4)||(f.aU==6))=true then qe FF x (gy.mk 1 f.aU f.al 0 (jF.mk 0 0 0 0 0) 0)
 else if (f.aU==5)=true then q1y FF x f.al
 else if BS x.aC f.aU≥0/\bR x.aC f.aU=false then q3s FF x (BS x.aC f.aU) f.al
 else some x
theorem aap(x:bM)(l:List bJ)(f:bJ)(n:Nat)(hf:l[n]? = some f)(hn:n<=10)(h1:x.aC.aj.length<=1000)(h2:x.aC.aB.length<=1000):q1z FF l x (n:Int)=(VT x f).bind fun y=>some (.next (y,((n+1:Nat):Int))):=by
 have hlt:=(gS.1 hf).1;unfold q1z q51 VT;rw[pG0 (dt (by rw[lN];omega)),bg hf,bs,vP x f.aU (by omega),bs,wN n (by omega)];by_cases c1:((f.aU==4)||(f.aU==6))=true
 ·rw[pG0 c1,pG0 c1]
 rw[nG0 c1,nG0 c1];by_cases c2:(f.aU==5)=true
 ·rw[pG0 c2,pG0 c2]
 rw[nG0 c2,nG0 c2];rcases xS x.aC f.aU with⟨hl,_⟩ | ⟨i,c,hl,hc,hq⟩
 ·rw[hl,nG0 (df (by omega)),bs,nG0 (by simp),nG0 (by omega)];rfl
 ·rw[hl,pG0 (dt (by omega)),bg hc,bs,ng x c (by omega),bs,bs,hq];cases hcl:bR x.aC f.aU with
  | true=>rw[nG0 (by simp),nG0 (by simp)];rfl
  | false=>rw[pG0 (by simp),pG0 (by exact⟨by omega,rfl⟩)]
end V
namespace V
abbrev ME:=aI×List gy
def newC(r s:aQ):aT:=⟨r.am,s.am,r.bQ,r.bZ,r.cu,s.bZ,s.cu,s.aA,r.aA,r.aA,[],0,[],-1,false⟩
def o8(m:aI)(n:Int):ME:=match F8 m n with
 | none=>(m,[])
 | some (i,_)=>({ m with aj:=pE m.aj i },[wV 4 n 0 0])
def takeC(m:aI)(s:aQ):Option (Nat×aQ):=match m.aB.findIdx? (fun r=>fu r s)with
 | none=>none
 | some i=>match m.aB[i]? with
   | none=>none
   | some r=>some (i,r)
def fE(m:aI)(i:Nat):aI:={ m with aB:=pE m.aB i }
def ny(m:aI)(s:aQ):ME:=match takeC m s with
 | none=>(m,[])
 | some (i,r)=>
   if r.ae=20 then(if s.ae=1 then(fE m i,[wV 5 r.am 1 0])else if s.Result≠0 then(fE m i,[wV 5 r.am s.Result 0])else if (KQ m s.am).isSome=true then(fE m i,[wV 5 r.am 9 0])else({ fE m i with aj:=kM (newC r s) m.aj },[wV 2 r.am 0 0]))
   else if r.ae=6 then o8 (fE m i) r.am
   else(fE m i,[wV 7 0 (if s.ae=1 then 1 else s.Result) s.ID])
def Df(s:aQ)(r:Int):aQ:=⟨21,s.ID,0,0,0,0,0,0,r,zu⟩
def xM(id r:Int):aQ:=⟨1,id,0,0,0,0,0,0,r,zu⟩
def Py(s:aQ)(v:Int)(L:fA):aQ:=⟨21,s.ID,0,v,0,L.bZ,L.cu,L.aA,0,zu⟩
def zq(s:aQ)(v:Int)(L:fA):aT:=⟨v,s.am,s.bQ,L.bZ,L.cu,s.bZ,s.cu,s.aA,L.aA,L.aA,[],0,[],-1,false⟩
def V5(m:aI)(n:Int):Option fA:=match m.ak.findIdx? (fun o=>o.bQ==n)with
 | none=>none
 | some i=>m.ak[i]?
def nL(m:aI)(s:aQ):ME:=match V5 m s.bQ with
 | none=>(jR m (Df s 2),[])
 | some L=>if m.bc<L.bc then(jR m (Df s 5),[])else if 16<=gB m then(jR m (Df s 4),[])else if (KQ m s.am).isSome=true then(jR m (Df s 9),[])else(jR { m with aj:=kM (zq s (mW m) L) m.aj } (Py s (mW m) L),[wV 2 (mW m) 0 0])
def jV(m:aI)(s:aQ):ME:=match F8 m s.bT with
 | none=>(jR m (xM s.ID 2),[])
 | some (i,c)=>if c.ax≠s.am then(jR m (xM s.ID 2),[])else(jR { m with aj:=pE m.aj i } ⟨7,s.ID,0,s.am,s.bT,0,0,0,0,zu⟩,[wV 4 s.bT 0 0])
def jC(m:aI)(s:aQ):ME:=if m.iY=0 then(m,[⟨6,0,[],0,s.ai,s.ID⟩])else(jR m (xM s.ID 0),[])
def CV(c:aT)(n:Int):aT×Int:=if c.bd=true then(c,9)else if n<1 then({ c with bd:=true },5)else if n>65535-c.aO then({ c with bd:=true },19)else({ c with aO:=c.aO+n },0)
def uH(m:aI)(s:aQ):aI:=match KQ m s.am with
 | none=>m
 | some (i,c)=>if bR m c.ap=true then m else if (CV c s.aA).2≠0 then lX (gD m i (CV c s.aA).1) (CV c s.aA).1 else gD m i (CV c s.aA).1
def rG(m:aI)(s:aQ):ME:=
 if s.ae=20 then nL m s else if s.ae=6 then jV m s else if s.ae=18 then jC m s else if s.ae=22 then(uH m s,[])else ny m s
def DoesM(k:Nat)(P:Option bM)(r:ME):Prop:=P=some ⟨r.1,r.2⟩/\MInv k r.1/\r.2.length<=1
theorem KJ{k:Nat}{m:aI}(h:MInv k m)(hk:k<=900000000){s:aQ}(hs:lV s):DoesM (k+1) ((qf FF ⟨m,[]⟩ s).bind fun x=>some x) (jR m s,[]):=by
 have hol:=h.jL;have e1:=sP ⟨m,[]⟩ _ hs (by simp only;omega);refine⟨by rw[e1];rfl,h.say _,by simp⟩
theorem xU(m:aI)(n:Int):(V5 m n=none/\fidx (fun o:fA=>o.bQ==n) m.ak = -1)∨∃(i:Nat) (L:fA),V5 m n=some L/\fidx (fun o:fA=>o.bQ==n) m.ak=(i:Int)/\m.ak[i]? = some L:=by
 unfold V5 fidx;cases hq:m.ak.findIdx? (fun o=>o.bQ==n)with
 | none=>exact .inl ⟨rfl,rfl⟩
 | some i=>
   rw[List.findIdx?_eq_some_iff_getElem]at hq;obtain⟨h1,_⟩:=hq;exact .inr ⟨i,m.ak[i],gE h1,rfl,gE h1⟩
theorem SY{k:Nat}{m:aI}(h:MInv k m)(hk:k<=900000000){s:aQ}(hs:lV s)(hkd:s.ae=20):DoesM (k+1) (q4v FF ⟨m,[]⟩ s) (nL m s):=by
 have hal:=h.qY;have hcl:=h.qX;have hol:=h.jL;have hll:=h.K4;have hi:=vT hs;unfold q4v q5t nL;rw[WH m.ak s (by omega),bs,MX ⟨m,[]⟩ (by simp only;omega) (by simp only;omega) h.ids,bs];rcases xU m s.bQ with⟨q1,q2⟩ | ⟨i,L,q1,he,hx⟩
 ·rw[q1,q2,pG0 (dt (show(-1:Int)<0 by decide)),bs,pG0 (by decide)];exact KJ h hk (jN hi (r:=2) (by omega))
 ·have hlm:=h.MK _ (List.mem_of_getElem? hx);rw[q1,he,nG0 (df (by simp only;omega))];simp only[bg hx,bs];unfold q79;by_cases hlv:m.bc<L.bc
  ·rw[pG0 (dt hlv),pG0 hlv,bs,pG0 (by decide)];exact KJ h hk (jN hi (r:=5) (by omega))
  rw[nG0 (df hlv),nG0 hlv];by_cases hu:gB m<16
  ·rw[nG0 (c:=16<=gB m) (by omega)];simp only[dt hu,Bool.not_true,Bool.false_eq_true,if_false,pG0 hu,xL ⟨m,[]⟩ s.am (by simp only;omega),bs];rcases kX m s.am with⟨hn,hr,_⟩ | ⟨j,c,hn,hr,hc,_⟩
   ·rw[hr,hn,nG0 (df (by omega)),bg hx,bs,bs,nG0 (by simp),nG0 (by simp)];obtain⟨v,_,f2,f3,f4,f5⟩:=jr (m:=m) (by omega);obtain⟨g1,g2,g3,g4,g5⟩:=Lu hs (.inl hkd);have hq:=FK hi ⟨f4,f5⟩ hlm.1 hlm.2.1 hlm.2.2;have e1:=sP ⟨m,[]⟩ _ hq (by simp only;omega);have e3:=Ue (wm ⟨m,[]⟩ (jR m (Py s v L))) ⟨v,s.am,s.bQ,L.bZ,L.cu,s.bZ,s.cu,s.aA,L.aA,L.aA,[],0,[],0,false⟩ (show m.aj.length<=1000 by omega) (by simp[wm]);have hok:Sd.Ok (zq s v L):=by
     obtain⟨l1,l2,l3⟩:=hlm;unfold je at l1 l2;unfold countB at l3;simp only[Bool.and_eq_true,decide_eq_true_eq]at l1 l2 l3;refine⟨by simp only[zq];omega,g5 hkd,l1,l2,g2,g3,g4,l3,l3,by simp[zq],by simp[zq],by simp[Sd.lastOf,zq],by simp only[zq];omega,by simp[zq]⟩
    have hI:=abx h (l:=zq s v L) hok rfl f3 hu;rw[f2];refine⟨?_,hI.say _,by simp⟩;unfold Py zu at e3;unfold zu at e1;rw[e1,bs,e3];rfl
   ·rw[hr,hn,pG0 (dt (by omega)),bs,pG0 (by decide),pG0 (by simp)];exact KJ h hk (jN hi (r:=9) (by omega))
  ·rw[pG0 (c:=16<=gB m) (by omega)];simp only[decide_eq_false hu,Bool.not_false,if_true,bs];rw[pG0 (by decide)];exact KJ h hk (jN hi (r:=4) (by omega))
theorem Pb{k:Nat}{m:aI}(h:MInv k m)(hk:k<=900000000){s:aQ}(hs:lV s):DoesM (k+1) (q4n FF ⟨m,[]⟩ s) (jV m s):=by
 have hal:=h.qY;have hcl:=h.qX;have hol:=h.jL;have hi:=vT hs;have hrej:∀x:Int,DoesM (k+1) (q68 FF ⟨m,[]⟩ s x true) (jR m (xM s.ID 2),[]):=fun x=>KJ h hk (pU hi 1 (.inr ⟨rfl,.inr rfl⟩));unfold q4n jV;rw[vP ⟨m,[]⟩ s.bT (by simp only;omega),bs];rcases dQ m s.bT with⟨hn,hl,_⟩ | ⟨i,c,hn,hl,hc,hq⟩
 ·rw[hl,hn,pG0 (dt (by omega))];exact hrej _
 ·rw[hl,hn,nG0 (df (by omega)),bg hc,bs];simp only
  by_cases hr:c.ax=s.am
  ·rw[show(c.ax != s.am)=false by simp[hr],nG0 (not_not_intro hr)];have hcs:=lW (h.qW c (List.mem_of_getElem? hc));have hsd:=zy hi (src:=s.am) (dst:=s.bT) (by omega) (by omega) 7 (.inr rfl);have e1:=sP ⟨m,[]⟩ _ hsd (by simp only;omega);have e3:=D7 (wm ⟨m,[]⟩ (jR m ⟨7,s.ID,0,s.am,s.bT,0,0,0,0,zu⟩)) i c hc (show m.aj.length<=1000 by omega) (by simp[wm]);refine⟨?_,(h.shut i).say _,by simp⟩;show(qf FF ⟨m,[]⟩ ⟨7,s.ID,0,s.am,s.bT,0,0,0,0,⟨0,0,0,0,0⟩⟩).bind _=_;unfold zu at e1 e3;rw[e1,bs,e3,hq];rfl
  ·rw[show(c.ax != s.am)=true by simpa using hr,pG0 hr];exact hrej _
theorem Ox{k:Nat}{m:aI}(h:MInv k m)(hk:k<=900000000){s:aQ}(hs:lV s):DoesM (k+1) (q4p FF ⟨m,[]⟩ s) (jC m s):=by
 unfold q4p jC;by_cases hr:m.iY=0
 ·rw[pG0 (by simpa using hr),pG0 hr,uX _ _ (by simp only[List.length_nil];omega)];exact⟨rfl,h.more (by omega),by simp⟩
 ·rw[nG0 (by simpa using hr),nG0 hr];exact KJ h hk (pU (vT hs) 1 (.inr ⟨rfl,.inl rfl⟩))
theorem I5{k:Nat}{m:aI}(h:MInv k m)(hk:k<=900000000){i:Nat}{c c':aT}(hc:m.aj[i]? = some c)(hok:Sd.Ok c')(he:c'.ap=c.ap)(es:List gy):VL FF ⟨gD m i c',es⟩ (i:Int)=some ⟨lX (gD m i c') c',es⟩/\MInv (k+1) (lX (gD m i c') c'):=by
 have hI:=h.put hc hok he;have hal:=hI.qY;have hol:=hI.jL;have hlt:=(gS.1 hc).1;have hx:(gD m i c').aj[i]? = some c':=by unfold gD;simp[List.getElem?_set_self hlt]
 obtain⟨hs,hE⟩:=hI.lX (List.mem_of_getElem? hx);exact⟨Sn ⟨gD m i c',es⟩ i c' hx hs hI.next (by simp only;omega) (by simp only;omega),hE⟩
theorem JK(c:aT)(n:Int)(h:Sd.Ok c):q3r FF c n=some (CV c n)/\Sd.Ok (CV c n).1/\(CV c n).1.ap=c.ap:=by
 unfold q3r q69 q31 CV;rw[Sd.lg FF c (by decide) h.sm];simp only[bs];have hrx:=h.tx;have hf:Sd.Ok { c with bd:=true }:=by
  obtain⟨a1,a2,b1,b2,b3,b4,b5,b6,b7,a4,a5,c1,c2,c3⟩:=h;exact⟨a1,a2,b1,b2,b3,b4,b5,b6,b7,a4,a5,c1,c2,c3⟩
 by_cases h1:c.bd=true
 ·rw[pG0 h1,pG0 h1];exact⟨rfl,h,rfl⟩
 rw[nG0 h1,nG0 h1];rw[Sd.fB (x:=65535-c.aO) (by omega) (by omega)];by_cases h2:n<1
 ·rw[pG0 (c:=decide (n<1)=true) (dt h2),pG0 h2];exact⟨rfl,hf,rfl⟩
 rw[nG0 (c:=decide (n<1)=true) (df h2),nG0 h2];by_cases h3:n>65535-c.aO
 ·rw[pG0 (c:=decide (n>65535-c.aO)=true) (dt h3),pG0 h3];exact⟨rfl,hf,rfl⟩
 rw[nG0 (c:=decide (n>65535-c.aO)=true) (df h3),nG0 h3,bs,pG0 (by simp),Sd.fB (x:=c.aO+n) (by omega) (by omega)];have hff:c.bd=false:=by simpa using h1
 refine⟨rfl,?_,rfl⟩;obtain⟨a1,a2,b1,b2,b3,b4,b5,b6,b7,a4,a5,c1,c2,c3⟩:=h;exact⟨a1,a2,b1,b2,b3,b4,by simp only;omega,b6,b7,a4,a5,c1,c2,c3⟩
theorem SN{k:Nat}{m:aI}(h:MInv k m)(hk:k<=900000000)(s:aQ):DoesM (k+1) (q4x FF ⟨m,[]⟩ s) (uH m s,[]):=by
 have hal:=h.qY;have hcl:=h.qX;unfold q4x uH;rw[xL ⟨m,[]⟩ s.am (by simp only;omega),bs];rcases kX m s.am with⟨hq,hl,_⟩ | ⟨i,c,hq,hl,hc,hn⟩
 ·rw[hl,hq,pG0 (dt (by omega))];exact⟨rfl,h.more (by omega),by simp⟩
 ·rw[hl,hq,nG0 (df (by omega))];simp only[bg hc,bs,ng ⟨m,[]⟩ c (show m.aB.length<=1000000 by omega)];by_cases hb:bR m c.ap=true
  ·rw[pG0 hb,pG0 hb];exact⟨rfl,h.more (by omega),by simp⟩
  rw[nG0 hb,nG0 hb];have aa5:=h.qW c (List.mem_of_getElem? hc);obtain⟨e1,e3,e4⟩:=JK c s.aA aa5;obtain⟨p1,p3⟩:=I5 h hk hc e3 e4 [];unfold q7e q7d;simp only[e1,bg hc,sG hc,bs];by_cases hz:(CV c s.aA).2≠0
  ·rw[pG0 (c:=((CV c s.aA).2 != 0)=true) (by simpa using hz),pG0 hz];refine⟨?_,p3,by simp⟩;show(VL FF ⟨gD m i (CV c s.aA).1,[]⟩ (i:Int)).bind _=_;rw[p1];rfl
  ·rw[nG0 (c:=((CV c s.aA).2 != 0)=true) (by simpa using hz),nG0 hz];exact⟨rfl,(h.put hc e3 e4).more (by omega),by simp⟩
end V
namespace V
theorem mP(m:aI)(s:aQ):(takeC m s=none/\m.aB.findIdx? (fun r=>fu r s)=none)∨∃(i:Nat) (r:aQ),takeC m s=some (i,r)/\m.aB.findIdx? (fun r=>fu r s)=some i/\m.aB[i]? = some r/\fu r s=true:=by
 unfold takeC;cases hq:m.aB.findIdx? (fun r=>fu r s)with
 | none=>exact .inl ⟨rfl,rfl⟩
 | some i=>
   rw[List.findIdx?_eq_some_iff_getElem]at hq;obtain⟨h1,h2,_⟩:=hq;have hx:m.aB[i]? = some m.aB[i]:=gE h1;refine .inr ⟨i,m.aB[i],?_,rfl,hx,h2⟩;simp only[hx]
theorem Ap(m:aI)(s:aQ)(hl:m.aB.length<=1000):q16 FF ⟨m,[]⟩ s=some (match takeC m s with
 | none=>(zs,false,⟨m,[]⟩)
 | some (i,r)=>(r,true,⟨fE m i,[]⟩)):=by
 have hdel:∀(i:Nat) (r:aQ),m.aB[i]? = some r->q3p FF m.aB (i:Int) (aK ((i:Int)+1))=some (pE m.aB i):=fun i r hr=>by
  have hlt:=(gS.1 hr).1;unfold q3p pE;rw[wN i (by omega),pG0 (by omega)];rfl
 have k1:=kZ (F:=FF) (body:=fun q:aQ×Int=>Yb FF m.aB q.1 q.2) (l:=m.aB) (p:=fun r=>fu r s) (c:=s) (g:=fun i=>(i,s)) (fun i x hx=>by
  have hlt:=(gS.1 hx).1;show Yb FF m.aB _ _=_;unfold Yb q5q;rw[pG0 (by simp[len];omega),bg hx];simp only[bs,abw,wN i (by omega)];split <;> rfl) (by
  show Yb FF m.aB _ _=_;unfold Yb;rw[nG0 (by simp[len])]) (by rw[jW];omega)
 have k1':q4k FF m.aB s=some (fidx (fun r=>fu r s) m.aB,s):=by
  unfold q4k fidx;rw[k1];cases m.aB.findIdx? (fun r=>fu r s) <;> rfl
 unfold q16;rw[k1',bs];rcases mP m s with⟨h1,h2⟩ | ⟨i,r,h1,h2,hx,_⟩
 ·have:fidx (fun r=>fu r s) m.aB = -1:=by unfold fidx;rw[h2]
  rw[this,h1];rfl
 ·have he:fidx (fun r=>fu r s) m.aB=(i:Int):=by unfold fidx;rw[h2]
  rw[he,h1,nG0 (df (by simp only;omega))];simp only[bg hx,bs,hdel i _ hx];rfl
theorem EN{k:Nat}{m:aI}(h:MInv k m)(n:Int):DoesM k (q2y FF ⟨m,[]⟩ n) (o8 m n):=by
 have hcl:=h.qX;unfold q2y o8;rw[vP ⟨m,[]⟩ n (by simp only;omega),bs];rcases dQ m n with⟨hq,hl,_⟩ | ⟨i,c,hq,hl,hc,hc2⟩
 ·rw[hl,hq,nG0 (df (by omega))];exact⟨rfl,h,by simp⟩
 ·rw[hl,hq,pG0 (dt (by omega)),D7 ⟨m,[]⟩ i c hc (by simp only;omega) (by simp),hc2];exact⟨rfl,h.shut i,by simp⟩
theorem Px{k:Nat}{m:aI}(h:MInv k m){i:Nat}{r s:aQ}(hr:m.aB[i]? = some r)(Ju:r.ae=20)(hs:lV s)(hq:s.ae=21)(hz:s.Result=0):MInv k { fE m i with aj:=kM (newC r s) m.aj }/\(∀d∈m.aj,d.ap≠r.am):=by
 obtain⟨hrs,sV⟩:=h.ask r (eZ hr);obtain⟨g1,g2,g3,g4,_⟩:=Lu hs (.inr ⟨hq,hz⟩);obtain⟨k1,k2,k3,k4,k5⟩:=Lu hrs (.inl Ju);have hok:Sd.Ok (newC r s):=⟨by simp only[newC];omega,k5 Ju,k2,k3,g2,g3,g4,k4,k4,by simp[newC],by simp[newC],by simp[Sd.lastOf,newC],by simp only[newC];omega,by simp[newC]⟩;have hne:∀d∈m.aj,d.ap≠r.am:=fun d hd e=>h.yh d hd r (eZ hr) Ju e.symm;refine⟨(h.drop i).add hok hne (fun t ht htk=>Io h hr Ju t ht (.inl htk)) ?_,hne⟩;refine Nat.le_trans (sF (m:=m) fun v hv=>?_) h.cnt;rcases(LU { m with aB:=pE m.aB i } _ v).1 hv with hv | hv
 ·rw[dS]at hv ⊢;rcases hv with hv | ⟨t,ht,hq⟩
  ·exact .inl hv
  ·exact .inr ⟨t,(sS m.aB i).subset ht,hq⟩
 ·exact(dS m v).2 (.inr ⟨r,eZ hr,.inl Ju,hv.symm⟩)
theorem TL{k:Nat}{m:aI}(h:MInv k m){s:aQ}(hs:lV s) :
 (s.ae=1->DoesM k (q4m FF ⟨m,[]⟩ s) (ny m s))/\(s.ae=7->DoesM k (q4o FF ⟨m,[]⟩ s) (ny m s))/\(s.ae=19->DoesM k (q4q FF ⟨m,[]⟩ s) (ny m s))/\(s.ae=21->DoesM k (q4w FF ⟨m,[]⟩ s) (ny m s)):=by
 have hal:=h.qY;have hcl:=h.qX;unfold q4m q4o q4q q4w ny;rw[Ap m s (by omega)];rcases mP m s with⟨h1,_⟩ | ⟨i,r,h1,_,hr,ha⟩
 ·rw[h1];exact⟨fun _=>⟨rfl,h,by simp⟩,fun _=>⟨rfl,h,by simp⟩,fun _=>⟨rfl,h,by simp⟩,fun _=>⟨rfl,h,by simp⟩⟩
 ·rw[h1];simp only[bs,Bool.not_true,Bool.false_eq_true,if_false,if_true];have hI:MInv k (fE m i):=h.drop i;obtain⟨hrs,sV⟩:=h.ask r (eZ hr);unfold fu at ha;have Jt:∀e:gy,qe FF ⟨fE m i,[]⟩ e=some ⟨fE m i,[e]⟩:=fun e=>uX _ _ (by simp);refine⟨fun hq=>?_,fun hq=>?_,fun hq=>?_,fun hq=>?_⟩
  ·rcases sV with sV | sV | sV
   ·rw[pG0 (by simp[sV]),pG0 sV,pG0 hq,Jt];exact⟨rfl,hI,by simp⟩
   ·rw[nG0 (by simp[sV]),pG0 (by simp[sV]),nG0 (by omega),pG0 sV];obtain⟨z1,z2,z3⟩:=EN hI r.am;exact⟨by rw[z1];rfl,z2,z3⟩
   ·rw[nG0 (by simp[sV]),nG0 (by simp[sV]),pG0 (by simp[sV]),nG0 (by omega),nG0 (by omega),pG0 hq,Jt];exact⟨rfl,hI,by simp⟩
  ·have hr6:r.ae=6:=by
    rcases sV with sV | sV | sV
    ·simp[hq,sV]at ha
    ·exact sV
    ·simp[hq,sV]at ha
   have hsr:s.am=r.am:=by simp[hq,hr6]at ha;exact ha.2.1
   rw[nG0 (by omega),pG0 hr6,hsr];obtain⟨z1,z2,z3⟩:=EN hI r.am;exact⟨by rw[z1];rfl,z2,z3⟩
  ·have hr18:r.ae=18:=by
    rcases sV with sV | sV | sV
    ·simp[hq,sV]at ha
    ·simp[hq,sV]at ha
    ·exact sV
   rw[nG0 (by omega),nG0 (by omega),nG0 (by omega),Jt];exact⟨rfl,hI,by simp⟩
  ·have Ju:r.ae=20:=by
    rcases sV with sV | sV | sV
    ·exact sV
    ·simp[hq,sV]at ha
    ·simp[hq,sV]at ha
   rw[pG0 (c:=r.ae=20) Ju,nG0 (c:=s.ae=1) (by omega)];by_cases hz:s.Result=0
   ·rw[nG0 (c:=(s.Result != 0)=true) (by simp[hz]),nG0 (c:=s.Result≠0) (not_not_intro hz),xL ⟨fE m i,[]⟩ s.am (by simp only[fE];omega)];simp only[bs];have hrc:FU (fE m i) s.am=FU m s.am:=rfl;rw[hrc];rcases kX m s.am with⟨hn,hl,_⟩ | ⟨j,c,hn,hl,hc,_⟩
    ·rw[hl,hn,nG0 (df (by omega)),nG0 (by simp)];obtain⟨hN,_⟩:=Px h hr Ju hs hq hz;have e3:=Ue ⟨fE m i,[]⟩ ⟨r.am,s.am,r.bQ,r.bZ,r.cu,s.bZ,s.cu,s.aA,r.aA,r.aA,[],0,[],0,false⟩ (show m.aj.length<=1000 by omega) (by simp);refine⟨?_,hN,by simp⟩;rw[e3];rfl
    ·rw[hl,hn,pG0 (dt (by omega)),pG0 (by simp),Jt];exact⟨rfl,hI,by simp⟩
   ·rw[pG0 (c:=(s.Result != 0)=true) (by simpa using hz),pG0 (c:=s.Result≠0) hz,Jt];exact⟨rfl,hI,by simp⟩
def LB(m:aI):List Int->ME
 | x::y::_=>if y≠0/\x≠1 then(jR m (xM y 0),[])else(m,[])
 | _=>(m,[])
def Da(m:aI)(b:List Int):ME:=if (Sg.qN b).2=0 then rG m (Sg.qN b).1 else LB m b
theorem DoesM.left{k:Nat}{P:Option bM}{r:ME}(h:DoesM k P r):DoesM k (P.bind fun x=>some x) r:=⟨by rw[h.1];rfl,h.2⟩
theorem DoesM.more{k n:Nat}{P:Option bM}{r:ME}(h:DoesM k P r)(hn:k<=n):DoesM n P r:=⟨h.1,h.2.1.more hn,h.2.2⟩
theorem TB{k:Nat}{m:aI}(h:MInv k m)(hk:k<=900000000){b:List Int}(hb:∀x∈b,Byte x)(s:aQ)(e:Int)(he:e≠0)(h1:q3n FF b=some (s,e)):DoesM (k+1) (q1y FF ⟨m,[]⟩ b) (LB m b):=by
 unfold q1y;rw[h1,bs];have hz:(e != 0)=true:=by simpa using he
 rw[pG0 (c:=((s,e).2 != 0)=true) hz]
 match b,hb with
 | [],_=>exact⟨rfl,h.more (by omega),by simp[LB]⟩
 | [_],_=>exact⟨rfl,h.more (by omega),by simp[LB]⟩
 | x::y::r,hb=>
   have hx:=hb x (by simp);have hy:=hb y (by simp);have i0:idx (x::y::r) 0=some x:=dN _ 0;have i1:idx (x::y::r) 1=some y:=dN _ 1;have hl:decide (len (x::y::r)≥2)=true:=dt (by simp[len];omega);unfold LB;simp only[hl,if_true,i0,i1,bs,Qj hy];by_cases hy0:y=0
   ·rw[nG0 (c:=y≠0/\x≠1) (fun q=>q.1 hy0)];simp only[hy0,bne_self_eq_false,Bool.false_eq_true,if_false,bs];exact⟨rfl,h.more (by omega),by simp⟩
   ·rw[pG0 (c:=(y != 0)=true) (by simpa using hy0),bs];by_cases hx1:x=1
    ·rw[nG0 (c:=(x != 1)=true) (by simp[hx1]),nG0 (c:=y≠0/\x≠1) (fun q=>q.2 hx1)];exact⟨rfl,h.more (by omega),by simp⟩
    ·rw[pG0 (c:=(x != 1)=true) (by simpa using hx1),pG0 (c:=y≠0/\x≠1) ⟨hy0,hx1⟩];have:=hy.1;have:=hy.2;exact KJ h hk (pU (id:=y) (by omega) 1 (.inr ⟨rfl,.inl rfl⟩))
theorem Qy{k:Nat}{m:aI}(h:MInv k m)(hk:k<=900000000){b:List Int}(hb:∀x∈b,Byte x)(hl:b.length<=1000000):DoesM (k+1) (q1y FF ⟨m,[]⟩ b) (Da m b):=by
 have d1:=Sg.U9 b hb hl;unfold Da;rcases Sg.Pd b hb with⟨_,c2⟩ | ⟨c1,c2,c3,_⟩
 ·rw[nG0 c2];exact TB h hk hb _ _ c2 d1
 ·rw[pG0 c1];generalize Sg.qN b=z at *;obtain⟨s,e⟩:=z;simp only at c1 c2 c3;subst c1;have hs:lV s:=⟨c2,c3⟩;obtain⟨t1,t7,t19,t21⟩:=TL h hs;have hkn:=(Sg.jk c2).1;unfold q1y;rw[d1,bs,nG0 (c:=((s,(0:Int)).2 != 0)=true) (by simp)];unfold q3o rG;simp only[bs];rcases Sg.kinds s.ae with q | q | q | q | q | q | q | q | q
  ·simp only[q,Int.reduceBEq,Int.reduceEq,Bool.or_true,Bool.true_or,Bool.or_false,Bool.false_or,if_true,if_false,Bool.false_eq_true];exact(t1 q).left.more (by omega)
  ·simp only[q,Int.reduceBEq,Int.reduceEq,Bool.or_true,Bool.true_or,Bool.or_false,Bool.false_or,if_true,if_false,Bool.false_eq_true];exact(Pb h hk hs).left
  ·simp only[q,Int.reduceBEq,Int.reduceEq,Bool.or_true,Bool.true_or,Bool.or_false,Bool.false_or,if_true,if_false,Bool.false_eq_true];exact(t7 q).left.more (by omega)
  ·simp only[q,Int.reduceBEq,Int.reduceEq,Bool.or_true,Bool.true_or,Bool.or_false,Bool.false_or,if_true,if_false,Bool.false_eq_true];exact(Ox h hk hs).left
  ·simp only[q,Int.reduceBEq,Int.reduceEq,Bool.or_true,Bool.true_or,Bool.or_false,Bool.false_or,if_true,if_false,Bool.false_eq_true];exact(t19 q).left.more (by omega)
  ·simp only[q,Int.reduceBEq,Int.reduceEq,Bool.or_true,Bool.true_or,Bool.or_false,Bool.false_or,if_true,if_false,Bool.false_eq_true];exact(SY h hk hs q).left
  ·simp only[q,Int.reduceBEq,Int.reduceEq,Bool.or_true,Bool.true_or,Bool.or_false,Bool.false_or,if_true,if_false,Bool.false_eq_true];exact(t21 q).left.more (by omega)
  ·simp only[q,Int.reduceBEq,Int.reduceEq,Bool.or_true,Bool.true_or,Bool.or_false,Bool.false_or,if_true,if_false,Bool.false_eq_true];exact(SN h hk s).left
  ·obtain⟨q1,q2,q3,q4,q5,q6,q7,q8⟩:=q;simp[Sg.aJ,q1,q2,q3,q4,q5,q6,q7,q8]at hkn
end V
namespace V
def oH(c:aT)(b:List Int):aT×List (List Int)×Int:=
 if c.bd=true then(c,[],9)else if (Sd.tkn c b).2.2≠0 then({ c with bd:=true },[],(Sd.tkn c b).2.2)else Sd.grown c (Sd.tkn c b).1 (Sd.tkn c b).2.1
theorem MR(c:aT)(b:List Int)(hb:b.length<=65536)(hB:∀x∈b,Byte x)(h:Sd.Ok c):q4z FF c b=some (oH c b)/\Sd.Ok (oH c b).1/\((oH c b).1.ap=c.ap/\(oH c b).1.ax=c.ax)/\(oH c b).2.1.length<=1/\((oH c b).2.2=0->(oH c b).1.bd=false):=by
 have hs:=h.sm;unfold q4z oH;rw[Sd.lg FF c (by decide) hs,bs,Sd.Ap FF c b hs hb hB h,bs];have hf:Sd.Ok { c with bd:=true }:=by
  obtain⟨a1,a2,b1,b2,b3,b4,b5,b6,b7,a4,a5,c1,c2,c3⟩:=h;exact⟨a1,a2,b1,b2,b3,b4,b5,b6,b7,a4,a5,c1,c2,c3⟩
 by_cases h1:c.bd=true
 ·rw[pG0 h1,pG0 h1];exact⟨rfl,h,⟨rfl,rfl⟩,by simp,fun e=>by cases e⟩
 rw[nG0 h1,nG0 h1];by_cases h0:(Sd.tkn c b).2.2=0
 ·rw[nG0 (c:=((Sd.tkn c b).2.2 != 0)=true) (by simpa using h0),nG0 (c:=(Sd.tkn c b).2.2≠0) (not_not_intro h0)];have hrx:c.aG≠0:=fun e=>by simp[Sd.tkn,e]at h0
  have hwant:=h.want;have key:(Sd.tkn c b).1.length<=1000000/\0<=(Sd.tkn c b).2.1/\(Sd.tkn c b).2.1<=c.bZ:=by
   unfold Sd.tkn at h0 ⊢;rw[nG0 hrx]at h0 ⊢;by_cases h3:len b>c.cu
   ·simp[pG0 h3]at h0
   rw[nG0 h3]at h0 ⊢;by_cases h4:c.bi = -1
   ·rw[pG0 h4]at h0 ⊢
    match b,hB,hb,h0 with
    | [],_,_,h0=>simp at h0
    | [x],_,_,h0=>simp at h0
    | x::y::r,hB,hb,h0=>
      have hx:=hB x (by simp);have hy:=hB y (by simp);by_cases h6:x+256*y>c.bZ∨(r.length:Int)>x+256*y
      ·simp[pG0 h6]at h0
      ·simp only[nG0 h6];unfold Byte at hx hy;exact⟨by simp at hb;omega,by omega,by omega⟩
   ·rw[nG0 h4]at h0 ⊢;by_cases h5:len b=0
    ·simp[pG0 h5]at h0
    rw[nG0 h5]at h0 ⊢;by_cases h6:len c.In+len b>c.bi
    ·simp[pG0 h6]at h0
    rw[nG0 h6];exact⟨by simp only;omega,by simp only;omega,by simp only;omega⟩
  obtain⟨k1,k2,k3⟩:=key;exact⟨Sd.NV FF c _ _ (by decide) hs k1,(Sd.Jz hs h hrx k2 k3).1,⟨by unfold Sd.grown;split <;> rfl,by unfold Sd.grown;split <;> rfl⟩,(Sd.Jz hs h hrx k2 k3).2.2,fun _=>by unfold Sd.grown;split <;> simpa using h1⟩
 ·rw[pG0 (c:=((Sd.tkn c b).2.2 != 0)=true) (by simpa using h0),pG0 (c:=(Sd.tkn c b).2.2≠0) h0];exact⟨rfl,hf,⟨rfl,rfl⟩,by simp,fun e=>absurd e h0⟩
def full(c:aT):aT:={ c with aG:=c.bh }
theorem MW(c:aT)(h:Sd.Ok c)(hf:c.bd=false)(h1:c.bh-c.aG>0):q50 FF c (c.bh-c.aG)=some (full c,0)/\Sd.Ok (full c):=by
 have hrx:=h.rx;have hg:=h.given;have e:aK (c.aG+(c.bh-c.aG))=c.bh:=by rw[Sd.fB (by omega) (by omega)];omega
 have e2:aK (65535-c.aG)=65535-c.aG:=Sd.fB (by omega) (by omega);constructor
 ·unfold q50 q6a q31;rw[Sd.lg FF c (by decide) h.sm];simp only[bs];rw[nG0 (by simp[hf]),e2,nG0 (df (by omega)),nG0 (df (by omega)),bs,pG0 (by simp),e];rfl
 ·obtain⟨a1,a2,b1,b2,b3,b4,b5,b6,b7,a4,a5,c1,c2,c3⟩:=h;exact⟨a1,a2,b1,b2,b3,b4,b5,hg,b7,a4,a5,c1,c2,c3⟩
def Ls(m:aI)(c:aT):aQ:=⟨22,uy m,0,c.ap,0,0,0,c.bh-c.aG,0,zu⟩
def needs(c:aT):Prop:=c.bh-c.aG>0/\2*c.aG<=c.bh
instance(c:aT):Decidable (needs c):=inferInstanceAs (Decidable (_/\_))
def FN(c:aT)(l:List (List Int)):List gy:=l.map fun d=>⟨3,c.ap,d,0,zu,0⟩
def kS(m:aI)(i:Nat)(c:aT)(b:List Int):ME:=
 if (oH c b).2.2≠0 then(lX (gD m i (oH c b).1) (oH c b).1,[])
 else if needs (oH c b).1 then(jR (j5 (gD m i (full (oH c b).1))) (Ls m (oH c b).1),FN (oH c b).1 (oH c b).2.1)
 else(gD m i (oH c b).1,FN (oH c b).1 (oH c b).2.1)
theorem A9(m:aI)(i:Nat)(c d:aT):gD (gD m i c) i d=gD m i d:=by
 unfold gD;simp only[List.set_set]
theorem Pe{k:Nat}{m:aI}(h:MInv k m)(hk:k<=900000000){i:Nat}{c:aT}(hc:m.aj[i]? = some c){b:List Int}(hb:∀x∈b,Byte x)(hl:b.length<=65536):DoesM (k+1) (q3s FF ⟨m,[]⟩ (i:Int) b) (kS m i c b):=by
 have hal:=h.qY;have hcl:=h.qX;have hol:=h.jL;have aa5:=h.qW c (eZ hc);obtain⟨e1,e3,⟨e4,e5⟩,e6,e7⟩:=MR c b hl hb aa5;unfold q3s kS;generalize oH c b=q at *;simp only[bg hc,bs,e1,sG hc];unfold q7k;have hP:=h.put hc e3 e4;by_cases hz:q.2.2≠0
 ·rw[pG0 (c:=(q.2.2 != 0)=true) (by simpa using hz),pG0 hz];obtain⟨p1,p3⟩:=I5 h hk hc e3 e4 [];refine⟨?_,p3,by simp⟩;show(VL FF ⟨gD m i q.1,[]⟩ (i:Int)).bind _=_;rw[p1];rfl
 rw[nG0 (c:=(q.2.2 != 0)=true) (by simpa using hz),nG0 hz];have hf:=e7 (by simpa using hz);have t:=NQ ⟨gD m i q.1,[]⟩ q e6 rfl;unfold gD at t;rw[t,bs];have hx:=vH (c':=q.1) hc;have hrx:=e3.rx;have hgv:=e3.given;have hEl:(FN q.1 q.2.1).length<=1:=by unfold FN;rw[List.length_map];exact e6
 rw[show(q.2.1.map fun d=>(⟨3,q.1.ap,d,0,zu,0⟩:gy))=FN q.1 q.2.1 from rfl];generalize FN q.1 q.2.1=E at hEl ⊢;unfold q7j;rw[Sd.fB (x:=q.1.bh-q.1.aG) (by omega) (by omega),half _ hgv];by_cases hg:needs q.1
 ·rw[pG0 hg];obtain⟨hg1,hg2⟩:=hg;rw[nG0 (c:=decide (q.1.bh-q.1.aG<=0)=true) (df (by omega)),bs,nG0 (c:=decide (q.1.aG>q.1.bh/2)=true) (df (by omega))];obtain⟨g1,g3⟩:=MW q.1 e3 hf hg1;rw[g1,bs,pG0 (by simp)];have hl2:(full q.1).ap=q.1.ap:=rfl;have hP2:=hP.put hx g3 hl2;have hal2:=hP2.qY;have hol2:=hP2.jL;have aa1:=lW g3;have hq:=L8 (nS hP2) (src:=(full q.1).ap) (cr:=q.1.bh-q.1.aG) aa1.1 (by omega);have s1:=YA ⟨gD (gD m i q.1) i (full q.1),E⟩ hP2.next (by simp only;omega);have s3:=sP (wm ⟨gD (gD m i q.1) i (full q.1),E⟩ (j5 (gD (gD m i q.1) i (full q.1)))) _ hq (show(gD (gD m i q.1) i (full q.1)).Out.length<=1000000000 by omega);have hx':(m.aj.set i q.1)[i]? = some q.1:=hx;have hR:MInv (k+1) (jR (j5 (gD m i (full q.1))) (Ls m q.1)):=by
   have:=hP2.tick.say (Ls m q.1);rw[A9]at this;exact this
  refine⟨?_,hR,hEl⟩;simp only[bg hx',bs,sG hx'];unfold q7i;show(q1r FF ⟨gD (gD m i q.1) i (full q.1),E⟩).bind _=_;rw[s1,bs,Sd.fB (x:=q.1.bh-q.1.aG) (by omega) (by omega)];unfold zu at s3;rw[s3,← A9 m i q.1 (full q.1)];rfl
 ·rw[nG0 hg];unfold needs at hg;refine⟨?_,hP.more (by omega),hEl⟩;by_cases h0:q.1.bh-q.1.aG<=0
  ·rw[pG0 (dt h0),bs,pG0 rfl];rfl
  ·rw[nG0 (df h0),bs,pG0 (dt (by omega))];rfl
def iE(m:aI)(f:bJ):ME:=
 if f.aU=4∨f.aU=6 then(m,[⟨1,f.aU,f.al,0,zu,0⟩])
 else if f.aU=5 then Da m f.al
 else match F8 m f.aU with
  | none=>(m,[])
  | some (i,c)=>if bR m f.aU=true then(m,[])else kS m i c f.al
def uR(m:aI)(p:eH):ME:=match (Fr.feed m.ay p).2.1 with
 | []=>({ m with ay:=(Fr.feed m.ay p).1 },[])
 | f::_=>iE { m with ay:=(Fr.feed m.ay p).1 } f
theorem RY{k:Nat}{m:aI}(h:MInv k m)(hk:k<=900000000){f:bJ}(hb:∀x∈f.al,Byte x)(hl:f.al.length<=65531):DoesM (k+1) (VT ⟨m,[]⟩ f) (iE m f):=by
 have hal:=h.qY;have hcl:=h.qX;unfold VT iE;by_cases c4:f.aU=4∨f.aU=6
 ·rw[pG0 (c:=((f.aU==4)||(f.aU==6))=true) (by simpa using c4),pG0 c4,uX _ _ (by simp)]
  exact⟨rfl,h.more (by omega),by simp⟩
 rw[nG0 (c:=((f.aU==4)||(f.aU==6))=true) (by simpa using c4),nG0 c4]
 by_cases c5:f.aU=5
 ·rw[pG0 (c:=(f.aU==5)=true) (by simpa using c5),pG0 c5];exact Qy h hk hb (by omega)
 rw[nG0 (c:=(f.aU==5)=true) (by simpa using c5),nG0 c5];rcases dQ m f.aU with⟨hn,hl',_⟩ | ⟨i,c,hn,hl',hc,hq⟩
 ·rw[hl',hn,nG0 (by omega)];exact⟨rfl,h.more (by omega),by simp⟩
 ·rw[hl',hn];simp only
  cases hcl:bR m f.aU with
  | true=>
    rw[nG0 (by simp),pG0 rfl];exact⟨rfl,h.more (by omega),by simp⟩
  | false=>
    rw[pG0 (by exact⟨by omega,rfl⟩),nG0 (by simp)];exact Pe h hk hc hb (by omega)
theorem Cj{k:Nat}{m:aI}(h:MInv k m)(hk:k<=900000000){p:eH}(hp:∀x∈p.al,Byte x)(hl:p.al.length<=200000):qr FF m p=some (uR m p)/\MInv (k+1) (uR m p).1/\(uR m p).2.length<=1:=by
 have hal:=h.qY;have hcl:=h.qX;have hI:=h.gK (Fr.wu h.asm hp);have hpay:=Sb h.asm hp;have hfr:=Fr.JE m.ay p;unfold qr uR;rw[vJ FF m ff (h.sz (by omega)),bs,Fr.WK h.asm hp hl,bs];generalize Fr.feed m.ay p=x at *;unfold q7n q7m q7l;have hF:FF=(FF-2)+1+1:=by rw[jW]
 match hq:x.2.1,hfr with
 | [],_=>
   refine⟨?_,hI.more (by omega),by simp⟩;rw[hF,aX (o:=(⟨{ m with ay:=x.1 },[]⟩:bM)) (by
    rw[← hF];show q1z FF [] _ 0=_;unfold q1z;rw[nG0 (df (by simp[len]))])]
   rfl
 | [f],_=>
   obtain⟨b1,b2⟩:=hpay f (by rw[hq];simp);obtain⟨z1,z2,z3⟩:=RY hI hk b1 b2;refine⟨?_,z2,z3⟩;have o:=aap ⟨{ m with ay:=x.1 },[]⟩ [f] f 0 rfl (by omega) (by simp only;omega) (by simp only;omega);rw[z1,bs,show((0:Nat):Int)=0 from rfl]at o;rw[hF,bU (s':=((⟨(iE { m with ay:=x.1 } f).1,(iE { m with ay:=x.1 } f).2⟩:bM),(1:Int))) (by
    rw[← hF];exact o),aX (o:=(⟨(iE { m with ay:=x.1 } f).1,(iE { m with ay:=x.1 } f).2⟩:bM)) (by
    rw[← hF];show q1z FF [f] _ 1=_;unfold q1z;rw[nG0 (df (by simp[len]))])]
   rfl
end V
namespace V
def qQ:Nat->aT->aT×List (List Int)
 | 0,c=>(c,[])
 | n+1,c=>match c.Out with
   | []=>(c,[])
   | s::r=>if c.aO>0 then((qQ n (Sd.zL c s r)).1,Sd.partOf c s::(qQ n (Sd.zL c s r)).2)else(c,[])
def tH(c:aT):aT×List (List Int):=if c.bd=true then(c,[])else qQ 65536 c
theorem Rn(c:aT)(s:List Int)(r:List (List Int)):(Sd.zL c s r).ap=c.ap/\(Sd.zL c s r).ax=c.ax:=by unfold Sd.zL;split <;> exact⟨rfl,rfl⟩
theorem I9:∀(n:Nat) (F:Nat) (c:aT) (l:List (List Int)),Sd.Ok c->Sd.Sm c->c.aO<n->n<=F->l.length+c.aO<=100000->
 iter (fun s:aT×List (List Int)=>UG FF s.1 s.2) F (c,l)=some ((qQ n c).1,l++(qQ n c).2)/\Sd.Ok (qQ n c).1/\((qQ n c).1.ap=c.ap/\(qQ n c).1.ax=c.ax)/\(qQ n c).2.length<=c.aO.toNat/\∀f∈(qQ n c).2,f.length<=4096
 | 0,F,c,l,h,_,hn,_,_=>by have:=h.tx;omega
 | n+1,F,c,l,h,hs,hn,hF,hl=>by
   have htx:=h.tx;obtain⟨G,rfl⟩:∃G,F=G+1:=⟨F-1,by omega⟩;unfold qQ;cases ho:c.Out with
   | nil=>
     refine⟨?_,h,⟨rfl,rfl⟩,by simp,by simp⟩;rw[List.append_nil];refine aX ?_;show UG FF c l=_;unfold UG;rw[nG0 (by rw[ho];simp[len])]
   | cons s r=>
     simp only
     by_cases hc:c.aO>0
     ·rw[pG0 hc];have h1:=Sd.QD FF c l s r (by decide) (by omega) h ho hc;obtain⟨k1,k2,k3⟩:=Sd.KY h hs ho hc;have h3:UG FF c l=some (.next (Sd.zL c s r,l++[Sd.partOf c s])):=by
       unfold UG;rw[pG0 (by rw[ho];simp[len];omega),h1];rfl
      obtain⟨q1,q2,⟨q3,q4⟩,q5,q6⟩:=I9 n G (Sd.zL c s r) (l++[Sd.partOf c s]) k1 k2 (by omega) (by omega) (by simp;omega);obtain⟨n1,n2⟩:=Rn c s r;refine⟨?_,q2,⟨q3.trans n1,q4.trans n2⟩,?_,fun f hf=>?_⟩
      ·rw[bU (s':=(Sd.zL c s r,l++[Sd.partOf c s])) h3,q1,List.append_assoc];rfl
      ·rw[lC0];omega
      ·rcases List.mem_cons.1 hf with rfl | hf
       ·have:=h.aan;unfold Sd.partOf;rw[lT0];omega
       ·exact q6 f hf
     ·rw[nG0 hc];refine⟨?_,h,⟨rfl,rfl⟩,by simp,by simp⟩;rw[List.append_nil];refine aX ?_;show UG FF c l=_;unfold UG;rw[nG0 (by simpa using fun _=>hc)]
theorem Rm(c:aT)(h:Sd.Ok c):q4d FF c=some (tH c)/\Sd.Ok (tH c).1/\((tH c).1.ap=c.ap/\(tH c).1.ax=c.ax)/\(tH c).2.length<=65535/\∀f∈(tH c).2,f.length<=4096:=by
 have htx:=h.tx;unfold q4d q6v q6u tH;rw[Sd.lg FF c (by decide) h.sm,bs];by_cases hf:c.bd=true
 ·rw[pG0 hf,pG0 hf];exact⟨rfl,h,⟨rfl,rfl⟩,by simp,by simp⟩
 ·rw[nG0 hf,nG0 hf];obtain⟨q1,q2,q3,q4,q5⟩:=I9 65536 FF c [] h h.sm (by omega) (by decide) (by simp;omega);rw[q1];exact⟨rfl,q2,q3,by omega,q5⟩
def gZ(m:aI)(c:aT):aT:=if bR m c.ap=true then c else(tH c).1
def gQ(m:aI)(c:aT):List (List Int):=if bR m c.ap=true then []else(tH c).2
def l6(fr:List (List (List Int))):Nat:=fr.foldl (fun a f=>max a f.length) 0
def uJ(m:aI):aI:=iw (m.aj.map (gZ m)) (m.aj.map (gQ m)) { m with aj:=m.aj.map (gZ m) } (l6 (m.aj.map (gQ m)))
theorem sZ(m:aI){c:aT}(h:Sd.Ok c):Sd.Ok (gZ m c)/\(gZ m c).ap=c.ap/\(gZ m c).ax=c.ax:=by
 unfold gZ;split
 ·exact⟨h,rfl,rfl⟩
 ·obtain⟨_,h2,h3,_⟩:=Rm c h;exact⟨h2,h3⟩
theorem Na(m:aI){c:aT}(h:Sd.Ok c):(gQ m c).length<=100000/\∀f∈gQ m c,f.length<=4096:=by
 unfold gQ;split
 ·exact⟨by simp,by simp⟩
 ·obtain⟨_,_,_,h3,h4⟩:=Rm c h;exact⟨by omega,h4⟩
theorem OM(fr:List (List (List Int)))(f:List (List Int)):l6 (fr++[f])=max (l6 fr) f.length:=by unfold l6;rw[List.foldl_append];rfl
theorem MF(n:Nat):∀(fr:List (List (List Int))) (a:Nat),a<=n->(∀f∈fr,f.length<=n)->fr.foldl (fun a f=>max a f.length) a<=n
 | [],a,ha,_=>ha
 | f::fr,a,ha,h=>by
   refine MF n fr _ ?_ fun g hg=>h g (by simp[hg]);have:=h f (by simp);show max a f.length<=n;omega
theorem O4{k:Nat}(m:aI)(h:MInv k m)(x:bM)(hx:x.aC=m):iter (fun s:List aT×List (List (List Int))×Int×Int=>VD FF x s.1 s.2.1 s.2.2.1 s.2.2.2) FF (m.aj,List.replicate m.aj.length [],0,0)=some (m.aj.map (gZ m),m.aj.map (gQ m),(l6 (m.aj.map (gQ m)):Int)):=by
 have hn:=h.qX;have ha:=h.qY;have key:=dZ (body:=fun s:List aT×List (List (List Int))×Int×Int=>VD FF x s.1 s.2.1 s.2.2.1 s.2.2.2) (fun i=>((m.aj.take i).map (gZ m)++m.aj.drop i,(m.aj.take i).map (gQ m)++List.replicate (m.aj.length-i) [],(l6 ((m.aj.take i).map (gQ m)):Int),(i:Int))) m.aj.length (m.aj.map (gZ m),m.aj.map (gQ m),(l6 (m.aj.map (gQ m)):Int)) (fun i hi=>by
  have hci:m.aj[i]? = some m.aj[i]:=gE hi;have hok:=h.qW _ (gM hi);generalize m.aj[i]=c at hci hok;have ht:m.aj.take (i+1)=m.aj.take i++[c]:=(jc hci).symm;have hdr:m.aj.drop i=c::m.aj.drop (i+1):=by
   have hlt:=hi;rw[List.drop_eq_getElem_cons hlt];rw[gE hlt]at hci;injection hci with hci;rw[hci]
  have hlen1:((m.aj.take i).map (gZ m)).length=i:=by rw[List.length_map,lT0];omega
  have Cm:((m.aj.take i).map (gQ m)).length=i:=by rw[List.length_map,lT0];omega
  have hrep:List.replicate (m.aj.length-i) ([]:List (List Int))=[]::List.replicate (m.aj.length-(i+1)) []:=by
   rw[show m.aj.length-i=m.aj.length-(i+1)+1 by omega,List.replicate_succ]
  have hxl:((m.aj.take i).map (gZ m)++m.aj.drop i)[i]? = some c:=by
   rw[List.getElem?_append_right (by omega),hdr,show i-((m.aj.take i).map (gZ m)).length=0 by omega];rfl
  have hxf:((m.aj.take i).map (gQ m)++List.replicate (m.aj.length-i) [])[i]? = some ([]:List (List Int)):=by
   rw[List.getElem?_append_right (by omega),hrep,show i-((m.aj.take i).map (gQ m)).length=0 by omega];rfl
  have aep:∀d,((m.aj.take i).map (gZ m)++m.aj.drop i).set i d=(m.aj.take i).map (gZ m)++[d]++m.aj.drop (i+1):=fun d=>by
   rw[List.set_append,nG0 (by omega),show i-((m.aj.take i).map (gZ m)).length=0 by omega,hdr];simp
  have RL:∀d:List (List Int),((m.aj.take i).map (gQ m)++List.replicate (m.aj.length-i) []).set i d=(m.aj.take i).map (gQ m)++[d]++List.replicate (m.aj.length-(i+1)) []:=fun d=>by
   rw[List.set_append,nG0 (by omega),show i-((m.aj.take i).map (gQ m)).length=0 by omega,hrep];simp
  have aeB:∀q:List (List Int),((m.aj.take i).map (gQ m)++[q]++List.replicate (m.aj.length-(i+1)) [])[i]? = some q:=fun q=>by
   rw[List.append_assoc,List.getElem?_append_right (by omega),show i-((m.aj.take i).map (gQ m)).length=0 by omega];simp
  show VD FF x ((m.aj.take i).map (gZ m)++m.aj.drop i) ((m.aj.take i).map (gQ m)++List.replicate (m.aj.length-i) []) (l6 ((m.aj.take i).map (gQ m)):Int) (i:Int)=some (.next ((m.aj.take (i+1)).map (gZ m)++m.aj.drop (i+1),(m.aj.take (i+1)).map (gQ m)++List.replicate (m.aj.length-(i+1)) [],(l6 ((m.aj.take (i+1)).map (gQ m)):Int),((i+1:Nat):Int)));rw[ht,List.map_append,List.map_append,mC,mC,List.map_nil,List.map_nil,OM];unfold VD q6z q62;rw[pG0 (dt (by rw[hx,lN];omega)),bg hxl,bs,ng _ c (by rw[hx];simp only;omega),bs];rw[show bR ({ x with aC:={ x.aC with aj:=(m.aj.take i).map (gZ m)++m.aj.drop i } }:bM).aC c.ap=bR m c.ap from by rw[← hx];rfl];by_cases hb:bR m c.ap=true
  ·have f1:gZ m c=c:=by unfold gZ;rw[pG0 hb]
   have f2:gQ m c=[]:=by unfold gQ;rw[pG0 hb]
   rw[pG0 hb,f1,f2,wN i (by omega),hrep,hdr];simp
  ·have f1:gZ m c=(tH c).1:=by unfold gZ;rw[nG0 hb]
   have f2:gQ m c=(tH c).2:=by unfold gQ;rw[nG0 hb]
   obtain⟨q1,_⟩:=Rm c hok;have hmx:imax (l6 ((m.aj.take i).map (gQ m)):Int) (len (tH c).2)=((max (l6 ((m.aj.take i).map (gQ m))) (tH c).2.length:Nat):Int):=by unfold imax;rw[lN];split <;> omega
   rw[nG0 hb,f1,f2,q1];simp only[bs,sG hxl,bg hxf,sG hxf,aep,RL,bg (aeB (tH c).2),hmx,wN i (by omega)]) (by
  show VD FF x _ _ _ _=_;unfold VD;rw[nG0 (df (by rw[hx,lN];simp))];simp) FF 0 (by omega) (by rw[jW];omega)
 have m0:l6 []=0:=rfl;simpa [m0]using key
theorem Q5{k:Nat}{m:aI}(h:MInv k m)(hk:k<=900000000){l:List aT}(hml:m.aj=l){fr:List (List (List Int))}(hlen:fr.length=l.length)(hn:l.length<=16)(hf:∀f∈fr,f.length<=100000/\∀b∈f,b.length<=4096)(x:bM)(hx:x.aC=m)(rd:Nat)(hrd:rd<=100000) :
 iter (fun s:bM×Int=>VF FF fr (rd:Int) s.1 s.2) FF (x,0)=some (wm x (fG l fr rd m fr.length)):=by
 have hl:∀c∈l,Sd.Ok c:=by rw[← hml];exact h.qW
 have hf':∀f∈fr,∀b∈f,b.length<=4096:=fun f hq=>(hf f hq).2;have hinv:=uo h hl hf' rd;have at1:∀i,i<fr.length->∃f c,fr[i]? = some f/\l[i]? = some c/\f.length<=100000:=fun i hi=>
  ⟨fr[i],l[i]'(by omega),gE hi,gE (by omega),(hf _ (gM hi)).1⟩
 ·have k1:=dZ (body:=fun s:bM×Int=>VF FF fr (rd:Int) s.1 s.2) (fun i=>(wm x (fG l fr rd m i),(i:Int))) fr.length (wm x (fG l fr rd m fr.length)) (fun i hi=>by
   obtain⟨f,c,hfi,hci,hfl⟩:=at1 i hi;obtain⟨hI,hC⟩:=hinv i;have hol:=hI.jL;show VF FF fr (rd:Int) (wm x (fG l fr rd m i)) (i:Int)=_;unfold VF q61;rw[pG0 (dt (by rw[lN];omega)),bg hfi,bs,jf];by_cases hr:rd<f.length
   ·have hb:f[rd]? = some f[rd]:=gE hr;have hbl:=hf' f (List.mem_of_getElem? hfi) _ (gM hr);have e:Kk l fr rd (fG l fr rd m i) i=qd (fG l fr rd m i) c.ax f[rd]:=by simp only[Kk,hfi,hci,hb]
    have hcc:(wm x (fG l fr rd m i)).aC.aj[i]? = some c:=by
     show(fG l fr rd m i).aj[i]? = _;rw[hC,hml,hci]
    rw[pG0 (dt (by rw[lN];omega)),bg hb,bs,bg hcc,bs,AZ _ _ _ (by omega) (by show(fG l fr rd m i).Out.length<=_;omega),bs,wN i (by omega),e];rfl
   ·have hb:f[rd]? = none:=List.getElem?_eq_none (by omega);have e:Kk l fr rd (fG l fr rd m i) i=fG l fr rd m i:=by simp only[Kk,hfi,hci,hb]
    rw[nG0 (df (by rw[lN];omega)),wN i (by omega),e]) (by
   show VF FF fr (rd:Int) _ _=_;unfold VF;rw[nG0 (df (by rw[lN];simp))]) FF 0 (by omega) (by rw[jW];omega)
  have e0:wm x (fG l fr rd m 0)=x:=by
   show wm x m=x;rw[← hx];rfl
  rw[e0]at k1;exact k1
theorem Cw{k:Nat}{m:aI}(h:MInv k m)(hk:k<=800000000):q4e FF ⟨m,[]⟩=some ⟨uJ m,[]⟩/\MInv (k+1600000) (uJ m):=by
 have hcl:=h.qX;have hal:=h.qY;have hol:=h.jL;unfold q4e uJ;have g1:=O4 m h ⟨m,[]⟩ rfl;have g4:∀c∈m.aj.map (gZ m),Sd.Ok c:=fun c hc=>by
  obtain⟨d,hd,rfl⟩:=List.mem_map.1 hc;exact(sZ m (h.qW d hd)).1
 have g7:∀f∈m.aj.map (gQ m),f.length<=100000/\∀b∈f,b.length<=4096:=fun f hf=>by
  obtain⟨d,hd,rfl⟩:=List.mem_map.1 hf;exact Na m (h.qW d hd)
 have g6:l6 (m.aj.map (gQ m))<=100000:=MF 100000 _ 0 (by omega) fun f hf=>(g7 f hf).1;have g3:(m.aj.map (gZ m)).map (·.ap)=m.aj.map (·.ap):=by
  rw[List.map_map];exact List.map_congr_left fun c hc=>(sZ m (h.qW c hc)).2.1
 have hfl:(m.aj.map (gQ m)).length=(m.aj.map (gZ m)).length:=by simp
 generalize m.aj.map (gZ m)=l at *;generalize m.aj.map (gQ m)=fr at *;generalize l6 fr=most at *;simp only
 rw[lN,BO (by omega) (by omega),bs,g1,bs];have h2:MInv k { m with aj:=l }:=h.chans g3 g4;have hll:l.length=m.aj.length:=by simpa using congrArg List.length g3
 have hf':∀f∈fr,∀b∈f,b.length<=4096:=fun f hq=>(g7 f hq).2;have hinv:=rM h2 g4 hf';have hle:∀i,i<=most->k+i*fr.length<=k+1600000:=fun i hi=>by
  have:i*fr.length<=100000*16:=Nat.mul_le_mul (by omega) (by omega);omega
 refine⟨?_,(hinv most).1.more (hle most (lR _))⟩;unfold q6y q6w;have k1:=dZ (body:=fun s:bM×Int=>VE FF fr (most:Int) s.1 s.2) (fun i=>(wm ⟨m,[]⟩ (iw l fr { m with aj:=l } i),(i:Int))) most (wm ⟨m,[]⟩ (iw l fr { m with aj:=l } most)) (fun i hi=>by
  obtain⟨hI,hC⟩:=hinv i;have:=hle i (by omega);show VE FF fr (most:Int) (wm ⟨m,[]⟩ (iw l fr { m with aj:=l } i)) (i:Int)=_;unfold VE q6x;rw[pG0 (dt (by omega)),Q5 (hI.more this) (by omega) (l:=l) hC (by omega) (by omega) g7 _ rfl i (by omega),bs,iN,wN i (by omega)];rfl) (by
  show VE FF fr (most:Int) _ _=_;unfold VE;rw[nG0 (df (by simp))]) FF 0 (by omega) (by rw[jW];omega)
 rw[show((0:Nat):Int)=0 from rfl]at k1;show(iter (fun s:bM×Int=>VE FF fr (most:Int) s.1 s.2) FF (wm ⟨m,[]⟩ (iw l fr { m with aj:=l } 0),0)).bind (fun o=>some o)=_;rw[k1];rfl
end V
namespace V
def gq(m:aI):aI×eH×Bool:=match m.Out with
 | []=>(m,⟨0,[]⟩,false)
 | f::t=>(jA m f t,VN m f,true)
def tJ(m:aI):aI:=if m.Out=[]then uJ m else m
def iD(m:aI):aI×eH×Bool:=gq (tJ m)
theorem FZ{k:Nat}{m:aI}(h:MInv k m)(hk:k<=900000000):q5k FF ⟨m,[]⟩=some (gq m)/\MInv k (gq m).1:=by
 have hol:=h.jL;unfold q5k gq;cases ho:m.Out with
 | nil=>
   rw[pG0 (by simp[len])];exact⟨rfl,h⟩
 | cons f t=>
   have hf:=h.out f (by rw[ho];simp);have hse:=h.sent f t ho;have hlr:=F9 m;rw[ho,lC0]at hol;have hcond:¬ ((len (f::t)==0)=true):=by simp[len];omega
   rw[nG0 hcond,show idx (f::t) 0=some f from rfl,bs];have hFO:Fr.FOk f:=⟨by omega,by omega⟩;have henc:Fr.enc f=(Fr.bytesOf f,0):=by
    unfold Fr.enc;rw[nG0 (by omega),nG0 (by omega)]
   rw[Fr.abl hFO,henc,bs];have hL:len (Fr.bytesOf f)=(f.al.length:Int)+4:=by rw[lN,Fr.jl];omega
   have a1:imax 0 (cZ m.aV ((f.al.length:Int)+4))=m.aV:=by unfold imax cZ;split <;> split <;> omega
   have a2:imax 27 (cZ m.Length 251)=lim m:=by unfold imax cZ lim;split <;> split <;> (try split) <;> (try split) <;> omega
   have a3:cZ (imax m.Length 27) 251=lim m:=by unfold imax cZ lim;split <;> split <;> (try split) <;> (try split) <;> omega
   have a4:aK ((f.al.length:Int)+4-m.aV)=(f.al.length:Int)+4-m.aV:=bP (by omega) (by omega);have a5:cZ ((f.al.length:Int)+4-m.aV) (lim m)=toM m f-m.aV:=by unfold cZ toM;split <;> omega
   have a6:aK (m.aV+(toM m f-m.aV))=toM m f:=by unfold toM;rw[bP (by omega) (by omega)];omega
   have a7:aK (m.aV+lim m)=m.aV+lim m:=bP (by omega) (by omega);have a8:cZ ((f.al.length:Int)+4) (m.aV+lim m)=toM m f:=by unfold cZ toM;split <;> omega
   have hto:m.aV<toM m f/\toM m f<=(f.al.length:Int)+4:=by unfold toM;omega
   have hsub:sub (Fr.bytesOf f) m.aV (toM m f)=some (((Fr.bytesOf f).take (toM m f).toNat).drop m.aV.toNat):=by
    have:=lu (Fr.bytesOf f) m.aV.toNat (toM m f).toNat (by omega) (by rw[Fr.jl];omega);rw[show((m.aV.toNat:Nat):Int)=m.aV by omega,show(((toM m f).toNat:Nat):Int)=toM m f by omega]at this;exact this
   have hcl:(((Fr.bytesOf f).take (toM m f).toNat).drop m.aV.toNat).length<=10000:=by rw[List.length_drop,lT0,Fr.jl];omega
   simp only[a1,a2,a3,a4,a5,a6,a7,hL,a8,hsub,bs];rw[join_one FF _ (by rw[jW];omega) (by omega),bs];have hI:MInv k (jA m f t):=by
    unfold jA;split
    ·exact h.outs (fun g hg=>by rw[ho];simp[hg]) (by rw[ho];simp) (fun _=>rfl) (fun g r e=>by omega)
    ·rename_i hne;refine(h.outs (o:=m.Out) (s:=toM m f) (fun g hg=>hg) (lR _) (fun e=>by rw[ho]at e;cases e) (fun g r e=>?_));rw[ho]at e;injection e with e1 _;subst e1;omega
   have hprog:∀ll:Int,q5j FF ⟨m,[]⟩ (Fr.bytesOf f,0) (((Fr.bytesOf f).take (toM m f).toNat).drop m.aV.toNat) ll=some (jA m f t,⟨ll,((Fr.bytesOf f).take (toM m f).toNat).drop m.aV.toNat⟩,true):=fun ll=>by
    unfold q5j q63 q70 jA;simp only[a1,a2,a4,a5,a6,hL];by_cases hq:toM m f=(f.al.length:Int)+4
    ·have hs1:sub (f::t) 1 (len (f::t))=some t:=by
      have:=lu (f::t) 1 (f::t).length (by simp) (by simp);rw[List.take_length]at this;exact this
     rw[pG0 (dt (by omega)),pG0 hq,ho,hs1];rfl
    ·rw[nG0 (df (by omega)),nG0 hq]
   refine⟨?_,hI⟩;unfold VN;by_cases h0:m.aV=0
   ·rw[pG0 (by simpa using h0),hprog 2,pG0 h0]
   ·rw[nG0 (by simpa using h0),hprog 1,nG0 h0]
theorem EB{k:Nat}{m:aI}(h:MInv k m)(hk:k<=800000000):q14 FF m=some (iD m)/\MInv (k+1600000) (iD m).1:=by
 have hol:=h.jL;unfold q14 iD tJ;rw[vJ FF m ff (h.sz (by omega)),bs];by_cases h0:m.Out=[]
 ·obtain⟨c1,c3⟩:=Cw h hk;rw[pG0 (c:=(len m.Out==0)=true) (by rw[h0];rfl),pG0 h0,c1,bs];exact FZ c3 (by omega)
 ·have hlen:m.Out.length≠0:=fun e=>h0 (List.eq_nil_of_length_eq_zero e);rw[nG0 (c:=(len m.Out==0)=true) (by rw[lN];simpa using h0),nG0 h0];obtain⟨q1,q2⟩:=FZ h (by omega);exact⟨q1,q2.more (by omega)⟩
end V
namespace V
namespace Po
theorem SX(m:aI)(psm ru mps cr:Int):fZ (eF m psm ru mps cr).1<=fZ m+314:=by
 unfold eF;split
 ·simp only;omega
 split
 ·simp only;omega
 split
 ·simp only;omega
 ·have:=Mk m ⟨20,0,psm,mW m,0,ru,mps,cr,0,zu⟩ (by simp only;omega);have e:oO 20=10:=by decide
  simp only[e]at this;simp only
  omega
theorem WR(m:aI)(n:Int):fZ (uG m n).1<=fZ m:=by
 unfold uG;rcases dQ m n with⟨h,_⟩ | ⟨i,c,h,_,hc,_⟩
 ·rw[h];exact lR _
 ·rw[h];simp only
  split
  ·exact lR _
  split
  ·exact lR _
  ·exact FW m (eZ hc)
theorem Z8(c:aT)(b:List Int):CW (Mj c b).1<=CW c+5*b.length+94:=by
 unfold Mj;split
 ·simp only;omega
 split
 ·simp only;omega
 split
 ·simp only;omega
 ·unfold CW;simp only[List.map_append,mC,List.map_nil,List.sum_append,List.sum_cons,List.sum_nil];unfold NW;omega
theorem QC(m:aI)(n:Int)(b:List Int):fZ (jB m n b).1<=fZ m+5*b.length+94:=by
 unfold jB;rcases dQ m n with⟨h,_⟩ | ⟨i,c,h,_,hc,_⟩
 ·rw[h];simp only;omega
 ·rw[h];simp only
  split
  ·simp only;omega
  split
  ·have hl:(Mj c b).1.ap=c.ap:=by unfold Mj;(repeat' split) <;> rfl
   have h1:=zI m hc hl;have h2:=Z8 c b;simp only
   omega
  ·simp only;omega
theorem VO(m:aI)(u:jF):fZ (jX m u).1<=fZ m+98:=by
 unfold jX;split
 ·simp only;omega
 split
 ·simp only;omega
 split
 ·simp only;omega
 split
 ·simp only;omega
 ·have:=Mk m ⟨18,0,0,0,0,0,0,0,0,u⟩ (by simp only;omega);have e:oO 18=2:=by decide
  simp only[e]at this;simp only
  omega
theorem Vu(m:aI)(id r:Int):fZ (kg m id r).1<=fZ m+44:=by
 unfold kg;split
 ·simp only;omega
 split
 ·simp only;omega
 split
 ·simp only;omega
 ·have:=nP m ⟨19,id,0,0,0,0,0,0,r,zu⟩ (by simp only;omega);have e:oO 19=0:=by decide
  simp only[e]at this;simp only
  omega
theorem WW(m:aI)(s:aQ):fZ (nL m s).1<=fZ m+260:=by
 have hr:∀r,fZ (jR m (Df s r))<=fZ m+260:=fun r=>by
  have:=nP m (Df s r) (by simp only[Df];omega);have e:oO 21=4:=by decide
  rw[show(Df s r).ae=21 from rfl,e]at this;omega
 unfold nL;split
 ·exact hr 2
 split
 ·exact hr 5
 split
 ·exact hr 4
 split
 ·exact hr 9
 ·rename_i L _ _ _ _;have h1:=Ml m (zq s (mW m) L) rfl;have h2:=nP { m with aj:=kM (zq s (mW m) L) m.aj } (Py s (mW m) L) (by simp only[Py];omega);have e:oO 21=4:=by decide
  rw[show(Py s (mW m) L).ae=21 from rfl,e]at h2;simp only
  omega
theorem FV(m:aI)(id r:Int):fZ (jR m (xM id r))<=fZ m+44:=by
 have:=nP m (xM id r) (by simp only[xM];omega);have e:oO 1=0:=by decide
 rw[show(xM id r).ae=1 from rfl,e]at this;omega
theorem SG(m:aI)(s:aQ):fZ (jV m s).1<=fZ m+44:=by
 unfold jV;rcases dQ m s.bT with⟨h,_⟩ | ⟨i,c,h,_,hc,_⟩
 ·rw[h];exact FV m s.ID 2
 ·rw[h];simp only
  split
  ·exact FV m s.ID 2
  ·have h1:=I7 m hc;have h2:=nP { m with aj:=pE m.aj i } ⟨7,s.ID,0,s.am,s.bT,0,0,0,0,zu⟩ (by simp only;omega);have e:oO 7=0:=by decide
   simp only[e]at h2;simp only
   omega
theorem Rh(m:aI)(s:aQ):fZ (jC m s).1<=fZ m+44/\(m.iY=0->(jC m s).1=m):=by
 unfold jC;split
 ·exact⟨by simp only;omega,fun _=>rfl⟩
 ·rename_i h;exact⟨FV m s.ID 0,fun e=>absurd e h⟩
theorem abo(c:aT)(n:Int):CW (CV c n).1=CW c/\(CV c n).1.ap=c.ap:=by
 unfold CV
 (repeat' split) <;> exact⟨rfl,rfl⟩
theorem WU(m:aI)(s:aQ):fZ (uH m s)<=fZ m:=by
 unfold uH;rcases kX m s.am with⟨h,_⟩ | ⟨i,c,h,_,hc,_⟩
 ·rw[h];exact lR _
 ·rw[h];simp only
  obtain⟨k1,k2⟩:=abo c s.aA;have h1:=zI m hc k2;split
  ·exact lR _
  split
  ·have h2:=FW (gD m i (CV c s.aA).1) (eZ (vH (c':=(CV c s.aA).1) hc));omega
  ·omega
theorem qG(m:aI){i:Nat}{r:aQ}(hr:m.aB[i]? = some r)(l:Int)(h:r.ae≠6∨r.am≠l):bR (fE m i) l=bR m l:=by
 have hlt:=(gS.1 hr).1;have he:m.aB=m.aB.take i++r::m.aB.drop (i+1):=by
  have h1:m.aB.drop i=r::m.aB.drop (i+1):=by
   rw[List.drop_eq_getElem_cons hlt];rw[gE hlt]at hr;injection hr with hr;rw[hr]
  rw[← h1,List.take_append_drop]
 have hf:((r.ae==6)&&(r.am==l))=false:=by
  rcases h with h | h
  ·simp[h]
  ·simp[h]
 unfold bR fE pE
 conv=>rhs;rw[he]
 simp only[List.any_append,List.any_cons,hf,Bool.false_or]
theorem JI(m:aI){i:Nat}{r:aQ}(hr:m.aB[i]? = some r)(h:r.ae≠6):fZ (fE m i)=fZ m:=by
 have e:lS (fE m i)=lS m:=funext fun c=>by
  unfold lS UL;rw[qG m hr c.ap (.inl h)]
 unfold fZ;rw[e];rfl
end Po
end V
namespace V
namespace Po
theorem acU{l:List aT}(h:l.Pairwise fun a b=>a.ap<b.ap){i:Nat}{c:aT}(hc:l[i]? = some c):∀d∈pE l i,d.ap≠c.ap:=by
 have hlt:=(gS.1 hc).1;have he:l=l.take i++c::l.drop (i+1):=by
  have h1:l.drop i=c::l.drop (i+1):=by
   rw[List.drop_eq_getElem_cons hlt];rw[gE hlt]at hc;injection hc with hc;rw[hc]
  rw[← h1,List.take_append_drop]
 rw[he,List.pairwise_append,List.pairwise_cons]at h;obtain⟨_,⟨h2,_⟩,h3⟩:=h;intro d hd;unfold pE at hd;rcases List.mem_append.1 hd with hd | hd
 ·have:=h3 d hd c (by simp);omega
 ·have:=h2 d hd;omega
theorem RX{k:Nat}{m:aI}(h:MInv k m){i:Nat}{r:aQ}(hr:m.aB[i]? = some r):fZ (o8 (fE m i) r.am).1<=fZ m:=by
 unfold o8;rcases dQ (fE m i) r.am with⟨hq,_,hn⟩ | ⟨j,c,hq,_,hc,hl⟩
 ·rw[hq];have:((fE m i).aj.map (lS (fE m i))).sum<=(m.aj.map (lS m)).sum:=Au _ _ _ fun d hd=>by
   unfold lS UL;rw[qG m hr d.ap (.inr fun e=>hn d hd e.symm)];exact lR _
  unfold fZ;exact Nat.add_le_add_right this _
 ·rw[hq];have hcm:m.aj[j]? = some c:=hc;have h1:=I7 m hcm;have hne:=acU h.NR hcm;have e:((pE m.aj j).map (lS (fE m i))).sum<=((pE m.aj j).map (lS m)).sum:=Au _ _ _ fun d hd=>by
   unfold lS UL;rw[qG m hr d.ap (.inr fun e=>hne d hd (by rw[hl,e]))];exact lR _
  have e2:fZ { fE m i with aj:=pE (fE m i).aj j }<=fZ { m with aj:=pE m.aj j }:=by
   unfold fZ;exact Nat.add_le_add_right e _
  exact Nat.le_trans e2 (by omega)
theorem Xh{k:Nat}{m:aI}(h:MInv k m)(s:aQ)(hs:lV s)(hk:s.ae=1∨s.ae=7∨s.ae=19∨s.ae=21):fZ (ny m s).1<=fZ m+27*oO s.ae:=by
 unfold ny;rcases mP m s with⟨h1,_⟩ | ⟨i,r,h1,_,hr,ha⟩
 ·rw[h1];simp only;omega
 ·rw[h1];simp only
  by_cases h20:r.ae=20
  ·have hd:=JI m hr (by omega);rw[pG0 h20];split
   ·simp only;omega
   split
   ·simp only;omega
   split
   ·simp only;omega
   ·rename_i c1 c2 c3;have hkk:s.ae=21:=by
     unfold fu at ha;rcases hk with hk | hk | hk | hk
     ·exact absurd hk c1
     ·simp[h20,hk]at ha
     ·simp[h20,hk]at ha
     ·exact hk
    have e:oO 21=4:=by decide
    have h2:=Ml (fE m i) (newC r s) rfl;rw[hkk,e];have e2:(fE m i).aj=m.aj:=rfl;rw[e2]at h2;simp only
    omega
  ·rw[nG0 h20];by_cases h6:r.ae=6
   ·rw[pG0 h6];have:=RX h hr;omega
   ·rw[nG0 h6];have hd:=JI m hr h6;simp only
    omega
theorem U7{k:Nat}{m:aI}(h:MInv k m)(s:aQ)(hs:lV s):fZ (rG m s).1<=fZ m+27*oO s.ae:=by
 have hkn:=(Sg.jk hs.1).1;unfold rG;by_cases k20:s.ae=20
 ·rw[pG0 k20,k20];have:=WW m s;have e:oO 20=10:=by decide
  rw[e];omega
 rw[nG0 k20];by_cases k6:s.ae=6
 ·rw[pG0 k6,k6];have:=SG m s;have e:oO 6=2:=by decide
  rw[e];omega
 rw[nG0 k6];by_cases k18:s.ae=18
 ·rw[pG0 k18,k18];have:=(Rh m s).1;have e:oO 18=2:=by decide
  rw[e];omega
 rw[nG0 k18];by_cases k22:s.ae=22
 ·rw[pG0 k22];have:=WU m s;simp only
  omega
 rw[nG0 k22];refine Xh h s hs ?_;rcases Sg.kinds s.ae with q | q | q | q | q | q | q | q | q
 ·exact .inl q
 ·exact absurd q k6
 ·exact .inr (.inl q)
 ·exact absurd q k18
 ·exact .inr (.inr (.inl q))
 ·exact absurd q k20
 ·exact .inr (.inr (.inr q))
 ·exact absurd q k22
 ·obtain⟨q1,q2,q3,q4,q5,q6,q7,q8⟩:=q;simp[Sg.aJ,q1,q2,q3,q4,q5,q6,q7,q8]at hkn
theorem Wq(c:aT)(b:List Int):CW (oH c b).1=CW c/\(oH c b).1.ap=c.ap:=by
 unfold oH;split
 ·exact⟨rfl,rfl⟩
 split
 ·exact⟨rfl,rfl⟩
 ·unfold Sd.grown;split <;> exact⟨rfl,rfl⟩
theorem SK(m:aI){i:Nat}{c:aT}(hc:m.aj[i]? = some c)(b:List Int):fZ (kS m i c b).1<=fZ m+44:=by
 obtain⟨e1,e2⟩:=Wq c b;have h1:=zI m hc e2;unfold kS;split
 ·have h2:=FW (gD m i (oH c b).1) (eZ (vH (c':=(oH c b).1) hc));simp only
  omega
 split
 ·have h3:=zI m (c':=full (oH c b).1) hc e2;have e3:CW (full (oH c b).1)=CW (oH c b).1:=rfl;have h4:=nP (j5 (gD m i (full (oH c b).1))) (Ls m (oH c b).1) (by simp only[Ls];omega);rw[BD]at h4;have e:oO 22=0:=by decide
  rw[show(Ls m (oH c b).1).ae=22 from rfl,e]at h4;simp only
  omega
 ·simp only
  omega
end Po
end V
namespace V
namespace Po
def wS(f:bJ):Prop:=f.aU=5->∃s,lV s/\f.al=Sg.gX s
theorem Jv{s:aQ}(hs:lV s):(Sg.gX s).headD 0=s.ae:=by
 have hk:=(Sg.jk hs.1).1;have:0<=s.ae/\s.ae<256:=Sg.xV hk;unfold Sg.gX;show kP s.ae=s.ae;exact FB this.1 this.2
theorem Wx{k:Nat}{m:aI}(h:MInv k m){f:bJ}(hg:wS f):fZ (iE m f).1<=fZ m+27*frX f:=by
 unfold iE frX;by_cases c4:f.aU=4∨f.aU=6
 ·rw[pG0 c4];simp only;omega
 rw[nG0 c4,nG0 c4];by_cases c5:f.aU=5
 ·obtain⟨s,hs,hp⟩:=hg c5;rw[pG0 c5,pG0 c5,hp,Jv hs];unfold Da;rw[Sg.nX hs.1 hs.2,pG0 rfl];exact U7 h s hs
 ·rw[nG0 c5,nG0 c5];rcases dQ m f.aU with⟨hn,_⟩ | ⟨i,c,hn,_,hc,_⟩
  ·rw[hn];simp only;omega
  ·rw[hn];simp only
   split
   ·simp only;omega
   ·have:=SK m hc f.al;omega
def Lh(l:List (List Int)):Nat:=(l.map fun p=>p.length+84).sum
theorem VU{c:aT}{s:List Int}{r:List (List Int)}(h:Sd.Ok c)(ho:c.Out=s::r):(Sd.partOf c s).length+84+CW (Sd.zL c s r)<=CW c:=by
 have hs:=h.sent;have hm:=h.aan;rw[show Sd.lastOf c=1+s.length by unfold Sd.lastOf;rw[ho]]at hs;have hp:(Sd.partOf c s).length=min c.dx.toNat (s.length+2-c.aV.toNat):=by
  unfold Sd.partOf;rw[lT0,List.length_drop,Sd.mJ]
 rw[hp];unfold Sd.zL CW;by_cases hc:c.aV+c.dx≥s.length+2
 ·rw[pG0 hc,ho];simp only[mC,List.sum_cons];unfold NW;show _+84+((r.map NW).sum-5*(0:Int).toNat)<=_;rw[show(0:Int).toNat=0 from rfl];unfold NW;omega
 ·rw[nG0 hc,ho];simp only[mC,List.sum_cons];have:(c.aV+c.dx).toNat=c.aV.toNat+c.dx.toNat:=by omega
  rw[this];unfold NW;omega
theorem Mt:∀(n:Nat) (c:aT),Sd.Ok c->Sd.Sm c->Lh (qQ n c).2+CW (qQ n c).1<=CW c
 | 0,c,_,_=>by unfold qQ Lh;simp
 | n+1,c,h,hs=>by
   unfold qQ;cases ho:c.Out with
   | nil=>unfold Lh;simp
   | cons s r=>
     simp only
     by_cases hc:c.aO>0
     ·rw[pG0 hc];obtain⟨k1,k2,_⟩:=Sd.KY h hs ho hc;have h1:=Mt n (Sd.zL c s r) k1 k2;have h2:=VU h ho;unfold Lh at h1 ⊢;simp only[mC,List.sum_cons];omega
     ·rw[nG0 hc];unfold Lh;simp
theorem WY(m:aI){c:aT}(h:Sd.Ok c):Lh (gQ m c)+CW (gZ m c)<=CW c:=by
 unfold gQ gZ;split
 ·unfold Lh;simp
 ·unfold tH;split
  ·unfold Lh;simp
  ·exact Mt 65536 c h h.sm
def later(fr:List (List (List Int)))(rd:Nat):Nat:=(fr.map fun f=>Lh (f.drop rd)).sum
def BX(fr:List (List (List Int)))(rd n:Nat):Nat:=((fr.take n).map fun f=>Lh (f.drop (rd+1))).sum+((fr.drop n).map fun f=>Lh (f.drop rd)).sum
theorem RZ(c:Int)(p:List Int)(h:64<=c):Kq ⟨c,p⟩=p.length+84:=by
 unfold Kq frX;rw[nG0 (show ¬ ((⟨c,p⟩:bJ).aU=4∨(⟨c,p⟩:bJ).aU=6)from by simp only;omega),nG0 (show ¬ (⟨c,p⟩:bJ).aU=5 from by simp only;omega)]
theorem SF(f:List (List Int))(rd:Nat):Lh (f.drop rd)=(match f[rd]? with | some p=>p.length+84 | none=>0)+Lh (f.drop (rd+1)):=by
 cases h:f[rd]? with
 | none=>
   have:f.length<=rd:=by rwa [List.getElem?_eq_none_iff]at h
   rw[List.drop_eq_nil_of_le this,List.drop_eq_nil_of_le (by omega)];rfl
 | some p=>
   have hlt:=(gS.1 h).1;have h1:f.drop rd=p::f.drop (rd+1):=by
    rw[List.drop_eq_getElem_cons hlt];rw[gE hlt]at h;injection h with h;rw[h]
   rw[h1];unfold Lh;simp only[mC,List.sum_cons]
theorem D5(l:List aT)(hl:∀c∈l,Sd.Ok c)(fr:List (List (List Int)))(rd:Nat)(m:aI):∀n,n<=fr.length->fZ (fG l fr rd m n)+BX fr rd n<=fZ m+later fr rd
 | 0,_=>by
   unfold BX later fG;simp
 | n+1,hn=>by
   have ih:=D5 l hl fr rd m n (by omega);have hx:fr[n]? = some fr[n]:=gE (by omega);generalize fr[n]'(by omega)=f at hx;have h1:fr.drop n=f::fr.drop (n+1):=by
    have hlt:n<fr.length:=by omega
    rw[List.drop_eq_getElem_cons hlt];rw[gE hlt]at hx;injection hx with hx;rw[hx]
   have h2:fr.take (n+1)=fr.take n++[f]:=(jc hx).symm;rw[jf];have h3:=SF f rd;have hq:fZ (Kk l fr rd (fG l fr rd m n) n)<=fZ (fG l fr rd m n)+(match f[rd]? with | some p=>p.length+84 | none=>0):=by
    unfold Kk;rw[hx];cases hc:l[n]? with
    | none=>simp only;omega
    | some c=>
      have hi:=lW (hl c (eZ hc));simp only
      cases hp:f[rd]? with
      | none=>simp only;omega
      | some p=>
        simp only
        rw[KS,RZ c.ax p (by omega)];omega
   unfold BX at ih ⊢;rw[h1]at ih;rw[h2];simp only[List.map_append,mC,List.map_nil,List.sum_append,List.sum_cons,List.sum_nil]at ih ⊢;omega
theorem AQ(l:List aT)(hl:∀c∈l,Sd.Ok c)(fr:List (List (List Int)))(m:aI):∀n,fZ (iw l fr m n)+later fr n<=fZ m+later fr 0
 | 0=>lR _
 | n+1=>by
   have ih:=AQ l hl fr m n;rw[iN];have h1:=D5 l hl fr n (iw l fr m n) fr.length (lR _);have e:BX fr n fr.length=later fr (n+1):=by
    unfold BX later;rw[List.take_length,List.drop_length];simp
   omega
theorem JM{k:Nat}{m:aI}(h:MInv k m):fZ (uJ m)<=fZ m:=by
 have g4:∀c∈m.aj.map (gZ m),Sd.Ok c:=fun c hc=>by
  obtain⟨d,hd,rfl⟩:=List.mem_map.1 hc;exact(sZ m (h.qW d hd)).1
 have h1:=AQ (m.aj.map (gZ m)) g4 (m.aj.map (gQ m)) { m with aj:=m.aj.map (gZ m) } (l6 (m.aj.map (gQ m)));have h2:fZ { m with aj:=m.aj.map (gZ m) }+later (m.aj.map (gQ m)) 0<=fZ m:=by
  have e:lS { m with aj:=m.aj.map (gZ m) }=lS m:=rfl;have hs:((m.aj.map (gZ m)).map (lS m)).sum+later (m.aj.map (gQ m)) 0<=(m.aj.map (lS m)).sum:=by
   unfold later;simp only[List.drop_zero,List.map_map];have hall:=h.qW;generalize m.aj=cs at hall
   induction cs with
   | nil=>simp
   | cons c cs ih=>
     have:=ih fun d hd=>hall d (by simp[hd]);have hc:=WY m (hall c (by simp));have hloc:=(sZ m (hall c (by simp))).2.1;have e1:lS m (gZ m c)+Lh (gQ m c)<=lS m c:=by
      unfold lS UL;rw[hloc];omega
     simp only[mC,List.sum_cons,Function.comp_apply]at this ⊢;omega
  unfold fZ;rw[e];show((m.aj.map (gZ m)).map (lS m)).sum+vI m+_<=_;omega
 unfold uJ;omega
end Po
end V
namespace V
namespace St
structure Good(f:bJ):Prop where
 mq:1<=f.aU/\f.aU<=65535
 len:f.al.length<=4096
 yT:∀x∈f.al,Byte x
theorem Good.fok{f:bJ}(h:Good f):Fr.FOk f:=by
 have:=h.mq;have:=h.len;exact⟨by omega,by omega⟩
def dL:List bJ->Nat->kH
 | f::_,s=>if s=0 then Fr.az else⟨true,(Fr.bytesOf f).take s⟩
 | [],_=>Fr.az
theorem Nf(f:bJ)(r:List bJ){s:Nat}(h:s≠0):dL (f::r) s=⟨true,(Fr.bytesOf f).take s⟩:=by
 show(if s=0 then _ else _)=_;rw[nG0 h]
theorem Wt{b:List Int}{t:Nat}(h:4<=t):Fr.hd (b.take t)=Fr.hd b:=by
 match b,t,h with
 | [],_,_=>simp
 | [_],t+4,_=>simp
 | [_,_],t+4,_=>simp
 | [_,_,_],t+4,_=>simp
 | x::y::z::u::r,t+4,_=>rfl
theorem R7{f:bJ}(h:Good f){t:Nat}(ht:0<t)(hl:t<=f.al.length+4):Fr.M6 ((Fr.bytesOf f).take t) 0=if t=f.al.length+4 then(Fr.az,[f],0)else(⟨true,(Fr.bytesOf f).take t⟩,[],0):=by
 have hlen:((Fr.bytesOf f).take t).length=t:=by rw[lT0,Fr.jl];omega
 have hc:=h.mq;have hp:=h.len;unfold Fr.M6;by_cases h4:t<4
 ·rw[pG0 (by omega),nG0 (by omega)]
 rw[nG0 (by omega),Wt (by omega),Fr.Lb h.fok (by omega),hlen];rw[nG0 (by simp only;omega),nG0 (by simp only;omega)];by_cases he:t=f.al.length+4
 ·rw[nG0 (by simp only;omega),pG0 he,List.take_of_length_le (by rw[Fr.jl];omega)];rfl
 ·rw[pG0 (by simp only;omega),nG0 he]
theorem O8{f:bJ}(h:Good f)(r:List bJ){s t:Nat}(hs:s<t)(hl:t<=f.al.length+4):Fr.feed (dL (f::r) s) ⟨if s=0 then 2 else 1,((Fr.bytesOf f).take t).drop s⟩=if t=f.al.length+4 then(Fr.az,[f],0)else(dL (f::r) t,[],0):=by
 have hne:((Fr.bytesOf f).take t).drop s≠[]:=fun e=>by
  have:=congrArg List.length e;rw[List.length_drop,lT0,Fr.jl,List.length_nil]at this;omega
 have hres:(if t=f.al.length+4 then(Fr.az,[f],(0:Int))else(dL (f::r) t,[],0))=if t=f.al.length+4 then(Fr.az,[f],0)else(⟨true,(Fr.bytesOf f).take t⟩,[],0):=by
  rw[Nf f r (show t≠0 by omega)]
 rw[hres,← R7 h (by omega) hl];by_cases h0:s=0
 ·subst h0;rw[show dL (f::r) 0=Fr.az from rfl];rw[List.drop_zero]at hne;unfold Fr.feed;simp only[List.drop_zero,if_true];rw[nG0 (by simp),nG0 (by simp[hne])];rfl
 ·rw[Nf f r h0];unfold Fr.feed;rw[nG0 h0];have hj:(Fr.bytesOf f).take s++((Fr.bytesOf f).take t).drop s=(Fr.bytesOf f).take t:=by
   have:((Fr.bytesOf f).take t).take s=(Fr.bytesOf f).take s:=by rw[List.take_take];congr 1;omega
   rw[← this,List.take_append_drop]
  rw[nG0 (by simp[hne]),nG0 (by simp[hne]),nG0 (by simp),nG0 (by simp)];simp only[hj]
def Flow:List bJ->Nat->List eH->List bJ->Nat->Prop
 | L,s,[],O,t=>L=O/\s=t
 | L,s,p::ps,O,t=>match L with
   | []=>False
   | f::r=>∃u,s<u/\u<=f.al.length+4/\p=⟨if s=0 then 2 else 1,((Fr.bytesOf f).take u).drop s⟩/\if u=f.al.length+4 then Flow r 0 ps O t else Flow (f::r) u ps O t
theorem vZ:∀(ps:List eH) (L:List bJ) (s:Nat) (O:List bJ) (t:Nat) (l:List bJ),Flow L s ps O t->Flow (L++l) s ps (O++l) t
 | [],L,s,O,t,l,h=>by
   obtain⟨rfl,rfl⟩:=h;exact⟨rfl,rfl⟩
 | p::ps,L,s,O,t,l,h=>by
   match L,h with
   | f::r,⟨u,h1,h2,h3,h4⟩=>
     refine⟨u,h1,h2,h3,?_⟩;by_cases he:u=f.al.length+4
     ·rw[pG0 he]at h4 ⊢;exact vZ ps r 0 O t l h4
     ·rw[nG0 he]at h4 ⊢;exact vZ ps (f::r) u O t l h4
theorem xZ:∀(ps:List eH) (L:List bJ) (s:Nat) (f:bJ) (r:List bJ) (t u:Nat),Flow L s ps (f::r) t->t<u->u<=f.al.length+4->Flow L s (ps++[⟨if t=0 then 2 else 1,((Fr.bytesOf f).take u).drop t⟩]) (if u=f.al.length+4 then r else f::r) (if u=f.al.length+4 then 0 else u)
 | [],L,s,f,r,t,u,h,h1,h2=>by
   obtain⟨rfl,rfl⟩:=h;refine⟨u,h1,h2,rfl,?_⟩;by_cases he:u=f.al.length+4
   ·rw[pG0 he,pG0 he,pG0 he];exact⟨rfl,rfl⟩
   ·rw[nG0 he,nG0 he,nG0 he];exact⟨rfl,rfl⟩
 | p::ps,L,s,f,r,t,u,h,h1,h2=>by
   match L,h with
   | g::q,⟨v,k1,k2,k3,k4⟩=>
     refine⟨v,k1,k2,k3,?_⟩;by_cases he:v=g.al.length+4
     ·rw[pG0 he]at k4 ⊢;exact xZ ps q 0 f r t u k4 h1 h2
     ·rw[nG0 he]at k4 ⊢;exact xZ ps (g::q) v f r t u k4 h1 h2
theorem rW{L:List bJ}{s:Nat}{p:eH}{ps:List eH}{O:List bJ}{t:Nat}(h:Flow L s (p::ps) O t)(hg:∀f∈L,Good f) :
 (∃(f:bJ) (r:List bJ),L=f::r/\Fr.feed (dL L s) p=(dL r 0,[f],0)/\Flow r 0 ps O t)∨∃u,Fr.feed (dL L s) p=(dL L u,[],0)/\Flow L u ps O t:=by
 match L,h with
 | f::r,⟨u,h1,h2,h3,h4⟩=>
   have hf:=O8 (hg f (by simp)) r h1 h2;rw[← h3]at hf;by_cases he:u=f.al.length+4
   ·rw[pG0 he]at h4 hf;refine .inl ⟨f,r,rfl,?_,h4⟩;rw[hf];cases r <;> rfl
   ·rw[nG0 he]at h4 hf;exact .inr ⟨u,hf,h4⟩
theorem JB{L:List bJ}{s t:Nat}(h:Flow L s [] [] t):L=[]:=h.1
end St
end V
namespace V
namespace St
structure XL(f:bJ):Prop where
 good:Good f
 sig:Po.wS f
 nfix:f.aU≠4/\f.aU≠6
structure Same(m m':aI):Prop where
 sent:m'.aV=m.aV
 asm:m'.ay=m.ay
 len:m'.Length=m.Length
 role:m'.iY=m.iY
def Adds(m m':aI):Prop:=Same m m'/\∃l,m'.Out=m.Out++l/\∀f∈l,XL f
theorem Adds.refl(m:aI):Adds m m:=⟨⟨rfl,rfl,rfl,rfl⟩,[],by simp,by simp⟩
theorem Adds.of{m m':aI}(h:Same m m')(ho:m'.Out=m.Out):Adds m m':=⟨h,[],by simp[ho],by simp⟩
theorem Adds.trans{a b c:aI}(h:Adds a b)(g:Adds b c):Adds a c:=by
 obtain⟨⟨h1,h2,h3,h4⟩,l,hl,hn⟩:=h;obtain⟨⟨g1,g2,g3,g4⟩,k,hk,hm⟩:=g;refine⟨⟨g1.trans h1,g2.trans h2,g3.trans h3,g4.trans h4⟩,l++k,by rw[hk,hl,List.append_assoc],fun f hf=>?_⟩;rcases List.mem_append.1 hf with hf | hf
 ·exact hn f hf
 ·exact hm f hf
theorem Ni(m:aI){c:Int}{b:List Int}(h:XL ⟨c,b⟩):Adds m (qd m c b):=⟨⟨rfl,rfl,rfl,rfl⟩,[⟨c,b⟩],rfl,fun f hf=>by rw[mS]at hf;rw[hf];exact h⟩
theorem iU(m:aI){s:aQ}(h:lV s):Adds m (jR m s):=
 Ni m ⟨⟨by simp only;omega,by have:=zR s;simp only;omega,Sg.O9 h.1⟩,fun _=>⟨s,h,rfl⟩,by simp only;omega⟩
theorem CJ(m:aI){s:aQ}(h:lV (fK s (uy m))):Adds m (nk m s):=
 (Adds.of (m:=m) (m':=j5 m) ⟨rfl,rfl,rfl,rfl⟩ rfl).trans ((iU (j5 m) h).trans (Adds.of (m:=jR (j5 m) (fK s (uy m))) (m':=nk m s) ⟨rfl,rfl,rfl,rfl⟩ rfl))
theorem CG{k:Nat}{m:aI}(h:MInv k m){c:aT}(hc:c∈m.aj):Adds m (lX m c):=by
 obtain⟨hs,_⟩:=h.lX hc;unfold lX;split
 ·exact .refl m
 ·exact CJ m hs
theorem Pw{k:Nat}{m:aI}(h:MInv k m)(psm ru mps cr:Int)(hp:0<=psm/\psm<=65535):Adds m (eF m psm ru mps cr).1:=by
 unfold eF;split
 ·exact .refl m
 rename_i h0;split
 ·exact .refl m
 rename_i h1;split
 ·exact .refl m
 rename_i h2;obtain⟨v,_,f2,f3,f4,f5⟩:=jr (m:=m) (by omega);simp only[Bool.not_eq_false,Bool.and_eq_true]at h1;rw[f2];exact CJ m (L9 (nS h) ⟨show 1<=psm by omega,hp.2⟩ ⟨f4,f5⟩ h1.1 h1.2.1 h1.2.2)
theorem T9{k:Nat}{m:aI}(h:MInv k m)(n:Int):Adds m (uG m n).1:=by
 unfold uG;rcases dQ m n with⟨hq,_⟩ | ⟨i,c,hq,_,hc,_⟩
 ·rw[hq];exact .refl m
 ·rw[hq];simp only
  split
  ·exact .refl m
  split
  ·exact .refl m
  ·exact CG h (eZ hc)
theorem Pn(m:aI)(n:Int)(b:List Int):Adds m (jB m n b).1:=by
 unfold jB;rcases dQ m n with⟨hq,_⟩ | ⟨i,c,hq,_,hc,_⟩
 ·rw[hq];exact .refl m
 ·rw[hq];simp only
  split
  ·exact .refl m
  split
  ·exact .of ⟨rfl,rfl,rfl,rfl⟩ rfl
  ·exact .refl m
theorem TW{k:Nat}{m:aI}(h:MInv k m)(u:jF):Adds m (jX m u).1:=by
 unfold jX;split
 ·exact .refl m
 split
 ·exact .refl m
 rename_i h2;split
 ·exact .refl m
 split
 ·exact .refl m
 exact CJ m (L6 (nS h) (by simpa using h2))
theorem TV(m:aI)(id r:Int):Adds m (kg m id r).1:=by
 unfold kg;split
 ·exact .refl m
 split
 ·exact .refl m
 rename_i h2;split
 ·exact .refl m
 have h2:=Decidable.not_not.1 h2;exact iU m (pU h2.1 19 (.inl ⟨rfl,h2.2⟩))
theorem Ub{k:Nat}{m:aI}(h:MInv k m){s:aQ}(hs:lV s):Adds m (nL m s).1:=by
 have hi:=vT hs;unfold nL;rcases xU m s.bQ with⟨q1,_⟩ | ⟨i,L,q1,_,hx⟩
 ·rw[q1];exact iU m (jN hi (.inl rfl))
 ·have hlm:=h.MK _ (eZ hx);rw[q1];simp only
  split
  ·exact iU m (jN hi (by omega))
  split
  ·exact iU m (jN hi (by omega))
  rename_i hu;split
  ·exact iU m (jN hi (by omega))
  ·obtain⟨v,_,f2,f3,f4,f5⟩:=jr (m:=m) (by omega);rw[f2];exact(Adds.of (m:=m) (m':={ m with aj:=kM (zq s v L) m.aj }) ⟨rfl,rfl,rfl,rfl⟩ rfl).trans (iU _ (FK hi ⟨f4,f5⟩ hlm.1 hlm.2.1 hlm.2.2))
theorem sM{id r:Int}(hi:1<=id/\id<=255)(hr:r=0∨r=2):lV (xM id r):=pU hi 1 (.inr ⟨rfl,hr⟩)
theorem Pt{k:Nat}{m:aI}(h:MInv k m){s:aQ}(hs:lV s):Adds m (jV m s).1:=by
 have hi:=vT hs;unfold jV;rcases dQ m s.bT with⟨hq,_⟩ | ⟨i,c,hq,_,hc,hl⟩
 ·rw[hq];exact iU m (sM hi (.inr rfl))
 ·rw[hq];simp only
  split
  ·exact iU m (sM hi (.inr rfl))
  ·rename_i hr;have hr:=Decidable.not_not.1 hr;have hcs:=lW (h.qW c (eZ hc));exact(Adds.of (m:=m) (m':={ m with aj:=pE m.aj i }) ⟨rfl,rfl,rfl,rfl⟩ rfl).trans (iU _ (zy hi (src:=s.am) (dst:=s.bT) (by omega) (by omega) 7 (.inr rfl)))
theorem Pp(m:aI){s:aQ}(hs:lV s):Adds m (jC m s).1:=by
 unfold jC;split
 ·exact .refl m
 ·exact iU m (sM (vT hs) (.inl rfl))
theorem Ua{k:Nat}{m:aI}(h:MInv k m)(s:aQ):Adds m (uH m s):=by
 unfold uH;rcases kX m s.am with⟨hq,_⟩ | ⟨i,c,hq,_,hc,_⟩
 ·rw[hq];exact .refl m
 ·rw[hq];simp only
  obtain⟨_,e3,e4⟩:=JK c s.aA (h.qW c (eZ hc));have hP:=h.put hc e3 e4;split
  ·exact .refl m
  split
  ·exact(Adds.of (m:=m) (m':=gD m i (CV c s.aA).1) ⟨rfl,rfl,rfl,rfl⟩ rfl).trans (CG hP (eZ (vH (c':=(CV c s.aA).1) hc)))
  ·exact .of ⟨rfl,rfl,rfl,rfl⟩ rfl
theorem Pq(m:aI)(n:Int):Adds m (o8 m n).1:=by
 unfold o8;split
 ·exact .refl m
 ·exact .of ⟨rfl,rfl,rfl,rfl⟩ rfl
theorem Ud(m:aI)(s:aQ):Adds m (ny m s).1:=by
 unfold ny;split
 ·exact .refl m
 ·rename_i i r _;have hd:Adds m (fE m i):=.of ⟨rfl,rfl,rfl,rfl⟩ rfl;split
  ·split
   ·exact hd
   split
   ·exact hd
   split
   ·exact hd
   ·exact .of ⟨rfl,rfl,rfl,rfl⟩ rfl
  split
  ·exact hd.trans (Pq _ _)
  ·exact hd
theorem TU{k:Nat}{m:aI}(h:MInv k m){s:aQ}(hs:lV s):Adds m (rG m s).1:=by
 unfold rG;split
 ·exact Ub h hs
 split
 ·exact Pt h hs
 split
 ·exact Pp m hs
 split
 ·exact Ua h s
 ·exact Ud m s
theorem Pv{k:Nat}{m:aI}(h:MInv k m){i:Nat}{c:aT}(hc:m.aj[i]? = some c){b:List Int}(hb:∀x∈b,Byte x)(hl:b.length<=65536):Adds m (kS m i c b).1:=by
 obtain⟨_,e3,⟨e4,_⟩,_,e7⟩:=MR c b hl hb (h.qW c (eZ hc));have hP:=h.put hc e3 e4;unfold kS;split
 ·exact(Adds.of (m:=m) (m':=gD m i (oH c b).1) ⟨rfl,rfl,rfl,rfl⟩ rfl).trans (CG hP (eZ (vH (c':=(oH c b).1) hc)))
 rename_i hz;split
 ·rename_i hg;obtain⟨g1,g2⟩:=hg;obtain⟨_,g3⟩:=MW (oH c b).1 e3 (e7 (by simpa using hz)) g1;have hP2:=h.put hc g3 e4;have aa1:=lW e3;have hgv:=e3.given;have hrx:=e3.rx;have hn:=nS hP;have hcr:lV (Ls m (oH c b).1):=L8 (nS h) aa1.1 (by omega);exact(Adds.of (m:=m) (m':=j5 (gD m i (full (oH c b).1))) ⟨rfl,rfl,rfl,rfl⟩ rfl).trans (iU _ hcr)
 ·exact .of ⟨rfl,rfl,rfl,rfl⟩ rfl
theorem TY{k:Nat}{m:aI}(h:MInv k m){f:bJ}(hf:Good f)(hg:Po.wS f):Adds m (iE m f).1:=by
 have hlen:=hf.len;unfold iE;split
 ·exact .refl m
 split
 ·rename_i c5;obtain⟨s,hs,hp⟩:=hg c5;rw[hp];unfold Da;rw[Sg.nX hs.1 hs.2,pG0 rfl];exact TU h hs
 rcases dQ m f.aU with⟨hn,_⟩ | ⟨i,c,hn,_,hc,_⟩
 ·rw[hn];exact .refl m
 ·rw[hn];simp only
  split
  ·exact .refl m
  ·exact Pv h hc hf.yT (by omega)
end St
end V
namespace V
namespace St
def Rows(m m':aI):Prop:=∀c∈m'.aj,∀s∈c.Out,∃d∈m.aj,s∈d.Out
theorem Rows.refl(m:aI):Rows m m:=fun c hc _ hs=>⟨c,hc,hs⟩
theorem Rows.same{m m':aI}(h:m'.aj=m.aj):Rows m m':=fun c hc _ hs=>⟨c,by rw[← h];exact hc,hs⟩
theorem Rows.trans{a b c:aI}(h:Rows a b)(g:Rows b c):Rows a c:=fun x hx s hs=>by
 obtain⟨d,hd,hs⟩:=g x hx s hs;exact h d hd s hs
theorem AO(m:aI){i:Nat}{c c':aT}(hc:m.aj[i]? = some c)(ho:∀s∈c'.Out,s∈c.Out):Rows m (gD m i c'):=fun d hd s hs=>by
 rcases List.mem_or_eq_of_mem_set hd with hd | rfl
 ·exact⟨d,hd,hs⟩
 ·exact⟨c,eZ hc,ho s hs⟩
theorem IX(m m':aI)(c:aT)(ho:c.Out=[])(h:m'.aj=kM c m.aj):Rows m m':=fun d hd s hs=>by
 rw[h]at hd;rcases(oW c _ d).1 hd with rfl | hd
 ·rw[ho]at hs;cases hs
 ·exact⟨d,hd,hs⟩
theorem DZ(m m':aI)(i:Nat)(h:m'.aj=pE m.aj i):Rows m m':=fun d hd s hs=>⟨d,(sS m.aj i).subset (by rw[← h];exact hd),hs⟩
theorem AP(m:aI)(c:aT):Rows m (lX m c):=by
 unfold lX;split
 ·exact .refl m
 ·exact .same rfl
theorem Om(m:aI)(psm ru mps cr:Int):Rows m (eF m psm ru mps cr).1:=by
 unfold eF
 (repeat' split) <;> first | exact .refl m | exact .same rfl
theorem QV(m:aI)(n:Int):Rows m (uG m n).1:=by
 unfold uG
 (repeat' split) <;> first | exact .refl m | exact AP m _
theorem QT(m:aI)(u:jF):Rows m (jX m u).1:=by
 unfold jX
 (repeat' split) <;> first | exact .refl m | exact .same rfl
theorem QS(m:aI)(id r:Int):Rows m (kg m id r).1:=by
 unfold kg
 (repeat' split) <;> first | exact .refl m | exact .same rfl
theorem QX(m:aI)(s:aQ):Rows m (nL m s).1:=by
 unfold nL
 (repeat' split) <;> first | exact .same rfl | exact IX m _ _ rfl rfl
theorem Ol(m:aI)(s:aQ):Rows m (jV m s).1:=by
 unfold jV
 (repeat' split) <;> first | exact .same rfl | exact DZ m _ _ rfl
theorem Oi(m:aI)(s:aQ):Rows m (jC m s).1:=by
 unfold jC
 (repeat' split) <;> exact .same rfl
theorem WV(c:aT)(n:Int):(CV c n).1.Out=c.Out:=by
 unfold CV
 (repeat' split) <;> rfl
theorem QW(m:aI)(s:aQ):Rows m (uH m s):=by
 unfold uH;rcases kX m s.am with⟨hq,_⟩ | ⟨i,c,hq,_,hc,_⟩
 ·rw[hq];exact .refl m
 ·rw[hq];simp only
  have hp:=AO m (c':=(CV c s.aA).1) hc (fun t ht=>by rw[WV]at ht;exact ht);split
  ·exact .refl m
  split
  ·exact hp.trans (AP _ _)
  ·exact hp
theorem Oj(m:aI)(n:Int):Rows m (o8 m n).1:=by
 unfold o8;split
 ·exact .refl m
 ·exact DZ m _ _ rfl
theorem QZ(m:aI)(s:aQ):Rows m (ny m s).1:=by
 unfold ny;split
 ·exact .refl m
 ·rename_i i r _;have hd:Rows m (fE m i):=.same rfl;split
  ·split
   ·exact hd
   split
   ·exact hd
   split
   ·exact hd
   ·exact IX m _ _ rfl rfl
  split
  ·exact hd.trans (Oj _ _)
  ·exact hd
theorem QO(m:aI)(s:aQ):Rows m (rG m s).1:=by
 unfold rG;split
 ·exact QX m s
 split
 ·exact Ol m s
 split
 ·exact Oi m s
 split
 ·exact QW m s
 ·exact QZ m s
theorem MS(c:aT)(b:List Int):(oH c b).1.Out=c.Out:=by
 unfold oH;split
 ·rfl
 split
 ·rfl
 ·unfold Sd.grown;split <;> rfl
theorem rows_data(m:aI){i:Nat}{c:aT}(hc:m.aj[i]? = some c)(b:List Int):Rows m (kS m i c b).1:=by
 have hp:=AO m (c':=(oH c b).1) hc (fun t ht=>by rw[MS]at ht;exact ht);have hp2:=AO m (c':=full (oH c b).1) hc (fun t ht=>by
  rw[show(full (oH c b).1).Out=(oH c b).1.Out from rfl,MS]at ht;exact ht)
 unfold kS;split
 ·exact hp.trans (AP _ _)
 split
 ·exact hp2.trans (.same rfl)
 ·exact hp
theorem QY(m:aI)(b:List Int):Rows m (LB m b).1:=by
 unfold LB
 (repeat' split) <;> exact .same rfl
theorem QU(m:aI)(f:bJ):Rows m (iE m f).1:=by
 unfold iE;split
 ·exact .refl m
 split
 ·unfold Da;split
  ·exact QO m _
  ·exact QY m _
 rcases dQ m f.aU with⟨hn,_⟩ | ⟨i,c,hn,_,hc,_⟩
 ·rw[hn];exact .refl m
 ·rw[hn];simp only
  split
  ·exact .refl m
  ·exact rows_data m hc f.al
def Byc(c:aT):Prop:=∀s∈c.Out,∀x∈s,Byte x
theorem Ro(c:aT)(s:List Int)(r:List (List Int))(ho:c.Out=s::r):∀t∈(Sd.zL c s r).Out,t∈c.Out:=by
 unfold Sd.zL;split
 ·intro t ht;rw[ho];exact List.mem_cons_of_mem _ ht
 ·intro t ht;exact ht
theorem WE{s:List Int}(hs:∀x∈s,Byte x)(hl:s.length<=65535):∀x∈Sd.fm s,Byte x:=by
 intro x hx;unfold Sd.fm at hx;rcases List.mem_append.1 hx with hx | hx
 ·simp at hx;unfold Byte;omega
 ·exact hs x hx
theorem I8:∀(n:Nat) (c:aT),Sd.Ok c->Sd.Sm c->(∀t∈(qQ n c).1.Out,t∈c.Out)/\(Byc c->∀p∈(qQ n c).2,∀x∈p,Byte x)
 | 0,c,_,_=>⟨fun _ h=>h,fun _ p hp=>by cases hp⟩
 | n+1,c,h,hs=>by
   unfold qQ;cases ho:c.Out with
   | nil=>exact⟨fun t ht=>by rw[ho]at ht;exact ht,fun _ p hp=>by cases hp⟩
   | cons s r=>
     simp only
     by_cases hc:c.aO>0
     ·rw[pG0 hc];obtain⟨k1,k2,_⟩:=Sd.KY h hs ho hc;obtain⟨q1,q2⟩:=I8 n (Sd.zL c s r) k1 k2;have hn:=Ro c s r ho;refine⟨fun t ht=>by rw[← ho];exact hn t (q1 t ht),fun hb p hp=>?_⟩;rcases List.mem_cons.1 hp with rfl | hp
      ·have hsl:=h.short s (by rw[ho];simp);have hpm:=h.aam;intro x hx;unfold Sd.partOf at hx;exact WE (hb s (by rw[ho];simp)) (by omega) x (List.mem_of_mem_drop (List.mem_of_mem_take hx))
      ·exact q2 (fun t ht=>hb t (hn t ht)) p hp
     ·rw[nG0 hc];exact⟨fun t ht=>by rw[ho]at ht;exact ht,fun _ p hp=>by cases hp⟩
theorem JN(m:aI){c:aT}(h:Sd.Ok c):(∀t∈(gZ m c).Out,t∈c.Out)/\(Byc c->∀p∈gQ m c,∀x∈p,Byte x):=by
 unfold gZ gQ;split
 ·exact⟨fun _ h=>h,fun _ p hp=>by cases hp⟩
 ·unfold tH;split
  ·exact⟨fun _ h=>h,fun _ p hp=>by cases hp⟩
  ·exact I8 65536 c h h.sm
theorem Xj{l:List aT}(hl:∀c∈l,Sd.Ok c){fr:List (List (List Int))}(hf:∀f∈fr,∀p∈f,p.length<=4096/\∀x∈p,Byte x)(rd:Nat)(m:aI)(i:Nat):Adds m (Kk l fr rd m i):=by
 unfold Kk;split
 ·rename_i f c h1 h2;split
  ·rename_i p h3;have hi:=lW (hl c (eZ h2));obtain⟨p1,p2⟩:=hf f (eZ h1) p (eZ h3);exact Ni m ⟨⟨by simp only;omega,p1,p2⟩,(fun e=>by simp only at e;omega),by simp only;omega⟩
  ·exact .refl m
 ·exact .refl m
theorem CB{l:List aT}(hl:∀c∈l,Sd.Ok c){fr:List (List (List Int))}(hf:∀f∈fr,∀p∈f,p.length<=4096/\∀x∈p,Byte x)(rd:Nat)(m:aI):∀n,Adds m (fG l fr rd m n)
 | 0=>.refl m
 | n+1=>by
   rw[jf];exact(CB hl hf rd m n).trans (Xj hl hf rd _ n)
theorem yY{l:List aT}(hl:∀c∈l,Sd.Ok c){fr:List (List (List Int))}(hf:∀f∈fr,∀p∈f,p.length<=4096/\∀x∈p,Byte x)(m:aI):∀n,Adds m (iw l fr m n)
 | 0=>.refl m
 | n+1=>by
   rw[iN];exact(yY hl hf m n).trans (CB hl hf n _ fr.length)
theorem Uc{k:Nat}{m:aI}(h:MInv k m)(hb:∀c∈m.aj,Byc c):Adds m (uJ m)/\Rows m (uJ m):=by
 have g4:∀c∈m.aj.map (gZ m),Sd.Ok c:=fun c hc=>by
  obtain⟨d,hd,rfl⟩:=List.mem_map.1 hc;exact(sZ m (h.qW d hd)).1
 have g7:∀f∈m.aj.map (gQ m),∀p∈f,p.length<=4096/\∀x∈p,Byte x:=fun f hf p hp=>by
  obtain⟨d,hd,rfl⟩:=List.mem_map.1 hf;exact⟨(Na m (h.qW d hd)).2 p hp,(JN m (h.qW d hd)).2 (hb d hd) p hp⟩
 have g3:(m.aj.map (gZ m)).map (·.ap)=m.aj.map (·.ap):=by
  rw[List.map_map];exact List.map_congr_left fun c hc=>(sZ m (h.qW c hc)).2.1
 unfold uJ;refine⟨(Adds.of (m:=m) (m':={ m with aj:=m.aj.map (gZ m) }) ⟨rfl,rfl,rfl,rfl⟩ rfl).trans (yY g4 g7 _ _),?_⟩;have hf4:∀f∈m.aj.map (gQ m),∀b∈f,b.length<=4096:=fun f hf b hb'=>(g7 f hf b hb').1;have hch:=(rM (k:=k) (m:={ m with aj:=m.aj.map (gZ m) }) (h.chans g3 g4) g4 hf4 (l6 (m.aj.map (gQ m)))).2;intro c hc s hs;rw[hch]at hc;obtain⟨d,hd,rfl⟩:=List.mem_map.1 hc;exact⟨d,hd,(JN m (h.qW d hd)).1 s hs⟩
end St
end V
namespace V
namespace St
theorem JA{k:Nat}{m:aI}(h:MInv k m){L:List bJ}{s:Nat}{ps:List eH}(hf:Flow L s ps m.Out m.aV.toNat) :
 ((gq m).2.2=false->m.Out=[]/\(gq m).1=m)/\((gq m).2.2=true->Flow L s (ps++[(gq m).2.1]) (gq m).1.Out (gq m).1.aV.toNat):=by
 unfold gq;cases ho:m.Out with
 | nil=>exact⟨fun _=>⟨rfl,rfl⟩,fun e=>by cases e⟩
 | cons f t=>
   have hs:=h.sent f t ho;have hl:=F9 m;rw[ho]at hf;refine⟨(fun e=>by cases e),fun _=>?_⟩;have hto:m.aV<toM m f/\toM m f<=(f.al.length:Int)+4:=by unfold toM;omega
   have hp:VN m f=⟨if m.aV.toNat=0 then 2 else 1,((Fr.bytesOf f).take (toM m f).toNat).drop m.aV.toNat⟩:=by
    unfold VN;by_cases h0:m.aV=0
    ·rw[pG0 h0,pG0 (by omega)]
    ·rw[nG0 h0,nG0 (by omega)]
   have key:=xZ ps L s f t m.aV.toNat (toM m f).toNat hf (by omega) (by omega);simp only[hp];unfold jA;by_cases he:toM m f=(f.al.length:Int)+4
   ·rw[pG0 (show(toM m f).toNat=f.al.length+4 by omega),pG0 (show(toM m f).toNat=f.al.length+4 by omega)]at key;rw[pG0 he];exact key
   ·rw[nG0 (show ¬ (toM m f).toNat=f.al.length+4 by omega),nG0 (show ¬ (toM m f).toNat=f.al.length+4 by omega)]at key;rw[nG0 he];show Flow _ _ _ m.Out (toM m f).toNat;rw[ho];exact key
def rest(m:aI):Nat:=Po.fZ m-m.aV.toNat
theorem IG{k:Nat}{m:aI}(h:MInv k m):m.aV.toNat<=Po.fZ m:=by
 unfold Po.fZ Po.vI;cases ho:m.Out with
 | nil=>rw[h.oP ho];simp
 | cons f t=>
   have hs:=h.sent f t ho;simp only[mC,List.sum_cons];unfold Po.Kq;omega
theorem Rl{k:Nat}{m:aI}(h:MInv k m){f:bJ}{t:List bJ}(ho:m.Out=f::t) :
 (toM m f=(f.al.length:Int)+4->rest (jA m f t)+27+27*Po.frX f<=rest m)/\(toM m f≠(f.al.length:Int)+4->rest (jA m f t)+27<=rest m):=by
 have hs:=h.sent f t ho;have hl:=F9 m;have hto:toM m f=min ((f.al.length:Int)+4) (m.aV+lim m):=rfl;have aaZ:Po.fZ m=(m.aj.map (Po.lS m)).sum+(Po.Kq f+(t.map Po.Kq).sum):=by
  unfold Po.fZ Po.vI;rw[ho];simp only[mC,List.sum_cons]
 have hw:Po.Kq f=f.al.length+30+27*Po.frX f:=rfl;unfold rest jA;constructor
 ·intro he;rw[pG0 he];have:Po.fZ { m with Out:=t,aV:=0 }=(m.aj.map (Po.lS m)).sum+(t.map Po.Kq).sum:=rfl;rw[this,aaZ,hw];show _-(0:Int).toNat+27+_<=_;rw[show(0:Int).toNat=0 from rfl];omega
 ·intro he;rw[nG0 he];have:Po.fZ { m with aV:=toM m f }=Po.fZ m:=rfl;rw[this];show Po.fZ m-(toM m f).toNat+27<=_;rw[aaZ,hw];omega
def ji(f:bJ):Bool:=f.aU==4||f.aU==6
theorem VY{l:List bJ}(h:∀f∈l,XL f):l.filter ji=[]:=by
 rw[List.filter_eq_nil_iff];intro f hf;have:=(h f hf).nfix;unfold ji;simp[this.1,this.2]
structure Way(L:List bJ)(s:Nat)(ps:List eH)(a b:aI)(fx:List bJ):Prop where
 flow:Flow L s ps a.Out a.aV.toNat
 asm:b.ay=dL L s
 good:∀f∈L,Good f/\Po.wS f
 fix:L.filter ji=fx
 emp:L=[]->s=0
theorem Way.adds{L:List bJ}{s:Nat}{ps:List eH}{a a' b:aI}{fx:List bJ}(h:Way L s ps a b fx)(ha:Adds a a'):∃l,(∀f∈l,XL f)/\a'.Out=a.Out++l/\Way (L++l) s ps a' b fx:=by
 obtain⟨⟨h1,h2,h3,h4⟩,l,hl,hn⟩:=ha;refine⟨l,hn,hl,?_,?_,fun f hf=>?_,?_,fun e=>h.emp (List.append_eq_nil_iff.1 e).1⟩
 ·rw[hl,h1];exact vZ ps L s a.Out a.aV.toNat l h.flow
 ·rw[h.asm];cases L with
  | cons f r=>rfl
  | nil=>
    rw[h.emp rfl];cases l <;> rfl
 ·rcases List.mem_append.1 hf with hf | hf
  ·exact h.good f hf
  ·exact⟨(hn f hf).good,(hn f hf).sig⟩
 ·rw[List.filter_append,h.fix,VY hn,List.append_nil]
theorem Way.right{L:List bJ}{s:Nat}{ps:List eH}{a b b':aI}{fx:List bJ}(h:Way L s ps a b fx)(hb:b'.ay=b.ay):Way L s ps a b' fx:=⟨h.flow,hb.trans h.asm,h.good,h.fix,h.emp⟩
end St
end V
namespace V
namespace Sy
structure Wr where
 s0:aI
 s1:aI
 a0:List eH
 a1:List eH
 sd:Nat->List (List Int)
 f0:List bJ
 f1:List bJ
 cn:Nat->Bool
 par:Int
 dat:Bool
 oC:Bool
 ans:Bool
def Wr.s(w:Wr)(k:Bool):aI:=if k=true then w.s1 else w.s0
def Wr.a(w:Wr)(k:Bool):List eH:=if k=true then w.a1 else w.a0
def Wr.f(w:Wr)(k:Bool):List bJ:=if k=true then w.f1 else w.f0
def Wr.bF(w:Wr)(k:Bool)(m:aI):Wr:=if k=true then { w with s1:=m }else { w with s0:=m }
def Wr.gT(w:Wr)(k:Bool)(l:List eH):Wr:=if k=true then { w with a1:=l }else { w with a0:=l }
def Wr.nE(w:Wr)(k:Bool)(l:List bJ):Wr:=if k=true then { w with f1:=l }else { w with f0:=l }
def slot(k:Bool)(mq:Int):Nat:=(if k=true then 64 else 0)+(mq%64).toNat
def acS(w:Wr)(k:Bool)(mq:Int)(b:List Int):Option aT:=(w.s k).aj.find? fun c=>c.ap==mq&&(match w.sd (slot (!k) c.ax)with
 | d::_=>d==b
 | []=>false)
def kQ(w:Wr)(k:Bool)(x:gy):Wr:=
 if x.ae=2 then { w with sd:=aF w.sd (slot k x.aU) [],cn:=aF w.cn (slot k x.aU) false }
 else if x.ae=5 then { w with ans:=w.ans || !w.cn (slot k x.aU),cn:=aF w.cn (slot k x.aU) false }
 else if x.ae=1 then(match w.f (!k)with
  | f::r=>if f.aU=x.aU/\f.al=x.bk then w.nE (!k) r else { w with oC:=true }
  | []=>{ w with oC:=true })
 else if x.ae=3 then(match acS w k x.aU x.bk with
  | some c=>{ w with sd:=aF w.sd (slot (!k) c.ax) (w.sd (slot (!k) c.ax)).tail }
  | none=>{ w with dat:=true })
 else if x.ae=6 then(if (kg (w.s k) x.ID (x.ai.aN.tmod 2)).2=0 then w.bF k (kg (w.s k) x.ID (x.ai.aN.tmod 2)).1 else { w.bF k (kg (w.s k) x.ID (x.ai.aN.tmod 2)).1 with par:=-1000 })
 else if x.ae=7 then { w with par:=w.par-1,ans:=w.ans||(w.par-1 == -1) }
 else w
def dK(w:Wr)(k:Bool):Wr×Bool:=if (iD (w.s k)).2.2=true then((w.bF k (iD (w.s k)).1).gT k (w.a k++[(iD (w.s k)).2.1]),true)else(w.bF k (iD (w.s k)).1,false)
def dD:Nat->Wr->Bool->Bool->Wr×Bool
 | 0,w,_,y=>(w,y)
 | n+1,w,k,y=>if (dK w k).2=true then dD n (dK w k).1 k true else((dK w k).1,y)
def lT(w:Wr)(k:Bool)(p:eH)(r:List eH):Wr:=(uR (w.s (!k)) p).2.foldl (fun w x=>kQ w (!k) x) ((w.gT k r).bF (!k) (uR (w.s (!k)) p).1)
def bH:Nat->Wr->Bool->Wr
 | 0,w,_=>w
 | n+1,w,k=>match w.a k with
   | []=>w
   | p::r=>bH n (lT w k p r) k
open St
theorem MInv.tight{k:Nat}{m:aI}(h:MInv k m):MInv m.Out.length m:={ h with jL:=lR _ }
end Sy
end V
namespace V
namespace St
def gW(r:aQ):bJ:=⟨5,Sg.gX r⟩
def DI(m:aI):Prop:=(m.aB.map (·.ID)).Nodup
structure Fj(m m':aI):Prop where
 out:∃l,m'.Out=m.Out++l/\∀r∈m'.aB,r∈m.aB∨gW r∈l
 ids:m.aB.length<255->1<=m.bX/\m.bX<=255->DI m->DI m'
structure zw(m m':aI):Prop where
 ask:m'.aB=m.aB
 zL:m'.bX=m.bX
 out:∃l,m'.Out=m.Out++l
theorem zw.refl(m:aI):zw m m:=⟨rfl,rfl,[],by simp⟩
theorem zw.trans{a b c:aI}(h:zw a b)(g:zw b c):zw a c:=by
 obtain⟨l,hl⟩:=h.out;obtain⟨k,hk⟩:=g.out;exact⟨g.ask.trans h.ask,g.zL.trans h.zL,l++k,by rw[hk,hl,List.append_assoc]⟩
theorem zw.same{m m':aI}(h1:m'.aB=m.aB)(h2:m'.bX=m.bX)(h3:m'.Out=m.Out):zw m m':=⟨h1,h2,[],by rw[h3];simp⟩
theorem zw.req{m m':aI}(h:zw m m'):Fj m m':=by
 obtain⟨l,hl⟩:=h.out;exact⟨⟨l,hl,fun r hr=>.inl (h.ask▸hr)⟩,fun _ _ hd=>by unfold DI at hd ⊢;rw[h.ask];exact hd⟩
theorem Fj.ask0{m m':aI}(h1:m'.aB=m.aB)(l:List bJ)(h3:m'.Out=m.Out++l):Fj m m':=⟨⟨l,h3,fun r hr=>.inl (h1▸hr)⟩,fun _ _ hd=>by unfold DI at hd ⊢;rw[h1];exact hd⟩
theorem Fj.refl(m:aI):Fj m m:=(zw.refl m).req
theorem zw.thn{a b c:aI}(h:zw a b)(g:Fj b c):Fj a c:=by
 obtain⟨l,hl⟩:=h.out;obtain⟨k,hk,hr⟩:=g.out;refine⟨⟨l++k,by rw[hk,hl,List.append_assoc],fun r hm=>?_⟩,fun h1 h2 hd=>g.ids (by rw[h.ask];exact h1) (by rw[h.zL];exact h2) (by unfold DI at hd ⊢;rw[h.ask];exact hd)⟩;rcases hr r hm with q | q
 ·exact .inl (h.ask▸q)
 ·exact .inr (List.mem_append_right _ q)
theorem zB(m:aI)(s:aQ):zw m (jR m s):=⟨rfl,rfl,[gW s],rfl⟩
theorem Rs{m:aI}(h1:m.aB.length<255)(h2:1<=m.bX/\m.bX<=255):∀s∈m.aB,s.ID≠uy m:=fun s hs e=>by
 have:=ED m.aB 255 m.bX (BL m.aB m.bX h2 h1);rw[List.any_eq_false]at this;exact this s hs (by simpa [uy]using e)
theorem FR(m:aI)(s:aQ):Fj m (nk m s):=by
 refine⟨⟨[gW (fK s (uy m))],rfl,fun r hr=>?_⟩,fun h1 h2 hd=>?_⟩
 ·unfold nk at hr;simp only[List.mem_append,mS]at hr ⊢;rcases hr with hr | rfl
  ·exact .inl hr
  ·exact .inr rfl
 ·unfold DI nk at *;rw[List.map_append,List.nodup_append];refine⟨hd,by simp,fun a ha b hb=>?_⟩;simp only[mC,List.map_nil,mS]at hb;obtain⟨t,ht,rfl⟩:=List.mem_map.1 ha;rw[hb];exact Rs h1 h2 t ht
theorem FQ(m:aI)(c:aT):Fj m (lX m c):=by
 unfold lX;split
 ·exact .refl m
 ·exact FR m _
theorem IY(m:aI)(psm ru mps cr:Int):Fj m (eF m psm ru mps cr).1:=by
 unfold eF
 (repeat' split) <;> first | exact .refl m | exact FR m _
theorem Vs(m:aI)(n:Int):Fj m (uG m n).1:=by
 unfold uG
 (repeat' split) <;> first | exact .refl m | exact FQ m _
theorem Mh(m:aI)(u:jF):Fj m (jX m u).1:=by
 unfold jX
 (repeat' split) <;> first | exact .refl m | exact FR m _
theorem zC(m:aI)(i:Nat)(c:aT):zw m (gD m i c):=.same rfl rfl rfl
theorem IJ(m:aI)(n:Int)(b:List Int):zw m (jB m n b).1:=by
 unfold jB
 (repeat' split) <;> exact .same rfl rfl rfl
theorem Vb(m:aI)(id r:Int):zw m (kg m id r).1:=by
 unfold kg
 (repeat' split) <;> first | exact .same rfl rfl rfl | exact zB m _
theorem Vd(m:aI)(s:aQ):zw m (nL m s).1:=by
 unfold nL
 (repeat' split) <;> first | exact zB m _ | exact⟨rfl,rfl,_,rfl⟩
theorem QG(m:aI)(s:aQ):zw m (jV m s).1:=by
 unfold jV
 (repeat' split) <;> first | exact zB m _ | exact⟨rfl,rfl,_,rfl⟩
theorem QF(m:aI)(s:aQ):zw m (jC m s).1:=by
 unfold jC;split
 ·exact .refl m
 ·exact zB m _
theorem Vt(m:aI)(s:aQ):Fj m (uH m s):=by
 unfold uH;split
 ·exact .refl m
 ·split
  ·exact .refl m
  split
  ·exact(zC m _ _).thn (FQ _ _)
  ·exact(zC m _ _).req
theorem Q7(m:aI)(i:Nat)(c:aT)(b:List Int):Fj m (kS m i c b).1:=by
 unfold kS;split
 ·exact(zC m _ _).thn (FQ _ _)
 split
 ·exact .ask0 rfl _ rfl
 ·exact(zC m _ _).req
theorem DX(l:List aT)(fr:List (List (List Int)))(rd:Nat)(m:aI):∀n,zw m (fG l fr rd m n)
 | 0=>.refl m
 | n+1=>by
   rw[jf];refine(DX l fr rd m n).trans ?_;unfold Kk
   (repeat' split) <;> first | exact .same rfl rfl rfl | exact⟨rfl,rfl,_,rfl⟩
theorem AJ(l:List aT)(fr:List (List (List Int)))(m:aI):∀n,zw m (iw l fr m n)
 | 0=>.refl m
 | n+1=>by
   rw[iN];exact(AJ l fr m n).trans (DX l fr n _ _)
theorem Ve(m:aI):zw m (uJ m):=by
 unfold uJ;exact(zw.same (m:=m) (m':={ m with aj:=m.aj.map (gZ m) }) rfl rfl rfl).trans (AJ _ _ _ _)
def PI(m m':aI)(r:aQ):Prop:=∃a,lV a/\fu r a=true/\m'.Out=m.Out++[gW a]
theorem lU(m:aI){r a:aQ}(h:lV a)(hr:fu r a=true):PI m (jR m a) r:=⟨a,h,hr,rfl⟩
theorem TJ{r a:aQ}(h:fu r a=true):r.ID=a.ID:=by
 unfold fu at h;simp only[Bool.and_eq_true,beq_iff_eq]at h;exact h.1
theorem WX{k:Nat}{m:aI}(h:MInv k m){s:aQ}(hs:lV s)(hk:s.ae=20):PI m (nL m s).1 s:=by
 have hi:=vT hs;have ha:∀v,fu s (Df s v)=true:=fun v=>by simp[fu,Df,hk]
 unfold nL;rcases xU m s.bQ with⟨q1,_⟩ | ⟨i,L,q1,_,hx⟩
 ·rw[q1];exact lU m (jN hi (.inl rfl)) (ha _)
 ·have hlm:=h.MK _ (eZ hx);rw[q1];simp only
  split
  ·exact lU m (jN hi (by omega)) (ha _)
  split
  ·exact lU m (jN hi (by omega)) (ha _)
  rename_i hu;split
  ·exact lU m (jN hi (by omega)) (ha _)
  ·obtain⟨v,_,f2,f3,f4,f5⟩:=jr (m:=m) (by omega);rw[f2];exact⟨_,FK hi ⟨f4,f5⟩ hlm.1 hlm.2.1 hlm.2.2,by simp[fu,hk],rfl⟩
theorem SH{k:Nat}{m:aI}(h:MInv k m){s:aQ}(hs:lV s)(hk:s.ae=6):PI m (jV m s).1 s:=by
 have hi:=vT hs;have ha:fu s (xM s.ID 2)=true:=by simp[fu,xM,hk]
 unfold jV;rcases dQ m s.bT with⟨hq,_⟩ | ⟨i,c,hq,_,hc,hl⟩
 ·rw[hq];exact lU m (sM hi (.inr rfl)) ha
 ·rw[hq];simp only
  split
  ·exact lU m (sM hi (.inr rfl)) ha
  ·rename_i hr;have hr:=Decidable.not_not.1 hr;have hcs:=lW (h.qW c (eZ hc));exact⟨_,zy hi (src:=s.am) (dst:=s.bT) (by omega) (by omega) 7 (.inr rfl),by simp[fu,hk],rfl⟩
theorem Ri(m:aI){s:aQ}(hs:lV s)(hk:s.ae=18):PI m (jC m s).1 s∨jC m s=(m,[⟨6,0,[],0,s.ai,s.ID⟩]):=by
 unfold jC;split
 ·exact .inr rfl
 ·exact .inl (lU m (sM (vT hs) (.inl rfl)) (by simp[fu,xM,hk]))
theorem Vv(m:aI){r:aQ}(hk:r.ae=18)(v:Int)(h0:(kg m r.ID v).2=0):PI m (kg m r.ID v).1 r:=by
 unfold kg at h0 ⊢;split
 ·rename_i h;rw[pG0 h]at h0;cases h0
 rename_i h1;rw[nG0 h1]at h0;split
 ·rename_i h;rw[pG0 h]at h0;cases h0
 rename_i h2;rw[nG0 h2]at h0;split
 ·rename_i h;rw[pG0 h]at h0;cases h0
 have h2:=Decidable.not_not.1 h2;exact lU m (pU h2.1 19 (.inl ⟨rfl,h2.2⟩)) (by simp[fu,hk])
theorem Rw{m:aI}(hd:DI m){i:Nat}{r:aQ}(hr:m.aB[i]? = some r):r∉pE m.aB i:=fun hm=>by
 unfold DI at hd;unfold pE at hm;have hi:=(gS.1 hr).1;have hsp:m.aB=m.aB.take i++r::m.aB.drop (i+1):=by
  have h1:=List.drop_eq_getElem_cons hi;rw[(gS.1 hr).2]at h1;rw[← h1,List.take_append_drop]
 rw[hsp,List.map_append,mC,List.nodup_append]at hd;obtain⟨_,d2,d3⟩:=hd;rw[List.nodup_cons]at d2;rcases List.mem_append.1 hm with hm | hm
 ·exact d3 r.ID (List.mem_map.2 ⟨r,hm,rfl⟩) r.ID (by simp) rfl
 ·exact d2.1 (List.mem_map.2 ⟨r,hm,rfl⟩)
theorem TK{m:aI}(s:aQ):(∀r∈m.aB,fu r s=false)/\ny m s=(m,[])∨∃(i:Nat) (r:aQ),m.aB[i]? = some r/\fu r s=true/\(ny m s).1.aB=pE m.aB i/\(ny m s).1.Out=m.Out:=by
 unfold ny;cases ht:takeC m s with
 | none=>
   refine .inl ⟨fun r hr=>?_,rfl⟩;unfold takeC at ht;cases hf:m.aB.findIdx? (fun r=>fu r s)with
   | none=>
     rw[List.findIdx?_eq_none_iff]at hf;simpa using hf r hr
   | some i=>
     rw[hf]at ht;simp only at ht;obtain⟨hi,_⟩:=List.findIdx?_eq_some_iff_getElem.1 hf;rw[gE hi]at ht;cases ht
 | some q=>
   obtain⟨i,r⟩:=q;have h2:m.aB[i]? = some r/\fu r s=true:=by
    unfold takeC at ht;cases hf:m.aB.findIdx? (fun r=>fu r s)with
    | none=>rw[hf]at ht;cases ht
    | some j=>
      rw[hf]at ht;obtain⟨hj,hp,_⟩:=List.findIdx?_eq_some_iff_getElem.1 hf;simp only[gE hj,Option.some.injEq,Prod.mk.injEq]at ht;obtain⟨rfl,rfl⟩:=ht;exact⟨gE hj,hp⟩
   refine .inr ⟨i,r,h2.1,h2.2,?_⟩;simp only
   unfold o8
   (repeat' split) <;> exact⟨rfl,rfl⟩
structure Inc(m m':aI)(s:aQ):Prop where
 req:Fj m m'
 gone:DI m->∀r∈m'.aB,r∈m.aB->fu r s=true->False
theorem GV{r s:aQ}(h:s.ae≠21/\s.ae≠1/\s.ae≠7/\s.ae≠19):fu r s=true->False:=fun e=>by
 unfold fu at e;simp only[Bool.and_eq_true]at e;have:=e.2
 (repeat' split at this) <;> simp_all
theorem Wp{m:aI}(s:aQ):Inc m (rG m s).1 s:=by
 unfold rG;split
 ·rename_i h;exact⟨(Vd m s).req,fun _ r _ _ e=>GV (by omega) e⟩
 split
 ·rename_i h;exact⟨(QG m s).req,fun _ r _ _ e=>GV (by omega) e⟩
 split
 ·rename_i h;exact⟨(QF m s).req,fun _ r _ _ e=>GV (by omega) e⟩
 split
 ·rename_i h;exact⟨Vt m s,fun _ r _ _ e=>GV (by omega) e⟩
 ·rcases TK (m:=m) s with⟨h1,h2⟩ | ⟨i,r,h1,h2,h3,h4⟩
  ·rw[h2];exact⟨.refl m,fun _ r hr _ e=>by rw[h1 r hr]at e;cases e⟩
  ·refine⟨⟨⟨[],by rw[h4];simp,fun t ht=>.inl ?_⟩,fun _ _ hd=>?_⟩,fun hd t ht hm e=>?_⟩
   ·rw[h3]at ht;exact(sS m.aB i).subset ht
   ·unfold DI at hd ⊢;rw[h3];exact hd.sublist ((sS m.aB i).map _)
   ·rw[h3]at ht;have hid:t.ID=r.ID:=(TJ e).trans (TJ h2).symm;have htr:t=r:=by
     unfold DI at hd;obtain⟨j,hj⟩:=List.getElem?_of_mem hm;have g1:(m.aB.map (·.ID))[j]? = some t.ID:=by rw[List.getElem?_map,hj];rfl
     have g2:(m.aB.map (·.ID))[i]? = some t.ID:=by rw[List.getElem?_map,h1,hid];rfl
     have hjl:j<(m.aB.map (·.ID)).length:=(gS.1 g1).1;have:=(List.getElem?_inj hjl hd).1 (g1.trans g2.symm);subst this;rw[hj]at h1;injection h1
    subst htr;exact Rw hd h1 ht
end St
end V
namespace V
namespace Sy
open St Po
def xs(l:List bJ):Nat:=(l.map fun f=>27*frX f).sum
theorem Fu(l k:List bJ):xs (l++k)=xs l+xs k:=by unfold xs;rw[List.map_append,List.sum_append]
theorem uT(f:bJ)(l:List bJ):xs (f::l)=27*frX f+xs l:=by unfold xs;rw[mC,List.sum_cons]
def Pk(m:aI):Nat:=fZ m-xs m.Out-m.aV.toNat
theorem P8(l:List bJ):xs l+(l.map fun f=>f.al.length+30).sum=(l.map Kq).sum:=by
 induction l with
 | nil=>rfl
 | cons f l ih=>
   rw[uT];simp only[mC,List.sum_cons];have:Kq f=f.al.length+30+27*frX f:=rfl;omega
theorem uM{k:Nat}{m:aI}(h:MInv k m):Pk m+xs m.Out+m.aV.toNat=fZ m:=by
 have h1:=P8 m.Out;have h2:m.aV.toNat<=(m.Out.map fun f=>f.al.length+30).sum:=by
  cases ho:m.Out with
  | nil=>rw[h.oP ho];simp
  | cons f t=>
    have hs:=h.sent f t ho;simp only[mC,List.sum_cons];omega
 have h3:fZ m=(m.aj.map (lS m)).sum+(m.Out.map Kq).sum:=rfl;unfold Pk;omega
theorem TA{k k' g:Nat}{m m':aI}(h:MInv k m)(h':MInv k' m')(hs:Same m m'){l:List bJ}(hl:m'.Out=m.Out++l)(hp:fZ m'<=fZ m+g):Pk m'+xs l<=Pk m+g:=by
 have e1:=uM h;have e2:=uM h';rw[hl,Fu,hs.sent]at e2;omega
theorem Tz{k:Nat}{m:aI}(h:MInv k m){f:bJ}{t:List bJ}(ho:m.Out=f::t)(h':MInv k (jA m f t)):Pk (jA m f t)+27<=Pk m:=by
 obtain⟨r1,r2⟩:=Rl h ho;have e1:=uM h;have e2:=uM h';have s1:=IG h;have s2:=IG h';unfold rest at r1 r2;by_cases he:toM m f=(f.al.length:Int)+4
 ·have r:=r1 he;have ho':(jA m f t).Out=t:=by unfold jA;rw[pG0 he]
  rw[ho']at e2;rw[ho,uT]at e1;omega
 ·have r:=r2 he;have ho':(jA m f t).Out=m.Out:=by unfold jA;rw[nG0 he]
  rw[ho']at e2;omega
theorem gN(w:Wr)(k:Bool)(m:aI):(w.bF k m).s k=m/\(w.bF k m).s (!k)=w.s (!k):=by cases k <;> exact⟨rfl,rfl⟩
theorem eu(w:Wr)(k j:Bool)(m:aI):(w.bF k m).a j=w.a j/\(w.bF k m).f j=w.f j:=by cases k <;> cases j <;> exact⟨rfl,rfl⟩
theorem CO(w:Wr)(k:Bool)(l:List eH):(w.gT k l).a k=l/\(w.gT k l).a (!k)=w.a (!k):=by cases k <;> exact⟨rfl,rfl⟩
theorem iy(w:Wr)(k j:Bool)(l:List eH):(w.gT k l).s j=w.s j/\(w.gT k l).f j=w.f j:=by cases k <;> cases j <;> exact⟨rfl,rfl⟩
theorem yc(w:Wr)(k:Bool)(l:List bJ):(w.nE k l).f k=l/\(w.nE k l).f (!k)=w.f (!k):=by cases k <;> exact⟨rfl,rfl⟩
theorem iV(w:Wr)(k j:Bool)(l:List bJ):(w.nE k l).s j=w.s j/\(w.nE k l).a j=w.a j:=by cases k <;> cases j <;> exact⟨rfl,rfl⟩
theorem lQ(w:Wr)(k:Bool)(m:aI)(l:List eH)(q:List bJ):(w.bF k m).oC=w.oC/\(w.gT k l).oC=w.oC/\(w.nE k q).oC=w.oC:=by cases k <;> exact⟨rfl,rfl,rfl⟩
structure bj(m:aI):Prop where
 inv:MInv m.Out.length m
 yT:∀c∈m.aj,Byc c
structure Ord(L:Bool->List bJ)(r:Bool->Nat)(w:Wr):Prop where
 side:∀k,bj (w.s k)
 way:∀k,Way (L k) (r k) (w.a k) (w.s k) (w.s (!k)) (w.f k)
 ok:w.oC=false
 role:∀k,(w.s k).iY=if k=true then 1 else 0
def phi(L:Bool->List bJ)(w:Wr):Nat:=Pk (w.s false)+xs (L false)+(Pk (w.s true)+xs (L true))
theorem pW(L:Bool->List bJ)(w:Wr)(k:Bool):phi L w=Pk (w.s k)+xs (L k)+(Pk (w.s (!k))+xs (L (!k))):=by
 cases k
 ·rfl
 ·unfold phi;rw[show(!true)=false from rfl];omega
theorem bj.of{k:Nat}{m:aI}(h:MInv k m)(hb:∀c∈m.aj,Byc c):bj m:=⟨MInv.tight h,hb⟩
theorem bj.rows{m m':aI}(h:bj m){k:Nat}(hI:MInv k m')(hr:Rows m m'):bj m':=⟨MInv.tight hI,fun c hc s hs=>by
 obtain⟨d,hd,hs⟩:=hr c hc s hs;exact h.yT d hd s hs⟩
structure iH(n:Int)(X:Bool->aQ->Prop)(L:Bool->List bJ)(w:Wr):Prop where
 n0:0<=n
 di:∀k,DI (w.s k)
 pend:∀k,∀r∈(w.s k).aB,gW r∈L k∨(∃a,lV a/\fu r a=true/\gW a∈L (!k))∨(r.ae=18/\w.par<=-1000+n)∨X k r
theorem iH.of{n:Int}{X:Bool->aQ->Prop}{L L':Bool->List bJ}{w w':Wr}(h:iH n X L w)(hs:∀k,(w'.s k).aB=(w.s k).aB)(hL:∀k,∀f∈L k,f∈L' k){n':Int}(hp:w.par<=-1000+n->w'.par<=-1000+n')(hz:0<=n->0<=n':=by intro h;omega):iH n' X L' w':=
 ⟨hz h.n0,fun k=>by have:=h.di k;unfold DI at this ⊢;rw[hs];exact this,fun k r hr=>by
  rw[hs]at hr;rcases h.pend k r hr with q | ⟨a,q1,q2,q3⟩ | ⟨q1,q2⟩ | q
  ·exact .inl (hL k _ q)
  ·exact .inr (.inl ⟨a,q1,q2,hL (!k) _ q3⟩)
  ·exact .inr (.inr (.inl ⟨q1,hp q2⟩))
  ·exact .inr (.inr (.inr q))⟩
theorem ko(w:Wr)(k:Bool)(m:aI):(w.bF k m).par=w.par:=by cases k <;> rfl
theorem iH.side{n:Int}{X:Bool->aQ->Prop}{L L':Bool->List bJ}{w:Wr}(h:iH n X L w)(k:Bool){m':aI}(hq:Fj (w.s k) m'){kk:Nat}(hI:MInv kk (w.s k))(hL:∀j,∀f∈L j,f∈L' j)(hn:∀l,m'.Out=(w.s k).Out++l->∀f∈l,f∈L' k):iH n X L' (w.bF k m'):=by
 obtain⟨q1,q2⟩:=gN w k m';obtain⟨l,e1,e2⟩:=hq.out;have other:∀j,j = !k->(w.bF k m').s j=w.s j:=fun j hj=>by rw[hj];exact q2
 refine⟨h.n0,fun j=>?_,fun j r hr=>?_⟩
 ·by_cases hj:j=k
  ·rw[hj,q1];exact hq.ids (by have:=hI.qY;omega) hI.next (h.di k)
  ·rw[other j (by cases j <;> cases k <;> simp_all)]
   exact h.di j
 ·rw[ko];have old:r∈(w.s j).aB->gW r∈L' j∨(∃a,lV a/\fu r a=true/\gW a∈L' (!j))∨(r.ae=18/\w.par<=-1000+n)∨X j r:=fun hr=>by
   rcases h.pend j r hr with q | ⟨a,g1,g2,g3⟩ | ⟨g1,g2⟩ | q
   ·exact .inl (hL j _ q)
   ·exact .inr (.inl ⟨a,g1,g2,hL (!j) _ g3⟩)
   ·exact .inr (.inr (.inl ⟨g1,g2⟩))
   ·exact .inr (.inr (.inr q))
  by_cases hj:j=k
  ·subst hj;rw[q1]at hr;rcases e2 r hr with q | q
   ·exact old q
   ·exact .inl (hn l e1 _ q)
  ·rw[other j (by cases j <;> cases k <;> simp_all)]at hr
   exact old hr
theorem Ord.adds{L:Bool->List bJ}{r:Bool->Nat}{w:Wr}(h:Ord L r w)(k:Bool){m':aI}(hs:bj m')(ha:Adds (w.s k) m'){g:Nat}(hp:fZ m'<=fZ (w.s k)+g):∃L',Ord L' r (w.bF k m')/\phi L' (w.bF k m')<=phi L w+g/\L' (!k)=L (!k)/\(∀f∈L k,f∈L' k)/\(∀l,m'.Out=(w.s k).Out++l->∀f∈l,f∈L' k)/\(Fj (w.s k) m'->∀n X,iH n X L w->iH n X L' (w.bF k m')):=by
 obtain⟨l,hn,hl,hw⟩:=(h.way k).adds ha;obtain⟨q1,q2⟩:=gN w k m';have hb:=TA (h.side k).inv hs.inv ha.1 hl hp;have hk:(fun j=>if j=k then L k++l else L j) k=L k++l:=pG0 rfl;have g1:∀f∈L k,f∈(fun j=>if j=k then L k++l else L j) k:=fun f hf=>by rw[hk];exact List.mem_append_left _ hf
 have g2:∀l',m'.Out=(w.s k).Out++l'->∀f∈l',f∈(fun j=>if j=k then L k++l else L j) k:=fun l' hl' f hf=>by
  rw[hk];have:l'=l:=List.append_cancel_left (hl'.symm.trans hl);subst this;exact List.mem_append_right _ hf
 have g3:Fj (w.s k) m'->∀n X,iH n X L w->iH n X (fun j=>if j=k then L k++l else L j) (w.bF k m'):=fun hq n X hP=>hP.side k hq (h.side k).inv (fun j f hf=>by
  by_cases hj:j=k
  ·rw[hj]at hf ⊢;exact g1 f hf
  ·rw[nG0 hj];exact hf) g2
 refine⟨fun j=>if j=k then L k++l else L j,⟨fun j=>?_,fun j=>?_,?_,fun j=>?_⟩,?_,?_,g1,g2,g3⟩
 ·by_cases hj:j=k
  ·rw[hj,q1];exact hs
  ·rw[show j = !k by cases j <;> cases k <;> simp_all,q2];exact h.side _
 ·obtain⟨a1,a2⟩:=eu w k j m';rw[a1,a2];by_cases hj:j=k
  ·subst hj;simp only[if_true];rw[q1,q2];exact hw
  ·have hjk:j = !k:=by cases j <;> cases k <;> simp_all
   subst hjk;rw[nG0 hj,q2,Bool.not_not,q1];have:=h.way (!k);rw[Bool.not_not]at this;exact this.right ha.1.asm
 ·rw[(lQ w k m' [] []).1];exact h.ok
 ·by_cases hj:j=k
  ·rw[hj,q1,ha.1.role];exact h.role k
  ·rw[show j = !k by cases j <;> cases k <;> simp_all,q2];exact h.role _
 ·rw[pW _ _ k,pW L w k,q1,q2];simp only[if_true];rw[nG0 (show ¬ (!k)=k by cases k <;> simp),Fu]
  omega
 ·show(if (!k)=k then _ else _)=_;rw[nG0 (show ¬ (!k)=k by cases k <;> simp)]
end Sy
end V
namespace V
namespace Sy
open St Po
theorem GN(k:Bool):¬ (!k)=k:=by cases k <;> simp
theorem dn(j k:Bool):j=k∨j = !k:=by cases j <;> cases k <;> simp
theorem sO(w:Wr)(k:Bool)(m m':aI):(w.bF k m).bF k m'=w.bF k m':=by cases k <;> rfl
theorem xA(w:Wr)(k:Bool):w.bF k (w.s k)=w:=by cases k <;> rfl
theorem Ord.pre{L:Bool->List bJ}{r:Bool->Nat}{w:Wr}(h:Ord L r w)(k:Bool)(hf:(w.s k).Out.length<=800000000):∃L',Ord L' r (w.bF k (tJ (w.s k)))/\phi L' (w.bF k (tJ (w.s k)))<=phi L w/\L' (!k)=L (!k)/\∀n X,iH n X L w->iH n X L' (w.bF k (tJ (w.s k))):=by
 unfold tJ;by_cases h0:(w.s k).Out=[]
 ·rw[pG0 h0];obtain⟨_,hI⟩:=Cw (h.side k).inv hf;obtain⟨ha,hr⟩:=Uc (h.side k).inv (h.side k).yT;obtain⟨L',q1,q2,q3,_,_,q6⟩:=h.adds k ((h.side k).rows hI hr) ha (g:=0) (JM (h.side k).inv);exact⟨L',q1,q2,q3,q6 (Ve _).req⟩
 ·rw[nG0 h0,xA];exact⟨L,h,lR _,rfl,fun _ _ hP=>hP⟩
theorem Ord.out{L:Bool->List bJ}{r:Bool->Nat}{w:Wr}(h:Ord L r w)(k:Bool)(hf:(w.s k).Out.length<=900000000)(ht:(gq (w.s k)).2.2=true):Ord L r ((w.bF k (gq (w.s k)).1).gT k (w.a k++[(gq (w.s k)).2.1]))/\phi L ((w.bF k (gq (w.s k)).1).gT k (w.a k++[(gq (w.s k)).2.1]))+27<=phi L w:=by
 have hS:=h.side k;have hW:=h.way k;obtain⟨_,hI⟩:=FZ hS.inv hf;have hfl:=(JA hS.inv hW.flow).2 ht;have hx:∃f t,(w.s k).Out=f::t/\(gq (w.s k)).1=jA (w.s k) f t:=by
  unfold gq at ht ⊢;cases ho:(w.s k).Out with
  | nil=>rw[ho]at ht;cases ht
  | cons f t=>exact⟨f,t,rfl,rfl⟩
 obtain⟨f,t,ho,he⟩:=hx;rw[he]at hI;have hb:=Tz hS.inv ho hI;rw[← he]at hb hI;have hch:(gq (w.s k)).1.aj=(w.s k).aj:=by rw[he];unfold jA;split <;> rfl
 have hasm:(gq (w.s k)).1.ay=(w.s k).ay:=by rw[he];unfold jA;split <;> rfl
 have YB:(gq (w.s k)).1.iY=(w.s k).iY:=by rw[he];unfold jA;split <;> rfl
 generalize gq (w.s k)=o at *;obtain⟨s1,s2⟩:=gN w k o.1;obtain⟨a1,a2⟩:=CO (w.bF k o.1) k (w.a k++[o.2.1]);refine⟨⟨fun j=>?_,fun j=>?_,?_,fun j=>?_⟩,?_⟩
 ·rw[(iy _ k j _).1];rcases dn j k with hj | hj
  ·rw[hj,s1];exact⟨MInv.tight hI,by rw[hch];exact hS.yT⟩
  ·rw[hj,s2];exact h.side _
 ·rw[(iy _ k j _).1,(iy _ k (!j) _).1,(iy _ k j _).2,(eu w k j _).2];rcases dn j k with hj | hj
  ·subst hj;rw[a1,s1,s2];exact⟨hfl,hW.asm,hW.good,hW.fix,hW.emp⟩
  ·subst hj;rw[a2,(eu w k (!k) _).1,s2,Bool.not_not,s1];have:=h.way (!k);rw[Bool.not_not]at this;exact this.right hasm
 ·rw[(lQ _ k o.1 _ []).2.1,(lQ w k o.1 [] []).1];exact h.ok
 ·rw[(iy _ k j _).1];rcases dn j k with hj | hj
  ·rw[hj,s1,YB];exact h.role k
  ·rw[hj,s2];exact h.role _
 ·rw[pW _ _ k,pW L w k,(iy _ k k _).1,(iy _ k (!k) _).1,s1,s2];omega
theorem iH.out{n:Int}{X:Bool->aQ->Prop}{L:Bool->List bJ}{w:Wr}(h:iH n X L w)(k:Bool)(l:List eH):iH n X L ((w.bF k (gq (w.s k)).1).gT k l):=by
 have hA:(gq (w.s k)).1.aB=(w.s k).aB:=by
  unfold gq;split
  ·rfl
  ·simp only
   unfold jA;split <;> rfl
 refine h.of (fun j=>?_) (fun _ _ hf=>hf) (fun hp=>by
  have:((w.bF k (gq (w.s k)).1).gT k l).par=w.par:=by cases k <;> rfl
  rw[this];exact hp)
 obtain⟨s1,s2⟩:=gN w k (gq (w.s k)).1;rw[(iy _ k j l).1];rcases dn j k with hj | hj
 ·rw[hj,s1];exact hA
 ·rw[hj,s2]
theorem Ord.dK{L:Bool->List bJ}{r:Bool->Nat}{w:Wr}(h:Ord L r w)(k:Bool)(hf:(w.s k).Out.length<=800000000)(hf2:(tJ (w.s k)).Out.length<=900000000):∃L',Ord L' r (Sy.dK w k).1/\L' (!k)=L (!k)/\(Sy.dK w k).1.a (!k)=w.a (!k)/\(∀n X,iH n X L w->iH n X L' (Sy.dK w k).1)/\
 (((Sy.dK w k).2=true/\phi L' (Sy.dK w k).1+27<=phi L w/\((Sy.dK w k).1.a k).length=(w.a k).length+1)∨((Sy.dK w k).2=false/\phi L' (Sy.dK w k).1<=phi L w/\(Sy.dK w k).1.a k=w.a k/\((Sy.dK w k).1.s k).Out=[])):=by
 obtain⟨L',q1,q2,q3,q9⟩:=h.pre k hf;obtain⟨s1,s2⟩:=gN w k (tJ (w.s k));have hS:=q1.side k;rw[s1]at hS;unfold Sy.dK iD;by_cases ht:(gq (tJ (w.s k))).2.2=true
 ·rw[pG0 ht];have hO:=q1.out k (by rw[s1];exact hf2) (by rw[s1];exact ht);rw[s1,sO,(eu w k k _).1]at hO;refine⟨L',hO.1,q3,?_,fun n X hP=>?_,.inl ⟨rfl,?_,?_⟩⟩
  ·rw[(CO _ k _).2,(eu w k (!k) _).1]
  ·have:=(q9 n X hP).out k (w.a k++[(gq (tJ (w.s k))).2.1]);rw[s1,sO]at this;exact this
  ·have:=hO.2;simp only
   omega
  ·simp only
   rw[(CO _ k _).1,lA];rfl
 ·rw[nG0 ht];obtain⟨f1,f2⟩:=(JA hS.inv (by have:=(q1.way k).flow;rw[s1]at this;exact this)).1 (by simpa using ht);rw[f2];refine⟨L',q1,q3,(eu w k (!k) _).1,q9,.inr ⟨rfl,q2,(eu w k k _).1,?_⟩⟩;show((w.bF k (tJ (w.s k))).s k).Out=[];rw[s1];exact f1
end Sy
end V
namespace V
namespace Sy
open St Po
theorem Ord.same{L:Bool->List bJ}{r:Bool->Nat}{w w':Wr}(h:Ord L r w)(h0:w'.s0=w.s0)(h1:w'.s1=w.s1)(h2:w'.a0=w.a0)(h3:w'.a1=w.a1)(h4:w'.f0=w.f0)(h5:w'.f1=w.f1)(h6:w'.oC=w.oC):Ord L r w'/\phi L w'=phi L w/\∀k,w'.a k=w.a k:=by
 have es:w'.s=w.s:=by funext k;cases k <;> simp[Wr.s,h0,h1]
 have ea:w'.a=w.a:=by funext k;cases k <;> simp[Wr.a,h2,h3]
 have ef:w'.f=w.f:=by funext k;cases k <;> simp[Wr.f,h4,h5]
 refine⟨⟨fun k=>by rw[es];exact h.side k,fun k=>by rw[es,ea,ef];exact h.way k,by rw[h6];exact h.ok,fun k=>by rw[es];exact h.role k⟩,by unfold phi;rw[es],fun k=>by rw[ea]⟩
theorem Qn{L:Bool->List bJ}{r:Bool->Nat}{w:Wr}(h:Ord L r w)(k:Bool)(x:gy)(hx:x.ae≠1)(hf:(w.s k).Out.length<=900000000):∃L',Ord L' r (kQ w k x)/\phi L' (kQ w k x)<=phi L w+(if x.ae=6 then 44 else 0)/\L' (!k)=L (!k)/\(∀j,(kQ w k x).a j=w.a j)/\(∀f∈L k,f∈L' k)/\(∀n X,iH n X L w->iH n X L' (kQ w k x))/\(x.ae=6->∀r:aQ,r.ae=18->r.ID=x.ID->(∃a,lV a/\fu r a=true/\gW a∈L' k)∨(kQ w k x).par<=-1000):=by
 unfold kQ;by_cases k2:x.ae=2
 ·rw[pG0 k2];obtain⟨q1,q2,q3⟩:=h.same (w':={ w with sd:=aF w.sd (slot k x.aU) [],cn:=aF w.cn (slot k x.aU) false }) rfl rfl rfl rfl rfl rfl rfl;exact⟨L,q1,by omega,rfl,q3,fun _ hf=>hf,fun n X hP=>hP.of (fun j=>by cases j <;> rfl) (fun _ _ hf=>hf) (fun hp=>by first | exact hp | (show w.par-1<=_;omega)),fun e=>absurd e (by omega)⟩
 rw[nG0 k2];by_cases k5:x.ae=5
 ·rw[pG0 k5];obtain⟨q1,q2,q3⟩:=h.same (w':={ w with ans:=w.ans || !w.cn (slot k x.aU),cn:=aF w.cn (slot k x.aU) false }) rfl rfl rfl rfl rfl rfl rfl;exact⟨L,q1,by omega,rfl,q3,fun _ hf=>hf,fun n X hP=>hP.of (fun j=>by cases j <;> rfl) (fun _ _ hf=>hf) (fun hp=>by first | exact hp | (show w.par-1<=_;omega)),fun e=>absurd e (by omega)⟩
 rw[nG0 k5,nG0 hx];by_cases k3:x.ae=3
 ·rw[pG0 k3];split
  ·rename_i c _;obtain⟨q1,q2,q3⟩:=h.same (w':={ w with sd:=aF w.sd (slot (!k) c.ax) (w.sd (slot (!k) c.ax)).tail }) rfl rfl rfl rfl rfl rfl rfl;exact⟨L,q1,by omega,rfl,q3,fun _ hf=>hf,fun n X hP=>hP.of (fun j=>by cases j <;> rfl) (fun _ _ hf=>hf) (fun hp=>by first | exact hp | (show w.par-1<=_;omega)),fun e=>absurd e (by omega)⟩
  ·obtain⟨q1,q2,q3⟩:=h.same (w':={ w with dat:=true }) rfl rfl rfl rfl rfl rfl rfl;exact⟨L,q1,by omega,rfl,q3,fun _ hf=>hf,fun n X hP=>hP.of (fun j=>by cases j <;> rfl) (fun _ _ hf=>hf) (fun hp=>by first | exact hp | (show w.par-1<=_;omega)),fun e=>absurd e (by omega)⟩
 rw[nG0 k3];by_cases k6:x.ae=6
 ·rw[pG0 k6];obtain⟨_,hI⟩:=AU (h.side k).inv hf x.ID (x.ai.aN.tmod 2);have ha:=TV (w.s k) x.ID (x.ai.aN.tmod 2);have hr:=QS (w.s k) x.ID (x.ai.aN.tmod 2);obtain⟨L',q1,q2,q3,q4,q5,q6⟩:=h.adds k ((h.side k).rows hI hr) ha (Vu _ _ _);have q6:=q6 (Vb (w.s k) x.ID (x.ai.aN.tmod 2)).req;rw[pG0 k6];split
  ·rename_i h0;refine⟨L',q1,q2,q3,fun j=>(eu w k j _).1,q4,q6,fun _ r hr hid=>.inl ?_⟩;obtain⟨a,a1,a2,a3⟩:=Vv (w.s k) hr (x.ai.aN.tmod 2) (by rw[hid];exact h0);rw[hid]at a3;exact⟨a,a1,a2,q5 _ a3 _ (by simp)⟩
  ·obtain⟨p1,p2,p3⟩:=q1.same (w':={ w.bF k (kg (w.s k) x.ID (x.ai.aN.tmod 2)).1 with par:=-1000 }) rfl rfl rfl rfl rfl rfl rfl;exact⟨L',p1,by omega,q3,fun j=>(p3 j).trans (eu w k j _).1,q4,fun n X hP=>(q6 n X hP).of (fun j=>by cases j <;> rfl) (fun _ _ hf=>hf) (n':=n) (fun hp=>by have:=hP.n0;show(-1000:Int)<=-1000+n;omega),fun _ _ _ _=>.inr (Int.le_refl _)⟩
 rw[nG0 k6,nG0 k6];split
 ·obtain⟨q1,q2,q3⟩:=h.same (w':={ w with par:=w.par-1,ans:=w.ans||(w.par-1 == -1) }) rfl rfl rfl rfl rfl rfl rfl;exact⟨L,q1,by omega,rfl,q3,fun _ hf=>hf,fun n X hP=>hP.of (fun j=>by cases j <;> rfl) (fun _ _ hf=>hf) (fun hp=>by first | exact hp | (show w.par-1<=_;omega)),fun e=>absurd e (by omega)⟩
 ·exact⟨L,h,by omega,rfl,fun _=>rfl,fun _ hf=>hf,fun _ _ hP=>hP,fun e=>absurd e (by omega)⟩
theorem abk(m:aI){s:aQ}:∀x∈(rG m s).2,x.ae≠1/\(x.ae=6->(rG m s).1=m/\oO s.ae=2):=by
 unfold rG;split
 ·unfold nL
  (repeat' split) <;> intro x hx <;> simp at hx
  subst hx;exact⟨by simp[wV],fun e=>by simp[wV]at e⟩
 split
 ·unfold jV
  (repeat' split) <;> intro x hx <;> simp at hx
  subst hx;exact⟨by simp[wV],fun e=>by simp[wV]at e⟩
 split
 ·rename_i h18;unfold jC;split
  ·intro x hx;simp at hx;subst hx;exact⟨by simp,fun _=>⟨rfl,by rw[h18];decide⟩⟩
  ·intro x hx;simp at hx
 split
 ·intro x hx;simp at hx
 ·unfold ny o8
  (repeat' split) <;> intro x hx <;> simp at hx <;> subst hx <;> exact⟨by simp[wV],fun e=>by simp[wV]at e⟩
theorem Sc(m:aI){f:bJ}(hg:wS f)(hn:ji f=false):∀x∈(iE m f).2,x.ae≠1/\(x.ae=6->(iE m f).1=m/\frX f=2):=by
 have hn':¬ (f.aU=4∨f.aU=6):=by unfold ji at hn;simpa using hn
 unfold iE frX;rw[nG0 hn',nG0 hn'];by_cases c5:f.aU=5
 ·obtain⟨s,hs,hp⟩:=hg c5;rw[pG0 c5,pG0 c5,hp,Jv hs];unfold Da;rw[Sg.nX hs.1 hs.2,pG0 rfl];exact abk m
 ·rw[nG0 c5];intro x hx;have h3:x.ae=3:=by
   revert hx
   unfold kS FN
   (repeat' split) <;> intro hx <;> simp at hx
   all_goals
    obtain⟨d,_,rfl⟩:=hx;rfl
  exact⟨by omega,fun e=>by omega⟩
end Sy
end V
namespace V
namespace Sy
open St Po
def at_{α:Type}(g:Bool->α)(k:Bool)(x:α):Bool->α:=fun j=>if j=k then x else g j
theorem mD{α:Type}(g:Bool->α)(k:Bool)(x:α):at_ g k x k=x:=pG0 rfl
theorem kC{α:Type}(g:Bool->α)(k:Bool)(x:α):at_ g k x (!k)=g (!k):=nG0 (GN k)
theorem DR(w:Wr)(k:Bool):w.nE k (w.f k)=w:=by cases k <;> rfl
def gK(m:aI)(a:kH):aI:={ m with ay:=a }
theorem Ord.base{L:Bool->List bJ}{r:Bool->Nat}{w:Wr}(h:Ord L r w)(k:Bool){ps:List eH}{R:List bJ}{u:Nat}(hf:Flow R u ps (w.s k).Out (w.s k).aV.toNat)(hg:∀f∈R,Good f/\wS f)(he:R=[]->u=0)(hv:Fr.Val (dL R u)) :
 Ord (at_ L k R) (at_ r k u) (((w.gT k ps).bF (!k) (gK (w.s (!k)) (dL R u))).nE k (R.filter ji))/\phi (at_ L k R) (((w.gT k ps).bF (!k) (gK (w.s (!k)) (dL R u))).nE k (R.filter ji))+xs (L k)=phi L w+xs R:=by
 have hS:=h.side (!k);obtain⟨s1,s2⟩:=gN (w.gT k ps) (!k) (gK (w.s (!k)) (dL R u));rw[Bool.not_not,(iy w k k ps).1]at s2;obtain⟨f1,f2⟩:=yc ((w.gT k ps).bF (!k) (gK (w.s (!k)) (dL R u))) k (R.filter ji);obtain⟨a1,a2⟩:=CO w k ps;refine⟨⟨fun j=>?_,fun j=>?_,?_,fun j=>?_⟩,?_⟩
 ·rw[(iV _ k j _).1];rcases dn j k with hj | hj
  ·rw[hj,s2];exact h.side k
  ·rw[hj,s1];exact⟨hS.inv.gK hv,hS.yT⟩
 ·rw[(iV _ k j _).1,(iV _ k (!j) _).1,(iV _ k j _).2,(eu _ (!k) j _).1];rcases dn j k with hj | hj
  ·subst hj;rw[mD,mD,f1,s2,s1,a1];exact⟨hf,rfl,hg,rfl,he⟩
  ·subst hj;rw[kC,kC,f2,Bool.not_not,s1,s2,a2,(eu _ (!k) (!k) _).2,(iy w k (!k) _).2];have:=h.way (!k);rw[Bool.not_not]at this;exact⟨this.flow,this.asm,this.good,this.fix,this.emp⟩
 ·rw[(lQ _ k (w.s k) [] _).2.2,(lQ _ (!k) _ [] []).1,(lQ w k (w.s k) ps []).2.1];exact h.ok
 ·rw[(iV _ k j _).1];rcases dn j k with hj | hj
  ·rw[hj,s2];exact h.role k
  ·rw[hj,s1];exact h.role _
 ·rw[pW _ _ k,pW L w k,(iV _ k k _).1,(iV _ k (!k) _).1,s1,s2,mD,kC];have:Pk (gK (w.s (!k)) (dL R u))=Pk (w.s (!k)):=rfl;omega
def Hr:Bool->aQ->Prop:=fun _ _=>False
theorem iH.elim{n:Int}{X:Bool->aQ->Prop}{L:Bool->List bJ}{w:Wr}(h:iH n X L w)(hx:∀k r,X k r->gW r∈L k∨(∃a,lV a/\fu r a=true/\gW a∈L (!k))∨(r.ae=18/\w.par<=-1000+n)):iH n Hr L w:=
 ⟨h.n0,h.di,fun k r hr=>by
  rcases h.pend k r hr with q | q | q | q
  ·exact .inl q
  ·exact .inr (.inl q)
  ·exact .inr (.inr (.inl q))
  ·rcases hx k r q with q | q | q
   ·exact .inl q
   ·exact .inr (.inl q)
   ·exact .inr (.inr (.inl q))⟩
theorem Wy{kk:Nat}{m:aI}(h:MInv kk m){f:bJ}(hg:wS f)(hn:ji f=false):Fj m (iE m f).1/\(DI m->∀r∈(iE m f).1.aB,r∈m.aB->∀a,lV a->f=gW a->fu r a=true->False)/\
 (∀r,lV r->(r.ae=20∨r.ae=6∨r.ae=18)->f=gW r->PI m (iE m f).1 r∨(r.ae=18/\iE m f=(m,[⟨6,0,[],0,r.ai,r.ID⟩]))):=by
 have hn':¬ (f.aU=4∨f.aU=6):=by unfold ji at hn;simpa using hn
 by_cases c5:f.aU=5
 ·obtain⟨s,hs,hp⟩:=hg c5;have hf:iE m f=rG m s:=by
   unfold iE Da;rw[nG0 hn',pG0 c5,hp,Sg.nX hs.1 hs.2];exact pG0 rfl
  have same:∀a,lV a->f=gW a->a=s:=fun a ha e=>by
   have e2:Sg.gX a=Sg.gX s:=by rw[← hp,e];rfl
   have:=Sg.nX ha.1 ha.2;rw[e2,Sg.nX hs.1 hs.2]at this;injection this with this _;exact this.symm
  have hi:=Wp (m:=m) s;rw[hf];refine⟨hi.req,fun hd r hr hm a ha e=>?_,fun r hr hk e=>?_⟩
  ·rw[same a ha e];exact hi.gone hd r hr hm
  ·obtain rfl:=same r hr e;unfold rG;rcases hk with hk | hk | hk
   ·rw[pG0 hk];exact .inl (WX h hr hk)
   ·rw[nG0 (by omega),pG0 hk];exact .inl (SH h hr hk)
   ·rw[nG0 (by omega),nG0 (by omega),pG0 hk];rcases Ri m hr hk with q | q
    ·exact .inl q
    ·exact .inr ⟨hk,q⟩
 ·refine⟨?_,fun _ r _ _ a _ e=>absurd (by rw[e];rfl) c5,fun r _ _ e=>absurd (by rw[e];rfl) c5⟩;unfold iE;rw[nG0 hn',nG0 c5]
  (repeat' split) <;> first | exact .refl m | exact Q7 m _ _ _
theorem Co{L:List bJ}{s:Nat}{p:eH}{ps:List eH}{O:List bJ}{t:Nat}(h:Flow L s (p::ps) O t)(hg:∀f∈L,Good f):L≠[]/\(∀x∈p.al,Byte x)/\p.al.length<=200000:=by
 match L,h with
 | f::r,⟨u,h1,h2,h3,h4⟩=>
   have hf:=hg f (by simp);have:=hf.len;subst h3;refine⟨by simp,fun x hx=>Fr.GL hf.yT x (List.mem_of_mem_take (List.mem_of_mem_drop hx)),?_⟩;simp only[List.length_drop,lT0,Fr.jl];omega
theorem Ord.arr{L:Bool->List bJ}{r:Bool->Nat}{w:Wr}(h:Ord L r w)(k:Bool){p:eH}{ps:List eH}(ha:w.a k=p::ps)(hf:(w.s (!k)).Out.length<=800000000):∃L' r',Ord L' r' (lT w k p ps)/\phi L' (lT w k p ps)<=phi L w/\(lT w k p ps).a k=ps/\(lT w k p ps).a (!k)=w.a (!k)/\∀n,iH n Hr L w->iH n Hr L' (lT w k p ps):=by
 have hW:=h.way k;have hS:=h.side (!k);have hfl:=hW.flow;rw[ha]at hfl;have hgood:∀f∈L k,Good f:=fun f hq=>(hW.good f hq).1;obtain⟨hne,hb,hl⟩:=Co hfl hgood;have hval:=Fr.wu hS.inv.asm hb;obtain⟨_,hI,hlen⟩:=Cj hS.inv (by omega) hb hl;have Jw:∀(m:aI),((w.gT k ps).bF (!k) m).a k=ps/\((w.gT k ps).bF (!k) m).a (!k)=w.a (!k):=fun m=>by
  rw[(eu _ (!k) k m).1,(eu _ (!k) (!k) m).1];exact CO w k ps
 rw[hW.asm]at hval;rcases rW hfl hgood with⟨f,rest,hL,OZ,aa2⟩ | ⟨u,OZ,aa2⟩
 ·have hin:uR (w.s (!k)) p=iE (gK (w.s (!k)) (dL rest 0)) f:=by
   unfold uR gK;rw[hW.asm,OZ]
  rw[OZ]at hval;have hgf:=hW.good f (by rw[hL];simp);obtain⟨q1,q2⟩:=h.base k aa2 (fun g hq=>hW.good g (by rw[hL];simp[hq])) (fun _=>rfl) hval;have hfx:=hW.fix;rw[hL,List.filter_cons]at hfx;rw[hL,uT]at q2;by_cases hx:ji f=true
  ·rw[pG0 hx]at hfx;have h46:f.aU=4∨f.aU=6:=by unfold ji at hx;simpa using hx
   have hfr:iE (gK (w.s (!k)) (dL rest 0)) f=(gK (w.s (!k)) (dL rest 0),[⟨1,f.aU,f.al,0,zu,0⟩]):=by unfold iE;rw[pG0 h46]
   have harr:lT w k p ps=((w.gT k ps).bF (!k) (gK (w.s (!k)) (dL rest 0))).nE k (rest.filter ji):=by
    unfold lT;rw[hin,hfr];show kQ ((w.gT k ps).bF (!k) (gK (w.s (!k)) (dL rest 0))) (!k) ⟨1,f.aU,f.al,0,zu,0⟩=_;unfold kQ;rw[nG0 (by simp),nG0 (by simp),pG0 rfl,Bool.not_not,(eu _ (!k) k _).2,(iy w k k ps).2,← hfx];simp only
    rw[pG0 ⟨trivial,trivial⟩]
   rw[harr];refine⟨_,_,q1,by omega,?_,?_,fun n hP=>?_⟩
   ·rw[(iV _ k k _).2];exact(Jw _).1
   ·rw[(iV _ k (!k) _).2];exact(Jw _).2
   ·have h5:∀r,gW r≠f:=fun r e=>by
     rw[← e]at h46;rcases h46 with q | q <;> exact absurd q (by show ¬ ((5:Int)=_);omega)
    have hsub:∀(j:Bool) r,gW r∈L j->gW r∈at_ L k rest j:=fun j r hm=>by
     rcases dn j k with hj | hj
     ·rw[hj,mD];rw[hj,hL]at hm;rcases List.mem_cons.1 hm with e | hm
      ·exact absurd e (h5 r)
      ·exact hm
     ·rw[hj,kC];rw[hj]at hm;exact hm
    have hs:∀j,((((w.gT k ps).bF (!k) (gK (w.s (!k)) (dL rest 0))).nE k (rest.filter ji)).s j).aB=(w.s j).aB:=fun j=>by
     rw[(iV _ k j _).1];obtain⟨s1,s2⟩:=gN (w.gT k ps) (!k) (gK (w.s (!k)) (dL rest 0));rcases dn j k with hj | hj
     ·rw[hj];rw[Bool.not_not]at s2;rw[s2,(iy w k k ps).1]
     ·rw[hj,s1];rfl
    have hpar:(((w.gT k ps).bF (!k) (gK (w.s (!k)) (dL rest 0))).nE k (rest.filter ji)).par=w.par:=by cases k <;> rfl
    refine⟨hP.n0,fun j=>?_,fun j r hr=>?_⟩
    ·have:=hP.di j;unfold DI at this ⊢;rw[hs];exact this
    ·rw[hs]at hr;rw[hpar];rcases hP.pend j r hr with q | ⟨a,g1,g2,g3⟩ | q | q
     ·exact .inl (hsub j r q)
     ·exact .inr (.inl ⟨a,g1,g2,hsub (!j) a g3⟩)
     ·exact .inr (.inr (.inl q))
     ·exact q.elim
  ·rw[nG0 hx]at hfx;have hw1:((w.gT k ps).bF (!k) (gK (w.s (!k)) (dL rest 0))).nE k (rest.filter ji)=(w.gT k ps).bF (!k) (gK (w.s (!k)) (dL rest 0)):=by
    have e:rest.filter ji=((w.gT k ps).bF (!k) (gK (w.s (!k)) (dL rest 0))).f k:=by
     rw[(eu _ (!k) k _).2,(iy w k k ps).2,hfx]
    rw[e];exact DR _ k
   rw[hw1]at q1 q2;have hm':((w.gT k ps).bF (!k) (gK (w.s (!k)) (dL rest 0))).s (!k)=gK (w.s (!k)) (dL rest 0):=(gN _ (!k) _).1;have hS1:=q1.side (!k);rw[hm']at hS1;have hadd:=TY hS1.inv hgf.1 hgf.2;have hrow:=QU (gK (w.s (!k)) (dL rest 0)) f;have hev:=Sc (gK (w.s (!k)) (dL rest 0)) hgf.2 (by simpa using hx);have aaZ:=Wx hS1.inv hgf.2;rw[hin]at hI hlen;unfold lT;rw[hin];have hS2:bj (iE (gK (w.s (!k)) (dL rest 0)) f).1:=hS1.rows hI hrow;obtain⟨L2,p1,p2,p3,p4,p5,p6⟩:=q1.adds (!k) (m':=(iE (gK (w.s (!k)) (dL rest 0)) f).1) hS2 (by rw[hm'];exact hadd) (g:=fZ (iE (gK (w.s (!k)) (dL rest 0)) f).1-fZ (gK (w.s (!k)) (dL rest 0))) (by rw[hm'];omega);rw[sO]at p1 p2;have hinc:=Wy hS1.inv hgf.2 (by simpa using hx);have hkk:(!k)≠k:=GN k;have hB:∀n,iH n Hr L w->iH n (fun j r=>j=k/\r.ae=18/\iE (gK (w.s (!k)) (dL rest 0)) f=(gK (w.s (!k)) (dL rest 0),[⟨6,0,[],0,r.ai,r.ID⟩])) L2 ((w.gT k ps).bF (!k) (iE (gK (w.s (!k)) (dL rest 0)) f).1):=fun n hP=>by
    obtain⟨i1,i2,i3⟩:=hinc;obtain⟨s1,s2⟩:=gN (w.gT k ps) (!k) (iE (gK (w.s (!k)) (dL rest 0)) f).1;rw[Bool.not_not,(iy w k k ps).1]at s2;have hL2k:L2 k=rest:=by
     rw[Bool.not_not]at p3;rw[p3,mD]
    have hL2n:∀g∈L (!k),g∈L2 (!k):=fun g hg=>p4 g (by rw[kC];exact hg);obtain⟨l,o1,o2⟩:=i1.out;rw[hm']at p5;have hnew:∀g∈l,g∈L2 (!k):=p5 l o1;have hpar:((w.gT k ps).bF (!k) (iE (gK (w.s (!k)) (dL rest 0)) f).1).par=w.par:=by cases k <;> rfl
    refine⟨hP.n0,fun j=>?_,fun j r hr=>?_⟩
    ·rcases dn j k with hj | hj
     ·rw[hj,s2];exact hP.di k
     ·rw[hj,s1];have hd:DI (gK (w.s (!k)) (dL rest 0)):=hP.di (!k);exact i1.ids (by have:=hS1.inv.qY;omega) hS1.inv.next hd
    ·rw[hpar];rcases dn j k with hj | hj
     ·subst hj;rw[s2]at hr;rcases hP.pend j r hr with q | ⟨a,g1,g2,g3⟩ | q | q
      ·rw[hL]at q;rcases List.mem_cons.1 q with e | q
       ·have hk:=(h.side j).inv.ask r hr;rcases i3 r hk.1 hk.2 e.symm with⟨a,b1,b2,b3⟩ | q
        ·exact .inr (.inl ⟨a,b1,b2,p5 _ b3 _ (by simp)⟩)
        ·exact .inr (.inr (.inr ⟨rfl,q⟩))
       ·exact .inl (by rw[hL2k];exact q)
      ·exact .inr (.inl ⟨a,g1,g2,hL2n _ g3⟩)
      ·exact .inr (.inr (.inl q))
      ·exact q.elim
     ·subst hj;rw[s1]at hr;rcases o2 r hr with hm | hm
      ·rcases hP.pend (!k) r hm with q | ⟨a,g1,g2,g3⟩ | q | q
       ·exact .inl (hL2n _ q)
       ·rw[Bool.not_not]at g3 ⊢;rw[hL]at g3;rcases List.mem_cons.1 g3 with e | g3
        ·exact(i2 (hP.di (!k)) r hr hm a g1 e.symm g2).elim
        ·exact .inr (.inl ⟨a,g1,g2,by rw[hL2k];exact g3⟩)
       ·exact .inr (.inr (.inl q))
       ·exact q.elim
      ·exact .inl (hnew _ hm)
   have hol:=hI.jL;have ho0:(gK (w.s (!k)) (dL rest 0)).Out=(w.s (!k)).Out:=rfl
   match hE:(iE (gK (w.s (!k)) (dL rest 0)) f).2,hlen with
   | [],_=>
     refine⟨L2,_,p1,?_,(Jw _).1,(Jw _).2,fun n hP=>(hB n hP).elim fun j r q=>?_⟩
     ·simp only[List.foldl_nil];omega
     ·have:=q.2.2;rw[this]at hE;cases hE
   | [x],_=>
     obtain⟨e1,e2⟩:=hev x (by rw[hE];simp);obtain⟨L3,t1,t2,_,t4,_,t6,t7⟩:=Qn p1 (!k) x e1 (by rw[(gN _ (!k) _).1];omega);refine⟨L3,_,t1,?_,?_,?_,fun n hP=>(t6 n _ (hB n hP)).elim fun j r q=>?_⟩
     ·simp only[List.foldl_cons,List.foldl_nil];by_cases k6:x.ae=6
      ·obtain⟨g1,g2⟩:=e2 k6;rw[pG0 k6]at t2;rw[g1]at p2 t2 ⊢;omega
      ·rw[nG0 k6]at t2;omega
     ·simp only[List.foldl_cons,List.foldl_nil];rw[t4];exact(Jw _).1
     ·simp only[List.foldl_cons,List.foldl_nil];rw[t4];exact(Jw _).2
     ·obtain⟨rfl,q2,q3⟩:=q;rw[q3]at hE;injection hE with hE;subst hE;rcases t7 rfl r q2 rfl with⟨a,b1,b2,b3⟩ | q
      ·exact .inr (.inl ⟨a,b1,b2,b3⟩)
      ·have:=hP.n0;exact .inr (.inr ⟨q2,by omega⟩)
 ·have hin:uR (w.s (!k)) p=(gK (w.s (!k)) (dL (L k) u),[]):=by
   unfold uR gK;rw[hW.asm,OZ]
  rw[OZ]at hval;obtain⟨q1,q2⟩:=h.base k aa2 hW.good (fun e=>absurd e hne) hval;have hw1:((w.gT k ps).bF (!k) (gK (w.s (!k)) (dL (L k) u))).nE k ((L k).filter ji)=(w.gT k ps).bF (!k) (gK (w.s (!k)) (dL (L k) u)):=by
   have e:(L k).filter ji=((w.gT k ps).bF (!k) (gK (w.s (!k)) (dL (L k) u))).f k:=by
    rw[(eu _ (!k) k _).2,(iy w k k ps).2,hW.fix]
   rw[e];exact DR _ k
  rw[hw1]at q1 q2;have harr:lT w k p ps=(w.gT k ps).bF (!k) (gK (w.s (!k)) (dL (L k) u)):=by
   unfold lT;rw[hin];rfl
  rw[harr];refine⟨_,_,q1,by omega,(Jw _).1,(Jw _).2,fun n hP=>hP.of (fun j=>?_) (fun j g hg=>?_) (fun hp=>by
   have:((w.gT k ps).bF (!k) (gK (w.s (!k)) (dL (L k) u))).par=w.par:=by cases k <;> rfl
   rw[this];exact hp)⟩
  ·obtain⟨s1,s2⟩:=gN (w.gT k ps) (!k) (gK (w.s (!k)) (dL (L k) u));rcases dn j k with hj | hj
   ·rw[hj];rw[Bool.not_not]at s2;rw[s2,(iy w k k ps).1]
   ·rw[hj,s1];rfl
  ·rcases dn j k with hj | hj
   ·rw[hj,mD];rw[hj]at hg;exact hg
   ·rw[hj,kC];rw[hj]at hg;exact hg
end Sy
end V
namespace V
namespace Sy
open St Po
def aM(w:Wr):Nat:=(w.a false).length+(w.a true).length
theorem oG(w:Wr)(k:Bool):aM w=(w.a k).length+(w.a (!k)).length:=by
 cases k
 ·rfl
 ·unfold aM;rw[show(!true)=false from rfl];omega
def pG(L:Bool->List bJ)(w:Wr):Nat:=2*phi L w+27*aM w
theorem VQ{k:Nat}{m:aI}(h:MInv k m):27*m.Out.length<=Pk m:=by
 have h1:=uM h;have h2:=P8 m.Out;have h3:fZ m=(m.aj.map (lS m)).sum+(m.Out.map Kq).sum:=rfl;have h4:27*m.Out.length+m.aV.toNat<=(m.Out.map fun f=>f.al.length+30).sum:=by
  cases ho:m.Out with
  | nil=>rw[h.oP ho];simp
  | cons f t=>
    have hs:=h.sent f t ho;have:30*t.length<=(t.map fun f=>f.al.length+30).sum:=by
     clear ho h hs h1 h2 h3
     induction t with
     | nil=>simp
     | cons g t ih=>
       simp only[mC,List.sum_cons,lC0];omega
    simp only[mC,List.sum_cons,lC0];omega
 omega
theorem Ord.few{L:Bool->List bJ}{r:Bool->Nat}{w:Wr}(h:Ord L r w)(k:Bool):27*(w.s k).Out.length<=phi L w:=by
 have:=VQ (h.side k).inv;rw[pW L w k];omega
theorem mG{r:Bool->Nat}(k:Bool):∀(n:Nat) (L:Bool->List bJ) (w:Wr) (y:Bool),Ord L r w->phi L w<=100000000->∃L',Ord L' r (dD n w k y).1/\phi L' (dD n w k y).1<=phi L w/\pG L' (dD n w k y).1<=pG L w/\(dD n w k y).1.a (!k)=w.a (!k)/\((dD n w k y).2=true->y=true∨pG L' (dD n w k y).1+27<=pG L w)/\((dD n w k y).2=false->0<n->(dD n w k y).1.a k=w.a k/\((dD n w k y).1.s k).Out=[])/\∀q X,iH q X L w->iH q X L' (dD n w k y).1
 | 0,L,w,y,h,_=>⟨L,h,lR _,lR _,rfl,fun e=>.inl e,fun _ h=>absurd h (Nat.lt_irrefl 0),fun _ _ hP=>hP⟩
 | n+1,L,w,y,h,hp=>by
   have hf:=h.few k;obtain⟨L0,c1,c2,_,_⟩:=h.pre k (by omega);have hf2:=c1.few k;rw[(gN w k _).1]at hf2;obtain⟨L1,q1,_,q3,q9,q4⟩:=h.dK k (by omega) (by omega);unfold dD;rcases q4 with⟨t1,t2,t3⟩ | ⟨t1,t2,t3,t4⟩
   ·rw[pG0 t1];obtain⟨L2,p1,p2,p3,p4,p5,p6,p7⟩:=mG k n L1 (Sy.dK w k).1 true q1 (by omega);have e1:=oG w k;have e2:=oG (Sy.dK w k).1 k;rw[q3,t3]at e2;unfold pG at p3 p5 ⊢;refine⟨L2,p1,by omega,by omega,p4.trans q3,fun _=>.inr (by omega),fun e hn=>?_,fun q X hP=>p7 q X (q9 q X hP)⟩;exfalso;have:∀(n:Nat) (w:Wr),(dD n w k true).2=true:=by
     intro n
     induction n with
     | zero=>intro w;rfl
     | succ n ih=>
       intro w;unfold dD;split
       ·exact ih _
       ·rfl
    rw[this]at e;cases e
   ·rw[nG0 (by rw[t1];simp)];have e1:=oG w k;have e2:=oG (Sy.dK w k).1 k;rw[q3,t3]at e2;unfold pG;refine⟨L1,q1,t2,?_,q3,fun e=>.inl e,fun _ _=>⟨t3,t4⟩,q9⟩;show 2*phi L1 (Sy.dK w k).1+27*aM (Sy.dK w k).1<=_;omega
theorem jm(k:Bool):∀(n:Nat) (L:Bool->List bJ) (r:Bool->Nat) (w:Wr),Ord L r w->phi L w<=100000000->∃L' r',Ord L' r' (bH n w k)/\phi L' (bH n w k)<=phi L w/\pG L' (bH n w k)+27*min n (w.a k).length<=pG L w/\(bH n w k).a (!k)=w.a (!k)/\((bH n w k).a k).length+min n (w.a k).length=(w.a k).length/\∀q,iH q Hr L w->iH q Hr L' (bH n w k)
 | 0,L,r,w,h,_=>⟨L,r,h,lR _,by unfold bH;omega,rfl,by unfold bH;omega,fun _ hP=>hP⟩
 | n+1,L,r,w,h,hp=>by
   unfold bH;cases ha:w.a k with
   | nil=>exact⟨L,r,h,lR _,by simp,rfl,by simp[ha],fun _ hP=>hP⟩
   | cons p ps=>
     simp only
     have hf:=h.few (!k);obtain⟨L1,r1,q1,q2,q3,q4,q9⟩:=h.arr k ha (by omega);obtain⟨L2,r2,p1,p2,p3,p4,p5,p7⟩:=jm k n L1 r1 (lT w k p ps) q1 (by omega);have e1:=oG w k;have e2:=oG (lT w k p ps) k;rw[ha,lC0]at e1;rw[q3,q4]at e2;rw[q3]at p3 p5;unfold pG at p3 ⊢;refine⟨L2,r2,p1,by omega,?_,p4.trans q4,?_,fun q hP=>p7 q (q9 q hP)⟩
     ·rw[lC0];omega
     ·rw[lC0];omega
end Sy
end V
namespace V
namespace Sy
open St Po
theorem yH(w:Wr)(k:Bool):(Sy.dK w k).1.s (!k)=w.s (!k):=by
 unfold Sy.dK;split
 ·simp only
  rw[(iy _ k (!k) _).1];exact(gN w k _).2
 ·exact(gN w k _).2
theorem yG(k:Bool):∀(n:Nat) (w:Wr) (y:Bool),(dD n w k y).1.s (!k)=w.s (!k)
 | 0,_,_=>rfl
 | n+1,w,y=>by
   unfold dD;split
   ·rw[yG k n];exact yH w k
   ·exact yH w k
def FP(w:Wr):Wr:=bH 100 (bH 100 w false) true
def xI(w:Wr):Wr×Bool:=dD 20 (FP w) false false
def iA(w:Wr):Wr×Bool:=dD 20 (xI w).1 true false
def vE(w:Wr):Bool:=!(xI w).2&&(!(iA w).2&&(((iA w).1.a false).length+((iA w).1.a true).length==0))
theorem xH{L:Bool->List bJ}{r:Bool->Nat}{w:Wr}(h:Ord L r w)(hp:phi L w<=100000000):∃L' r',Ord L' r' (iA w).1/\phi L' (iA w).1<=phi L w/\(vE w=false->pG L' (iA w).1+27<=pG L w)/\(vE w=true->∀k,(iA w).1.a k=[]/\((iA w).1.s k).Out=[])/\∀q,iH q Hr L w->iH q Hr L' (iA w).1:=by
 obtain⟨L1,r1,a1,a2,a3,a4,a5,a9⟩:=jm false 100 L r w h hp;obtain⟨L2,r2,b1,b2,b3,b4,b5,b9⟩:=jm true 100 L1 r1 (bH 100 w false) a1 (by omega);obtain⟨L3,c1,c2,c3,c4,c5,c6,c9⟩:=mG false 20 L2 (FP w) false b1 (by unfold FP;omega);obtain⟨L4,d1,d2,d3,d4,d5,d6,d9⟩:=mG true 20 L3 (xI w).1 false c1 (by unfold xI;unfold FP at c2 ⊢;omega);have e3:(iA w).1=(dD 20 (xI w).1 true false).1:=rfl;have e2:(xI w).1=(dD 20 (FP w) false false).1:=rfl;rw[← e2]at c2 c3 c4 c5 c6;rw[← e3]at d1 d2 d3 d4 d5 d6;rw[show bH 100 (bH 100 w false) true=FP w from rfl]at b2 b3 b4 b5;rw[show(dD 20 (FP w) false false).2=(xI w).2 from rfl]at c5 c6;rw[show(dD 20 (xI w).1 true false).2=(iA w).2 from rfl]at d5 d6;simp only[Bool.not_false,Bool.not_true]at a4 b4 c4 d4;refine⟨L4,r2,d1,by omega,fun hr=>?_,fun hr=>?_,fun q hP=>d9 q _ (c9 q _ (b9 q (a9 q hP)))⟩
 ·cases ha:(xI w).2 with
  | true=>
    rcases c5 ha with q | q
    ·cases q
    ·omega
  | false=>
    cases hb:(iA w).2 with
    | true=>
      rcases d5 hb with q | q
      ·cases q
      ·omega
    | false=>
      obtain⟨f1,_⟩:=c6 ha (by omega);obtain⟨f2,_⟩:=d6 hb (by omega);unfold vE at hr;rw[ha,hb]at hr;have hz:((iA w).1.a false).length+((iA w).1.a true).length≠0:=by simpa using hr
      rw[f2,d4,c4,f1]at hz;rw[a4]at b5 b3;rw[b4]at hz;omega
 ·unfold vE at hr;simp only[Bool.and_eq_true,Bool.not_eq_true',beq_iff_eq]at hr;obtain⟨ha,hb,hz⟩:=hr;obtain⟨_,g1⟩:=c6 ha (by omega);obtain⟨_,g2⟩:=d6 hb (by omega);intro k;cases k with
  | false=>
    refine⟨List.eq_nil_of_length_eq_zero (by omega),?_⟩;have:=yG true 20 (xI w).1 false;rw[← e3]at this;rw[show((iA w).1.s false)=(xI w).1.s false from this];exact g1
  | true=>exact⟨List.eq_nil_of_length_eq_zero (by omega),g2⟩
def iW:Nat->Wr->Wr×Bool
 | 0,w=>(w,false)
 | n+1,w=>if vE w=true then((iA w).1,true)else iW n (iA w).1
theorem Jd:∀(n:Nat) (L:Bool->List bJ) (r:Bool->Nat) (w:Wr),Ord L r w->phi L w<=100000000->pG L w<27*n->(iW n w).2=true/\(iW n w).1.oC=false/\(∀k,(iW n w).1.f k=[])/\∀q,iH q Hr L w->∀k,∀r∈((iW n w).1.s k).aB,r.ae=18/\(iW n w).1.par<=-1000+q
 | 0,_,_,_,_,_,h=>by omega
 | n+1,L,r,w,h,hp,hm=>by
   obtain⟨L',r',q1,q2,q3,q4,q9⟩:=xH h hp;unfold iW;by_cases hr:vE w=true
   ·rw[pG0 hr];have hnil:∀k,L' k=[]:=fun k=>by
     obtain⟨k1,k2⟩:=q4 hr k;have hfl:=(q1.way k).flow;rw[k1,k2]at hfl;exact JB hfl
    refine⟨rfl,q1.ok,fun k=>?_,fun q hP k r hm=>?_⟩
    rotate_left
    ·rcases(q9 q hP).pend k r hm with g | ⟨a,_,_,g⟩ | g | g
     ·rw[hnil]at g;cases g
     ·rw[hnil]at g;cases g
     ·exact g
     ·exact g.elim
    obtain⟨k1,k2⟩:=q4 hr k;have hW:=q1.way k;have hfl:=hW.flow;rw[k1,k2]at hfl;rw[← hW.fix,JB hfl];rfl
   ·rw[nG0 hr];have:=q3 (by simpa using hr);obtain⟨l1,l2,l3,l4⟩:=Jd n L' r' (iA w).1 q1 (by omega) (by omega);exact⟨l1,l2,l3,fun q hP=>l4 q (q9 q hP)⟩
end Sy
end V
namespace V
namespace Sy
open St Po
structure Ac where
 bj:Int
 ae:Int
 N:Int
 bQ:Int
 aU:Int
 bZ:Int
 cu:Int
 aA:Int
 aw:List Int
 ai:jF
def aH(x:Ac):Bool:=decide (x.bj%2=1)
def jv(w:Wr)(x:Ac):Wr:=
 if x.ae=0 then(if (eF (w.s (aH x)) x.bQ x.bZ x.cu x.aA).2.2=0 then { w.bF (aH x) (eF (w.s (aH x)) x.bQ x.bZ x.cu x.aA).1 with cn:=aF w.cn (slot (aH x) (eF (w.s (aH x)) x.bQ x.bZ x.cu x.aA).2.1) true }else w.bF (aH x) (eF (w.s (aH x)) x.bQ x.bZ x.cu x.aA).1)
 else if x.ae=1 then w.bF (aH x) (uG (w.s (aH x)) x.aU).1
 else if x.ae=2 then(if (jB (w.s (aH x)) x.aU x.aw).2=0 then { w.bF (aH x) (jB (w.s (aH x)) x.aU x.aw).1 with sd:=aF w.sd (slot (aH x) x.aU) (w.sd (slot (aH x) x.aU)++[x.aw]) }else w.bF (aH x) (jB (w.s (aH x)) x.aU x.aw).1)
 else if x.ae=3 then(if (qD (w.s (aH x)) x.aU x.aw).2=0 then(w.bF (aH x) (qD (w.s (aH x)) x.aU x.aw).1).nE (aH x) (w.f (aH x)++[⟨x.aU,x.aw⟩])else w.bF (aH x) (qD (w.s (aH x)) x.aU x.aw).1)
 else if x.ae=4 then(if (jX (w.s (aH x)) x.ai).2=0 then { w.bF (aH x) (jX (w.s (aH x)) x.ai).1 with par:=w.par+1 }else w.bF (aH x) (jX (w.s (aH x)) x.ai).1)
 else if x.ae=5 then(dD x.N.toNat w (aH x) false).1
 else if x.ae=6 then bH x.N.toNat w (aH x)
 else if x.ae=7 then w.bF (aH x) { w.s (aH x)with bc:=lvl x.N }
 else w
structure LP(x:Ac):Prop where
 psm:0<=x.bQ/\x.bQ<=65535
 len:x.aw.length<=4096
 yT:∀b∈x.aw,Byte b
def cost(x:Ac):Nat:=5*x.aw.length+314
theorem J3(w:Wr)(k:Bool)(m:aI):aM (w.bF k m)=aM w:=by cases k <;> rfl
theorem TQ(w:Wr)(k:Bool)(l:List bJ):aM (w.nE k l)=aM w:=by cases k <;> rfl
theorem Ord.ar{L:Bool->List bJ}{r:Bool->Nat}{w:Wr}(h:Ord L r w)(k:Bool){f:bJ}(hg:Good f)(hc:f.aU=4∨f.aU=6):Ord (at_ L k (L k++[f])) r ((w.bF k (qd (w.s k) f.aU f.al)).nE k (w.f k++[f]))/\phi (at_ L k (L k++[f])) ((w.bF k (qd (w.s k) f.aU f.al)).nE k (w.f k++[f]))<=phi L w+f.al.length+30:=by
 have hS:=h.side k;have hW:=h.way k;obtain⟨s1,s2⟩:=gN w k (qd (w.s k) f.aU f.al);have hI:MInv ((w.s k).Out.length+1) (qd (w.s k) f.aU f.al):=hS.inv.qd hg.len hg.mq;have hfx:ji f=true:=by unfold ji;simpa using hc
 have hX:frX f=0:=by unfold frX;rw[pG0 hc]
 obtain⟨f1,f2⟩:=yc (w.bF k (qd (w.s k) f.aU f.al)) k (w.f k++[f]);refine⟨⟨fun j=>?_,fun j=>?_,?_,fun j=>?_⟩,?_⟩
 ·rw[(iV _ k j _).1];rcases dn j k with hj | hj
  ·rw[hj,s1];exact⟨MInv.tight hI,hS.yT⟩
  ·rw[hj,s2];exact h.side _
 ·rw[(iV _ k j _).1,(iV _ k (!j) _).1,(iV _ k j _).2,(eu w k j _).1];rcases dn j k with hj | hj
  ·subst hj;rw[mD,f1,s1,s2];refine⟨vZ _ _ _ _ _ [f] hW.flow,?_,fun g hq=>?_,?_,fun e=>?_⟩
   ·rw[hW.asm];cases hL:L j with
    | cons g t=>rfl
    | nil=>rw[hW.emp hL];rfl
   ·rcases List.mem_append.1 hq with hq | hq
    ·exact hW.good g hq
    ·rw[mS]at hq;subst hq;exact⟨hg,fun e=>by omega⟩
   ·rw[List.filter_append,hW.fix];simp[List.filter_cons,hfx]
   ·simp at e
  ·subst hj;rw[kC,f2,Bool.not_not,s1,s2,(eu w k (!k) _).2];have:=h.way (!k);rw[Bool.not_not]at this;exact this.right rfl
 ·rw[(lQ _ k (w.s k) [] _).2.2,(lQ w k _ [] []).1];exact h.ok
 ·rw[(iV _ k j _).1];rcases dn j k with hj | hj
  ·rw[hj,s1];exact h.role k
  ·rw[hj,s2];exact h.role _
 ·rw[pW _ _ k,pW L w k,(iV _ k k _).1,(iV _ k (!k) _).1,s1,s2,mD,kC,Fu,uT,hX];have e1:=uM hS.inv;have e2:=uM hI;have e3:=KS (w.s k) f.aU f.al;have e4:Kq ⟨f.aU,f.al⟩=f.al.length+30:=by
   show f.al.length+30+27*frX f=_;rw[hX]
  rw[show(qd (w.s k) f.aU f.al).Out=(w.s k).Out++[f]from rfl,Fu,uT,hX,show(qd (w.s k) f.aU f.al).aV=(w.s k).aV from rfl]at e2;have e5:xs []=0:=rfl;omega
theorem V7{k:Nat}{m:aI}(h:MInv k m)(n:Int):MInv k { m with bc:=n }:=
 ⟨h.K4,h.MK,h.next,h.ask,h.yA,h.zo,h.NR,h.qW,h.yh,h.cnt,h.out,h.oP,h.sent,h.asm,h.jL⟩
theorem GZ{L:Bool->List bJ}{r:Bool->Nat}{w:Wr}(h:Ord L r w)(hp:phi L w<=100000000){x:Ac}(hx:LP x):∃L' r',Ord L' r' (jv w x)/\phi L' (jv w x)<=phi L w+cost x/\pG L' (jv w x)<=pG L w+2*cost x/\∀q,iH q Hr L w->iH (q+1) Hr L' (jv w x):=by
 have hf:=h.few (aH x);have hS:=h.side (aH x);have key:∀(m':aI) (g:Nat),g<=cost x->bj m'->Adds (w.s (aH x)) m'->fZ m'<=fZ (w.s (aH x))+g->∀w',w'.s0=(w.bF (aH x) m').s0->w'.s1=(w.bF (aH x) m').s1->w'.a0=(w.bF (aH x) m').a0->w'.a1=(w.bF (aH x) m').a1->w'.f0=(w.bF (aH x) m').f0->w'.f1=(w.bF (aH x) m').f1->w'.oC=(w.bF (aH x) m').oC->Fj (w.s (aH x)) m'->w'.par<=w.par+1->∃L' r',Ord L' r' w'/\phi L' w'<=phi L w+cost x/\pG L' w'<=pG L w+2*cost x/\∀q,iH q Hr L w->iH (q+1) Hr L' w':=fun m' g hg hs ha hpt w' b1 b2 b3 b4 b5 b6 b7 b8 b9=>by
  obtain⟨L',q1,q2,_,_,_,q6⟩:=h.adds (aH x) hs ha hpt;obtain⟨p1,p2,p3⟩:=q1.same b1 b2 b3 b4 b5 b6 b7;refine⟨L',r,p1,by omega,?_,fun q hP=>(q6 b8 q Hr hP).of (fun j=>by cases j <;> simp[Wr.s,b1,b2]) (fun _ _ hf=>hf) (fun hp=>by rw[ko]at hp;omega)⟩
  have:aM w'=aM w:=by
   unfold aM;rw[p3,p3];exact J3 w (aH x) m'
  unfold pG;omega
 have hcost:cost x=5*x.aw.length+314:=rfl;unfold jv;split
 ·obtain⟨_,hI⟩:=uI hS.inv (by omega) x.bQ x.bZ x.cu x.aA hx.psm;have ha:=Pw hS.inv x.bQ x.bZ x.cu x.aA hx.psm;have hs:=hS.rows hI (Om _ _ _ _ _);have hq:=SX (w.s (aH x)) x.bQ x.bZ x.cu x.aA;split
  ·exact key _ 314 (by omega) hs ha hq _ rfl rfl rfl rfl rfl rfl rfl (IY _ _ _ _ _) (by show(w.bF _ _).par<=_;rw[ko];omega)
  ·exact key _ 314 (by omega) hs ha hq _ rfl rfl rfl rfl rfl rfl rfl (IY _ _ _ _ _) (by show(w.bF _ _).par<=_;rw[ko];omega)
 split
 ·obtain⟨_,hI⟩:=oD hS.inv (by omega) x.aU;exact key _ 0 (by omega) (hS.rows hI (QV _ _)) (T9 hS.inv x.aU) (WR _ _) _ rfl rfl rfl rfl rfl rfl rfl (Vs _ _) (by show(w.bF _ _).par<=_;rw[ko];omega)
 split
 ·obtain⟨_,hI⟩:=AB hS.inv (by omega) x.aU x.aw (by have:=hx.len;omega);have ha:=Pn (w.s (aH x)) x.aU x.aw;have hq:=QC (w.s (aH x)) x.aU x.aw;have hs:bj (jB (w.s (aH x)) x.aU x.aw).1:=⟨MInv.tight hI,fun c hc s hs=>by
   revert hc
   unfold jB;rcases dQ (w.s (aH x)) x.aU with⟨hn,_⟩ | ⟨i,d,hn,_,hd,_⟩
   ·rw[hn];exact fun hc=>hS.yT c hc s hs
   ·rw[hn];simp only
    split
    ·exact fun hc=>hS.yT c hc s hs
    split
    ·intro hc;rcases List.mem_or_eq_of_mem_set hc with hc | rfl
     ·exact hS.yT c hc s hs
     ·revert hs
      unfold Mj;split
      ·exact fun hs=>hS.yT d (eZ hd) s hs
      split
      ·exact fun hs=>hS.yT d (eZ hd) s hs
      split
      ·exact fun hs=>hS.yT d (eZ hd) s hs
      ·intro hs;rcases List.mem_append.1 hs with hs | hs
       ·exact hS.yT d (eZ hd) s hs
       ·rw[mS]at hs;subst hs;exact hx.yT
    ·exact fun hc=>hS.yT c hc s hs⟩
  split
  ·exact key _ (5*x.aw.length+94) (by omega) hs ha (by omega) _ rfl rfl rfl rfl rfl rfl rfl (IJ _ _ _).req (by show(w.bF _ _).par<=_;rw[ko];omega)
  ·exact key _ (5*x.aw.length+94) (by omega) hs ha (by omega) _ rfl rfl rfl rfl rfl rfl rfl (IJ _ _ _).req (by show(w.bF _ _).par<=_;rw[ko];omega)
 split
 ·by_cases hz:(qD (w.s (aH x)) x.aU x.aw).2=0
  ·rw[pG0 hz];have hq:(x.aU=4∨x.aU=6)/\(qD (w.s (aH x)) x.aU x.aw).1=qd (w.s (aH x)) x.aU x.aw:=by
    unfold qD at hz ⊢;split at hz
    ·cases hz
    split at hz
    ·cases hz
    split at hz
    ·cases hz
    ·rename_i g1 g2 g3;rw[nG0 g1,nG0 g2,nG0 g3];exact⟨by omega,rfl⟩
   rw[hq.2];obtain⟨q1,q2⟩:=h.ar (aH x) (f:=⟨x.aU,x.aw⟩) ⟨by simp only;omega,hx.len,hx.yT⟩ hq.1;refine⟨_,_,q1,by simp only at q2;omega,?_,fun q hP=>hP.of (fun j=>?_) (fun j g hg=>?_) (fun hp=>by
    have:((w.bF (aH x) (qd (w.s (aH x)) x.aU x.aw)).nE (aH x) (w.f (aH x)++[⟨x.aU,x.aw⟩])).par=w.par:=by cases aH x <;> rfl
    rw[this];omega)⟩
   rotate_left
   ·rw[(iV _ (aH x) j _).1];obtain⟨s1,s2⟩:=gN w (aH x) (qd (w.s (aH x)) x.aU x.aw);rcases dn j (aH x)with hj | hj
    ·rw[hj,s1];rfl
    ·rw[hj,s2]
   ·rcases dn j (aH x)with hj | hj
    ·rw[hj,mD];rw[hj]at hg;exact List.mem_append_left _ hg
    ·rw[hj,kC];rw[hj]at hg;exact hg
   unfold pG;rw[TQ,J3];simp only at q2;omega
  ·rw[nG0 hz];have hq:(qD (w.s (aH x)) x.aU x.aw).1=w.s (aH x):=by
    unfold qD at hz ⊢
    (repeat' split) <;> first | rfl | skip
    rename_i g1 g2 g3;rw[nG0 g1,nG0 g2,nG0 g3]at hz;exact absurd rfl hz
   rw[hq,xA];exact⟨L,r,h,by omega,by omega,fun q hP=>hP.of (fun _=>rfl) (fun _ _ hf=>hf) (fun hp=>by omega)⟩
 split
 ·obtain⟨_,hI⟩:=xP hS.inv (by omega) x.ai;have ha:=TW hS.inv x.ai;have hs:=hS.rows hI (QT _ _);have hq:=VO (w.s (aH x)) x.ai;split
  ·exact key _ 98 (by omega) hs ha hq _ rfl rfl rfl rfl rfl rfl rfl (Mh _ _) (Int.le_refl _)
  ·exact key _ 98 (by omega) hs ha hq _ rfl rfl rfl rfl rfl rfl rfl (Mh _ _) (by show(w.bF _ _).par<=_;rw[ko];omega)
 split
 ·obtain⟨L',q1,q2,q3,_,_,_,q9⟩:=mG (aH x) x.N.toNat L w false h hp;exact⟨L',r,q1,by omega,by omega,fun q hP=>(q9 q Hr hP).of (fun _=>rfl) (fun _ _ hf=>hf) (fun hp=>by omega)⟩
 split
 ·obtain⟨L',r',q1,q2,q3,_,_,q9⟩:=jm (aH x) x.N.toNat L r w h hp;exact⟨L',r',q1,by omega,by omega,fun q hP=>(q9 q hP).of (fun _=>rfl) (fun _ _ hf=>hf) (fun hp=>by omega)⟩
 split
 ·exact key { w.s (aH x)with bc:=lvl x.N } 0 (by omega) ⟨V7 hS.inv _,hS.yT⟩ (.of ⟨rfl,rfl,rfl,rfl⟩ rfl) (lR _) _ rfl rfl rfl rfl rfl rfl rfl (zw.same (m:=w.s (aH x)) (m':={ w.s (aH x)with bc:=lvl x.N }) rfl rfl rfl).req (by show(w.bF _ _).par<=_;rw[ko];omega)
 ·exact⟨L,r,h,by omega,by omega,fun q hP=>hP.of (fun _=>rfl) (fun _ _ hf=>hf) (fun hp=>by omega)⟩
end Sy
end V
namespace V
theorem MInv.leng{k:Nat}{m:aI}(h:MInv k m)(n:Int):MInv k { m with Length:=n }:=
 ⟨h.K4,h.MK,h.next,h.ask,h.yA,h.zo,h.NR,h.qW,h.yh,h.cnt,h.out,h.oP,h.sent,h.asm,h.jL⟩
theorem Mx{role:Int}{l:List fA}(h:(gV role l).2=0):MInv 0 (gV role l).1:=by
 unfold gV at h ⊢;split at h
 ·cases h
 split at h
 ·cases h
 rename_i h1 h2;split at h
 ·rename_i h3;rw[nG0 h1,nG0 h2,pG0 h3];have hl:∀(n k:Nat),k+n=l.length->BU l k n=0->∀i,k<=i->i<l.length->∀x,l[i]? = some x->uz (l.take i) x=0:=by
   intro n
   induction n with
   | zero=>intro k hk _ i h1 h2;omega
   | succ n ih=>
     intro k hk hc i h1 h2 x hx;have hkx:l[k]? = some l[k]:=gE (by omega);rw[EK hkx]at hc;split at hc
     ·rename_i h0;by_cases hi:i=k
      ·subst hi;rw[hkx]at hx;injection hx with hx;rw[← hx];exact h0
      ·exact ih (k+1) (by omega) hc i (by omega) h2 x hx
     ·rename_i h0;exact absurd hc h0
  have hu:gB (⟨role,0,l,[],[],1,⟨false,[]⟩,[],0,27⟩:aI)=0:=by
   unfold gB;rw[List.filter_eq_nil_iff.2 (fun v _=>by simp[gL,Xg]),List.length_nil]
  refine⟨by simp only;omega,fun x hx=>?_,by simp only;omega,by simp,by simp,by simp,by simp,by simp,by simp,(by simp only[hu];omega),by simp,fun _=>rfl,by simp,Fr.Ak,by simp⟩;obtain⟨i,hi,rfl⟩:=List.mem_iff_getElem.1 hx;have:=hl l.length 0 (by omega) h3 i (by omega) hi _ (gE hi);unfold uz at this;split at this
  ·cases this
  split at this
  ·cases this
  split at this
  ·cases this
  rename_i h5;simp only[Bool.not_eq_false,Bool.and_eq_true]at h5;exact⟨h5.1.1.1,h5.1.1.2,h5.1.2⟩
 ·rename_i h3;exact absurd h h3
end V
namespace V
namespace Sy
open St Po
def fQ(l0 l1:List fA)(n0 n1:Int):Wr:=⟨{ (gV 0 l0).1 with Length:=n0 },{ (gV 1 l1).1 with Length:=n1 },[],[],fun _=>[],[],[],fun _=>false,0,false,false,false⟩
theorem xQ{role:Int}{l:List fA}(h:(gV role l).2=0):(gV role l).1=⟨role,0,l,[],[],1,⟨false,[]⟩,[],0,27⟩:=by
 unfold gV at h ⊢;split at h
 ·cases h
 split at h
 ·cases h
 split at h
 ·rename_i h1 h2 h3;rw[nG0 h1,nG0 h2,pG0 h3]
 ·rename_i h3;exact absurd h h3
theorem Ck{l0 l1:List fA}(n0 n1:Int)(h0:(gV 0 l0).2=0)(h1:(gV 1 l1).2=0):Ord (fun _=>[]) (fun _=>0) (fQ l0 l1 n0 n1)/\phi (fun _=>[]) (fQ l0 l1 n0 n1)=0/\aM (fQ l0 l1 n0 n1)=0:=by
 have i0:=(Mx h0).leng n0;have i1:=(Mx h1).leng n1;have e0:=xQ h0;have e1:=xQ h1;unfold fQ;rw[e0]at i0 ⊢;rw[e1]at i1 ⊢;refine⟨⟨fun k=>?_,fun k=>?_,rfl,fun k=>?_⟩,rfl,rfl⟩
 ·cases k
  ·exact⟨MInv.tight i0,fun c hc=>by cases hc⟩
  ·exact⟨MInv.tight i1,fun c hc=>by cases hc⟩
 ·cases k
  ·exact⟨⟨rfl,rfl⟩,rfl,(fun f hf=>by cases hf),rfl,fun _=>rfl⟩
  ·exact⟨⟨rfl,rfl⟩,rfl,(fun f hf=>by cases hf),rfl,fun _=>rfl⟩
 ·cases k <;> rfl
theorem wL:∀(l:List Ac) (L:Bool->List bJ) (r:Bool->Nat) (w:Wr),Ord L r w->(∀x∈l,LP x)->phi L w+(l.map cost).sum<=100000000->∃L' r',Ord L' r' (l.foldl jv w)/\phi L' (l.foldl jv w)<=phi L w+(l.map cost).sum/\pG L' (l.foldl jv w)<=pG L w+2*(l.map cost).sum/\∀q,iH q Hr L w->iH (q+l.length) Hr L' (l.foldl jv w)
 | [],L,r,w,h,_,_=>⟨L,r,h,by simp,by simp,fun q hP=>by simpa using hP⟩
 | x::l,L,r,w,h,hx,hp=>by
   simp only[mC,List.sum_cons]at hp;obtain⟨L1,r1,q1,q2,q3,q4⟩:=GZ h (by omega) (hx x (by simp));obtain⟨L2,r2,p1,p2,p3,p4⟩:=wL l L1 r1 (jv w x) q1 (fun y hy=>hx y (by simp[hy])) (by omega);simp only[mC,List.sum_cons,List.foldl_cons];refine⟨L2,r2,p1,by omega,by omega,fun q hP=>?_⟩;have:=p4 _ (q4 q hP);rw[lC0,show q+((l.length+1:Nat):Int)=q+1+(l.length:Int)from by omega];exact this
theorem wE:∀l:List Ac,(l.map cost).sum=5*(l.map fun x=>x.aw.length).sum+314*l.length
 | []=>rfl
 | x::l=>by
   have:=wE l;simp only[mC,List.sum_cons,lC0];have:cost x=5*x.aw.length+314:=rfl;omega
theorem DC{l0 l1:List fA}(n0 n1:Int)(h0:(gV 0 l0).2=0)(h1:(gV 1 l1).2=0)(l:List Ac)(hx:∀x∈l,LP x)(hl:l.length<=60)(hb:(l.map fun x=>x.aw.length).sum<=4096):(iW 20000 (l.foldl jv (fQ l0 l1 n0 n1))).2=true/\(iW 20000 (l.foldl jv (fQ l0 l1 n0 n1))).1.oC=false/\(∀k,(iW 20000 (l.foldl jv (fQ l0 l1 n0 n1))).1.f k=[])/\∀k,∀r∈((iW 20000 (l.foldl jv (fQ l0 l1 n0 n1))).1.s k).aB,r.ae=18/\(iW 20000 (l.foldl jv (fQ l0 l1 n0 n1))).1.par<=-940:=by
 obtain⟨i1,i2,i3⟩:=Ck n0 n1 h0 h1;have hc:=wE l;obtain⟨L,r,q1,q2,q3,q4⟩:=wL l _ _ _ i1 hx (by omega);have hm:pG (fun _=>[]) (fQ l0 l1 n0 n1)=0:=by unfold pG;omega
 obtain⟨l1',l2',l3',l4'⟩:=Jd 20000 L r _ q1 (by omega) (by omega);have hP0:iH 0 Hr (fun _=>[]) (fQ l0 l1 n0 n1):=by
  have hA:∀k,((fQ l0 l1 n0 n1).s k).aB=[]:=fun k=>by
   have e0:=xQ h0;have e1:=xQ h1;unfold fQ;rw[e0,e1];cases k <;> rfl
  exact⟨Int.le_refl _,fun k=>by unfold DI;rw[hA];exact List.nodup_nil,fun k r hr=>by rw[hA]at hr;cases hr⟩
 refine⟨l1',l2',l3',fun k r hr=>?_⟩;obtain⟨g1,g2⟩:=l4' _ (q4 0 hP0) k r hr;exact⟨g1,by omega⟩
end Sy
end V
namespace V
namespace St
def waits(m:aI)(v:Int):Prop:=∃s∈m.aB,s.ae=20/\s.am=v
def uf(m m':aI):Prop:=∀v,waits m' v↔waits m v
theorem uf.refl(m:aI):uf m m:=fun _=>Iff.rfl
theorem uf.same{m m':aI}(h:m'.aB=m.aB):uf m m':=fun v=>by unfold waits;rw[h]
theorem uf.trans{a b c:aI}(h:uf a b)(g:uf b c):uf a c:=fun v=>(g v).trans (h v)
theorem Nk(m:aI)(s:aQ)(h:s.ae≠20):uf m (nk m s):=fun v=>by
 unfold waits nk;simp only[List.mem_append,mS];constructor
 ·rintro⟨t,ht | rfl,h1,h2⟩
  ·exact⟨t,ht,h1,h2⟩
  ·exact absurd h1 h
 ·rintro⟨t,ht,h1⟩;exact⟨t,.inl ht,h1⟩
theorem ND(m:aI)(s:aQ)(h:s.ae=20)(v:Int):waits (nk m s) v↔waits m v∨v=s.am:=by
 unfold waits nk;simp only[List.mem_append,mS];constructor
 ·rintro⟨t,ht | rfl,h1,h2⟩
  ·exact .inl ⟨t,ht,h1,h2⟩
  ·exact .inr h2.symm
 ·rintro(⟨t,ht,h1⟩ | rfl)
  ·exact⟨t,.inl ht,h1⟩
  ·exact⟨fK s (uy m),.inr rfl,h,rfl⟩
theorem He(m:aI)(c:aT):uf m (lX m c):=by
 unfold lX;split
 ·exact .refl m
 ·exact Nk m _ (by simp only;omega)
theorem Xr(m:aI)(n:Int):uf m (uG m n).1:=by
 unfold uG
 (repeat' split) <;> first | exact .refl m | exact He m _
theorem Uh(m:aI)(n:Int)(b:List Int):uf m (jB m n b).1:=by
 unfold jB
 (repeat' split) <;> exact .same rfl
theorem Xq(m:aI)(n:Int)(b:List Int):uf m (qD m n b).1:=by
 unfold qD
 (repeat' split) <;> exact .same rfl
theorem Xo(m:aI)(u:jF):uf m (jX m u).1:=by
 unfold jX
 (repeat' split) <;> first | exact .refl m | exact Nk m _ (by simp only;omega)
theorem Xm(m:aI)(id r:Int):uf m (kg m id r).1:=by
 unfold kg
 (repeat' split) <;> exact .same rfl
theorem Xu(m:aI)(s:aQ):uf m (nL m s).1:=by
 unfold nL
 (repeat' split) <;> exact .same rfl
theorem Ul(m:aI)(s:aQ):uf m (jV m s).1:=by
 unfold jV
 (repeat' split) <;> exact .same rfl
theorem Ui(m:aI)(s:aQ):uf m (jC m s).1:=by
 unfold jC
 (repeat' split) <;> exact .same rfl
theorem Xt(m:aI)(s:aQ):uf m (uH m s):=by
 unfold uH;split
 ·exact .refl m
 ·split
  ·exact .refl m
  split
  ·exact(uf.same (m:=m) rfl).trans (He _ _)
  ·exact .same rfl
theorem Um(m:aI)(i:Nat)(c:aT)(b:List Int):uf m (kS m i c b).1:=by
 unfold kS;split
 ·exact(uf.same (m:=m) rfl).trans (He _ _)
 split
 ·exact .same rfl
 ·exact .same rfl
theorem Fa(l:List aT)(fr:List (List (List Int)))(rd:Nat)(m:aI):∀n,uf m (fG l fr rd m n)
 | 0=>.refl m
 | n+1=>by
   rw[jf];refine(Fa l fr rd m n).trans ?_;unfold Kk
   (repeat' split) <;> exact .same rfl
theorem CP(l:List aT)(fr:List (List (List Int)))(m:aI):∀n,uf m (iw l fr m n)
 | 0=>.refl m
 | n+1=>by
   rw[iN];exact(CP l fr m n).trans (Fa l fr n _ _)
theorem Xv(m:aI):uf m (uJ m):=by
 unfold uJ;exact(uf.same (m:=m) rfl).trans (CP _ _ _ _)
end St
end V
namespace V
namespace St
theorem vN(m:aI){i:Nat}{r:aQ}(hr:m.aB[i]? = some r)(s:aQ):s∈m.aB↔s=r∨s∈pE m.aB i:=by
 have hlt:=(gS.1 hr).1;have he:m.aB=m.aB.take i++r::m.aB.drop (i+1):=by
  have h1:m.aB.drop i=r::m.aB.drop (i+1):=by
   rw[List.drop_eq_getElem_cons hlt];rw[gE hlt]at hr;injection hr with hr;rw[hr]
  rw[← h1,List.take_append_drop]
 conv=>lhs;rw[he]
 unfold pE;simp only[List.mem_append,List.mem_cons];constructor
 ·rintro(h | h | h)
  ·exact .inr (.inl h)
  ·exact .inl h
  ·exact .inr (.inr h)
 ·rintro(h | h | h)
  ·exact .inr (.inl h)
  ·exact .inl h
  ·exact .inr (.inr h)
theorem Kw{k:Nat}{m:aI}(h:MInv k m){i:Nat}{r:aQ}(hr:m.aB[i]? = some r)(h20:r.ae=20)(v:Int):waits (fE m i) v↔waits m v/\v≠r.am:=by
 unfold waits;show(∃s∈pE m.aB i,_)↔_;constructor
 ·rintro⟨s,hs,h1,h2⟩;exact⟨⟨s,(vN m hr s).2 (.inr hs),h1,h2⟩,fun e=>Io h hr h20 s hs (.inl h1) (by rw[h2,e])⟩
 ·rintro⟨⟨s,hs,h1,h2⟩,hne⟩;rcases(vN m hr s).1 hs with rfl | hs
  ·exact absurd h2.symm hne
  ·exact⟨s,hs,h1,h2⟩
theorem Uk(m:aI){i:Nat}{r:aQ}(hr:m.aB[i]? = some r)(h20:r.ae≠20):uf m (fE m i):=fun v=>by
 unfold waits;show(∃s∈pE m.aB i,_)↔_;constructor
 ·rintro⟨s,hs,h1⟩;exact⟨s,(vN m hr s).2 (.inr hs),h1⟩
 ·rintro⟨s,hs,h1,h2⟩;rcases(vN m hr s).1 hs with rfl | hs
  ·exact absurd h1 h20
  ·exact⟨s,hs,h1,h2⟩
def wR(m m':aI)(es:List gy):Prop:=(∀v,waits m' v↔waits m v/\∀x∈es,(x.ae=2∨x.ae=5)->x.aU≠v)/\(∀x∈es,x.ae=5->waits m x.aU)/\∀x∈es,(x.ae=2∨x.ae=5)->64<=x.aU/\x.aU<=127
theorem wR.none{m m':aI}(h:uf m m')(es:List gy)(he:∀x∈es,x.ae≠2/\x.ae≠5):wR m m' es:=⟨fun v=>by
 rw[h v];exact⟨fun hw=>⟨hw,fun x hx hk=>by have:=he x hx;omega⟩,fun hw=>hw.1⟩,(fun x hx hk=>absurd hk (he x hx).2),fun x hx hk=>by have:=he x hx;omega⟩
theorem wR.one{k:Nat}{m m':aI}(h:MInv k m){i:Nat}{r:aQ}(hr:m.aB[i]? = some r)(h20:r.ae=20)(hm:m'.aB=(fE m i).aB){kd res:Int}(hk:kd=2∨kd=5):wR m m' [wV kd r.am res 0]:=by
 refine⟨fun v=>?_,fun x hx _=>?_,fun x hx _=>?_⟩
 ·have e:waits m' v↔waits (fE m i) v:=by unfold waits;rw[hm]
  rw[e,Kw h hr h20 v];constructor
  ·rintro⟨h1,h2⟩;refine⟨h1,fun x hx _ e=>?_⟩;rw[mS]at hx;subst hx;exact h2 e.symm
  ·rintro⟨h1,h2⟩;exact⟨h1,fun e=>h2 _ (List.mem_singleton.2 rfl) hk e.symm⟩
 ·rw[mS]at hx;subst hx;exact⟨r,eZ hr,h20,rfl⟩
 ·rw[mS]at hx;subst hx;exact Qt (h.ask r (eZ hr)).1 (.inl h20)
theorem NP{k:Nat}{m:aI}(h:MInv k m)(s:aQ):wR m (ny m s).1 (ny m s).2:=by
 unfold ny;rcases mP m s with⟨h1,_⟩ | ⟨i,r,h1,_,hr,_⟩
 ·rw[h1];exact .none (.refl m) [] (by simp)
 ·rw[h1];simp only
  by_cases h20:r.ae=20
  ·rw[pG0 h20];split
   ·exact .one h hr h20 rfl (.inr rfl)
   split
   ·exact .one h hr h20 rfl (.inr rfl)
   split
   ·exact .one h hr h20 rfl (.inr rfl)
   ·exact .one h hr h20 rfl (.inl rfl)
  ·rw[nG0 h20];have hd:=Uk m hr h20;split
   ·unfold o8;split
    ·exact .none hd [] (by simp)
    ·exact .none (hd.trans (.same rfl)) _ (by simp[wV])
   ·exact .none hd _ (by simp[wV])
theorem NN{k:Nat}{m:aI}(h:MInv k m)(s:aQ):wR m (nL m s).1 (nL m s).2:=by
 have ha:=Xu m s
 revert ha
 unfold nL;split
 ·exact fun ha=>.none ha [] (by simp)
 split
 ·exact fun ha=>.none ha [] (by simp)
 split
 ·exact fun ha=>.none ha [] (by simp)
 rename_i hu;split
 ·exact fun ha=>.none ha [] (by simp)
 ·intro ha;obtain⟨v,_,f2,f3,f4,f5⟩:=jr (m:=m) (by omega);refine⟨fun u=>?_,fun x hx hk=>?_,fun x hx _=>?_⟩
  ·rw[ha u];refine⟨fun hw=>⟨hw,fun x hx _ e=>?_⟩,fun hw=>hw.1⟩;rw[mS]at hx;subst hx;simp only[wV]at e;obtain⟨t,ht,h1,h2⟩:=hw;have:=(dS m v).2 (.inr ⟨t,ht,.inl h1,by rw[h2,← e,f2]⟩);rw[f3]at this;cases this
  ·rw[mS]at hx;subst hx;simp[wV]at hk
  ·rw[mS]at hx;subst hx;show 64<=mW m/\mW m<=127;rw[f2];exact⟨f4,f5⟩
theorem Dz{k:Nat}{m:aI}(h:MInv k m){f:bJ}(hg:Po.wS f):wR m (iE m f).1 (iE m f).2:=by
 unfold iE;split
 ·exact .none (.refl m) _ (by simp)
 split
 ·rename_i c5;obtain⟨s,hs,hp⟩:=hg c5;rw[hp];unfold Da;rw[Sg.nX hs.1 hs.2,pG0 rfl];unfold rG;split
  ·exact NN h s
  split
  ·refine .none (Ul m s) _ ?_;unfold jV
   (repeat' split) <;> simp[wV]
  split
  ·refine .none (Ui m s) _ ?_;unfold jC;split <;> simp
  split
  ·exact .none (Xt m s) [] (by simp)
  ·exact NP h s
 split
 ·exact .none (.refl m) [] (by simp)
 ·split
  ·exact .none (.refl m) [] (by simp)
  ·refine .none (Um m _ _ _) _ ?_;unfold kS FN
   (repeat' split) <;> simp
   all_goals
    intro a b _ e;subst e;exact⟨by simp,by simp⟩
end St
end V
namespace V
namespace Sy
open St Po
structure Rel(n:Nat)(p:Int)(w:Wr)(t:bD):Prop where
 ah:t.ah=(w.s0,w.s1)
 aM:t.aM=(w.a0,w.a1)
 ar:t.ar=(w.f0,w.f1)
 cn:t.ab=w.cn
 par:t.params=w.par
 oC:t.frame=w.oC
 ans:t.answer=w.ans
 rows:∀j,(t.au j).length<=n
 rng : -p<=w.par/\w.par<=p
theorem nN(v:Int):qb FF v=some (aK (gU v 64)):=rfl
theorem FE{v:Int}(h:0<=v):Ao 64 (aK (gU v 64))=some (v%64).toNat:=by
 have:gU v 64=v%64:=by unfold gU;rw[Int.tmod_eq_emod_of_nonneg (by omega)]
 rw[this,bP (by omega) (by omega)];unfold Ao;rw[pG0 (by omega)]
theorem rF{v:Int}(h:64<=v/\v<=127):Ao 64 (aK (gU v 64))=some (v%64).toNat:=FE (by omega)
theorem xu{α:Type}(x:α)(l:List α):sub (x::l) 1 (len (x::l))=some l:=by
 have:=lu (x::l) 1 (x::l).length (by simp) (lR _);rw[List.take_length]at this;exact this
theorem lD{n:Nat}{α:Type}{S:Nat->List α}(h:∀j,(S j).length<=n)(i:Nat){l:List α}(hl:l.length<=n):∀j,(aF (aF S i []) i l j).length<=n:=fun j=>by
 unfold aF;split
 ·exact hl
 ·exact h j
theorem IC{n:Nat}{α:Type}{S:Nat->List α}(h:∀j,(S j).length<=n)(i:Nat):∀j,(aF S i [] j).length<=n:=fun j=>by
 unfold aF;split
 ·exact Nat.zero_le _
 ·exact h j
theorem Rel.more{n n':Nat}{p p':Int}{w:Wr}{t:bD}(h:Rel n p w t)(hn:n<=n')(hp:p<=p'):Rel n' p' w t:=⟨h.ah,h.aM,h.ar,h.cn,h.par,h.oC,h.ans,fun j=>Nat.le_trans (h.rows j) hn,by have:=h.rng;omega⟩
theorem Rel.sd{n:Nat}{p:Int}{w:Wr}{t:bD}(h:Rel n p w t){w':Wr}(h0:w'.s0=w.s0/\w'.s1=w.s1/\w'.a0=w.a0/\w'.a1=w.a1/\w'.f0=w.f0/\w'.f1=w.f1/\w'.cn=w.cn/\w'.par=w.par/\w'.oC=w.oC/\w'.ans=w.ans){S:Nat->List (List Int)}(hS:∀j,(S j).length<=n)(d:Bool):Rel n p w' { t with au:=S,data:=d }:=by
 obtain⟨a1,a2,a3,a4,a5,a6,a7,a8,a9,a10⟩:=h0;exact⟨by rw[a1,a2];exact h.ah,by rw[a3,a4];exact h.aM,by rw[a5,a6];exact h.ar,by rw[a7];exact h.cn,by rw[a8];exact h.par,by rw[a9];exact h.oC,by rw[a10];exact h.ans,hS,by rw[a8];exact h.rng⟩
theorem Qo{n:Nat}{t:bD}{x:gy}{kk:Nat}(hI:MInv kk t.ah.2){S:Nat->List (List Int)}(hS:∀j,(S j).length<=n){i:Nat}(hi:i<t.ah.2.aj.length) :
 ∃S',(∀j,(S' j).length<=n)/\(PV FF t x { t with au:=S } (i:Int)=some (.next ({ t with au:=S' },((i+1:Nat):Int)))∨PV FF t x { t with au:=S } (i:Int)=some (.done (.inr { t with au:=S' }))):=by
 have hcl:=hI.qX;unfold PV;rw[pG0 (by simp[len];omega)];obtain⟨c,hc⟩:∃c,t.ah.2.aj[i]? = some c:=⟨_,gE hi⟩;have hr:=(lW (hI.qW c (List.mem_of_getElem? hc))).2;rw[bg hc,bs,nN,bs,rF hr,bs];have hw:aK ((i:Int)+1)=((i+1:Nat):Int):=wN i (by omega);simp only
 rcases(by cases S (c.ax%64).toNat with
  | nil=>exact .inl rfl
  | cons b r=>exact .inr ⟨b,r,rfl⟩:S (c.ax%64).toNat=[]∨∃b r,S (c.ax%64).toNat=b::r)with hrow | ⟨b,r,hrow⟩
 ·simp only[hrow];rw[nG0 (by simp[len])];unfold q54;exact⟨_,lD hS (c.ax%64).toNat (l:=[]) (Nat.zero_le _),.inl (by rw[hw])⟩
 ·have hbr:=hS (c.ax%64).toNat;rw[hrow]at hbr;simp only[hrow];by_cases hl:c.ap=x.aU
  ·rw[pG0 (by simp[hl,len] <;> omega),show idx (b::r) 0=some b from rfl,bs,show ql FF b x.bk=some (str b==str x.bk)from rfl,bs]
   by_cases hs:(str b==str x.bk)=true
   ·rw[pG0 hs,xu,bs];exact⟨_,lD hS (c.ax%64).toNat (l:=r) (by rw[lC0]at hbr;omega),.inr rfl⟩
   ·rw[nG0 hs];unfold q54;exact⟨_,lD hS (c.ax%64).toNat (l:=b::r) hbr,.inl (by rw[hw])⟩
  ·rw[nG0 (by simp[hl])];unfold q54;exact⟨_,lD hS (c.ax%64).toNat (l:=b::r) hbr,.inl (by rw[hw])⟩
theorem Ib{n:Nat}{t:bD}{x:gy}{kk:Nat}(hI:MInv kk t.ah.2)(hS:∀j,(t.au j).length<=n) :
 ∃S',(∀j,(S' j).length<=n)/\(iter (fun s=>PV FF t x s.1 s.2) FF (t,0)=some (.inl { t with au:=S' })∨iter (fun s=>PV FF t x s.1 s.2) FF (t,0)=some (.inr { t with au:=S' })):=by
 have hcl:=hI.qX;have key:∀(d:Nat) (F:Nat) (S:Nat->List (List Int)) (i:Nat),(∀j,(S j).length<=n)->i+d=t.ah.2.aj.length->d<F->∃S',(∀j,(S' j).length<=n)/\(iter (fun s=>PV FF t x s.1 s.2) F ({ t with au:=S },(i:Int))=some (.inl { t with au:=S' })∨iter (fun s=>PV FF t x s.1 s.2) F ({ t with au:=S },(i:Int))=some (.inr { t with au:=S' })):=by
  intro d
  induction d with
  | zero=>
    intro F S i h1 h2 h3;obtain⟨F,rfl⟩:∃G,F=G+1:=⟨F-1,by omega⟩;refine⟨S,h1,.inl (aX ?_)⟩;show PV FF t x { t with au:=S } (i:Int)=_;unfold PV;rw[nG0 (by simp[len];omega)]
  | succ d ih=>
    intro F S i h1 h2 h3;obtain⟨F,rfl⟩:∃G,F=G+1:=⟨F-1,by omega⟩;obtain⟨S1,g1,g2⟩:=Qo (x:=x) hI h1 (i:=i) (by omega);rcases g2 with g2 | g2
    ·obtain⟨S2,k1,k2⟩:=ih F S1 (i+1) g1 (by omega) (by omega);refine⟨S2,k1,?_⟩;rw[bU g2];exact k2
    ·exact⟨S1,g1,.inr (aX g2)⟩
 exact key t.ah.2.aj.length FF t.au 0 hS (by omega) (by have:=FFk;omega)
theorem Ky{n:Nat}{p:Int}{w:Wr}{t:bD}(h:Rel n p w t){kk:Nat}(hI:MInv kk (w.s true))(hk:kk<=900000000){x:gy}(h1:x.ae=1->(∀y∈x.bk,Byte y)/\∀f∈w.f (!true),∀y∈f.al,Byte y)(hc:x.ae=2∨x.ae=5->64<=x.aU/\x.aU<=127)(hr:1000<=p)(hp:p<=1000000000000) :
 ∃t',q55 FF t x=some t'/\Rel n (p+1) (kQ w true x) t':=by
 have hR:=h;obtain⟨e1,e2,e3,e4,e5,e6,e7,e8,e9⟩:=h;have es:t.ah.2=w.s true:=by rw[e1];rfl
 unfold q55 kQ;rw[nN,bs];by_cases k2:x.ae=2
 ·rw[pG0 (by simp[k2]),pG0 k2,rF (hc (.inl k2)),bs];unfold qm;refine⟨_,rfl,⟨e1,e2,e3,?_,e5,e6,e7,IC e8 _,by simp only;omega⟩⟩;rw[show slot true x.aU=64+(x.aU%64).toNat from by simp[slot]];simp only[e4]
 rw[nG0 (c:=(x.ae==2)=true) (by simpa using k2),nG0 k2];by_cases k5:x.ae=5
 ·rw[pG0 (by simp[k5]),pG0 k5,rF (hc (.inr k5)),bs];have hz:(if t.answer=true then some true else some (!t.ab (64+(x.aU%64).toNat)))=some (w.ans || !w.cn (64+(x.aU%64).toNat)):=by
   rw[e7,e4];cases w.ans <;> rfl
  rw[hz,bs,bs];unfold qm;refine⟨_,rfl,⟨e1,e2,e3,?_,e5,e6,?_,e8,by simp only;omega⟩⟩
  ·rw[show slot true x.aU=64+(x.aU%64).toNat from by simp[slot]];simp only[e4]
  ·rw[show slot true x.aU=64+(x.aU%64).toNat from by simp[slot]]
 rw[nG0 (c:=(x.ae==5)=true) (by simpa using k5),nG0 k5];by_cases k1:x.ae=1
 ·rw[pG0 (by simp[k1]),pG0 k1];obtain⟨hb1,hb2⟩:=h1 k1;have ef:t.ar.1=w.f (!true):=by rw[e3];rfl
  cases hf:w.f (!true)with
  | nil=>
    rw[ef,hf,pG0 (by simp[len])];unfold q3t;exact⟨_,pG0 rfl,⟨e1,e2,e3,e4,e5,rfl,e7,e8,by simp only;omega⟩⟩
  | cons f r=>
    rw[ef,hf,nG0 (by simp[len];omega),show idx (f::r) 0=some f from rfl,bs,bs];rw[hf]at hb2;by_cases vV:f.aU=x.aU
    ·rw[nG0 (by simp[vV])];rw[show ql FF f.al x.bk=some (str f.al==str x.bk)from rfl,bs,oN hb1,oN (hb2 f (by simp))];unfold q3t;by_cases hd:f.al=x.bk
     ·rw[nG0 (by simp[hd])];rw[ef,hf,xu,bs];unfold qm;refine⟨_,rfl,?_⟩;simp only
      rw[pG0 ⟨vV,hd⟩];exact⟨e1,e2,by simp only[e3];rfl,e4,e5,e6,e7,e8,by show -(p+1)<=w.par/\w.par<=p+1;omega⟩
     ·rw[pG0 (by simpa using hd)];refine⟨_,rfl,?_⟩;simp only
      rw[nG0 (fun q=>hd q.2)];exact⟨e1,e2,e3,e4,e5,rfl,e7,e8,by simp only;omega⟩
    ·rw[pG0 (by simpa using vV)];unfold q3t;refine⟨_,pG0 rfl,?_⟩;simp only
     rw[nG0 (fun q=>vV q.1)];exact⟨e1,e2,e3,e4,e5,rfl,e7,e8,by simp only;omega⟩
 rw[nG0 (c:=(x.ae==1)=true) (by simpa using k1),nG0 k1];by_cases k3:x.ae=3
 ·rw[pG0 (by simp[k3]),pG0 k3];obtain⟨S',g1,g2⟩:=Ib (x:=x) (t:=t) (by rw[es];exact hI) e8;have key:∀(w':Wr) (d:Bool),(w'.s0=w.s0/\w'.s1=w.s1/\w'.a0=w.a0/\w'.a1=w.a1/\w'.f0=w.f0/\w'.f1=w.f1/\w'.cn=w.cn/\w'.par=w.par/\w'.oC=w.oC/\w'.ans=w.ans)->Rel n (p+1) w' { t with au:=S',data:=d }:=fun w' d h0=>(hR.sd h0 g1 d).more (lR _) (by omega);rcases g2 with g2 | g2
  ·rw[g2,bs];refine⟨_,rfl,key _ true ?_⟩;split <;> exact⟨rfl,rfl,rfl,rfl,rfl,rfl,rfl,rfl,rfl,rfl⟩
  ·rw[g2,bs];refine⟨_,rfl,key _ t.data ?_⟩;split <;> exact⟨rfl,rfl,rfl,rfl,rfl,rfl,rfl,rfl,rfl,rfl⟩
 rw[nG0 (c:=(x.ae==3)=true) (by simpa using k3),nG0 k3];by_cases k6:x.ae=6
 ·rw[pG0 (by simp[k6]),pG0 k6,es,(AU hI hk x.ID _).1,bs];unfold q7q q7p;rw[show gU x.ai.aN 2=x.ai.aN.tmod 2 from rfl];by_cases h0:(kg (w.s true) x.ID (x.ai.aN.tmod 2)).2=0
  ·rw[nG0 (by simp[h0]),pG0 h0];unfold qm;exact⟨_,rfl,⟨by simp only[e1];rfl,e2,e3,e4,e5,e6,e7,e8,by show -(p+1)<=w.par/\w.par<=p+1;omega⟩⟩
  ·rw[pG0 (by simpa using h0),nG0 h0];unfold qm;exact⟨_,rfl,⟨by simp only[e1];rfl,e2,e3,e4,rfl,e6,e7,e8,by simp only;omega⟩⟩
 rw[nG0 (c:=(x.ae==6)=true) (by simpa using k6),nG0 k6];by_cases k7:x.ae=7
 ·rw[pG0 (by simp[k7]),pG0 k7];unfold qm;have hw:aK (t.params-1)=w.par-1:=by rw[e5];exact bP (by omega) (by omega)
  exact⟨_,rfl,⟨e1,e2,e3,e4,hw,e6,by simp only[hw,e7],e8,by simp only;omega⟩⟩
 ·rw[nG0 (by simpa using k7),nG0 k7];unfold qm;exact⟨_,rfl,(hR.more (lR _) (by omega):Rel n (p+1) w t)⟩
theorem Qp{n:Nat}{t:bD}{x:gy}{kk:Nat}(hI:MInv kk t.ah.1){S:Nat->List (List Int)}(hS:∀j,(S j).length<=n){i:Nat}(hi:i<t.ah.1.aj.length) :
 ∃S',(∀j,(S' j).length<=n)/\(PS FF t x { t with au:=S } (i:Int)=some (.next ({ t with au:=S' },((i+1:Nat):Int)))∨PS FF t x { t with au:=S } (i:Int)=some (.done (.inr { t with au:=S' }))):=by
 have hcl:=hI.qX;unfold PS;rw[pG0 (by simp[len];omega)];obtain⟨c,hc⟩:∃c,t.ah.1.aj[i]? = some c:=⟨_,gE hi⟩;have hr:=(lW (hI.qW c (List.mem_of_getElem? hc))).2;rw[bg hc,bs,nN,bs,rF hr,bs];have hw:aK ((i:Int)+1)=((i+1:Nat):Int):=wN i (by omega);simp only
 rcases(by cases S (64+(c.ax%64).toNat)with
  | nil=>exact .inl rfl
  | cons b r=>exact .inr ⟨b,r,rfl⟩:S (64+(c.ax%64).toNat)=[]∨∃b r,S (64+(c.ax%64).toNat)=b::r)with hrow | ⟨b,r,hrow⟩
 ·simp only[hrow];rw[nG0 (by simp[len])];unfold q56;exact⟨_,lD hS (64+(c.ax%64).toNat) (l:=[]) (Nat.zero_le _),.inl (by rw[hw])⟩
 ·have hbr:=hS (64+(c.ax%64).toNat);rw[hrow]at hbr;simp only[hrow];by_cases hl:c.ap=x.aU
  ·rw[pG0 (by simp[hl,len] <;> omega),show idx (b::r) 0=some b from rfl,bs,show ql FF b x.bk=some (str b==str x.bk)from rfl,bs]
   by_cases hs:(str b==str x.bk)=true
   ·rw[pG0 hs,xu,bs];exact⟨_,lD hS (64+(c.ax%64).toNat) (l:=r) (by rw[lC0]at hbr;omega),.inr rfl⟩
   ·rw[nG0 hs];unfold q56;exact⟨_,lD hS (64+(c.ax%64).toNat) (l:=b::r) hbr,.inl (by rw[hw])⟩
  ·rw[nG0 (by simp[hl])];unfold q56;exact⟨_,lD hS (64+(c.ax%64).toNat) (l:=b::r) hbr,.inl (by rw[hw])⟩
theorem Ic{n:Nat}{t:bD}{x:gy}{kk:Nat}(hI:MInv kk t.ah.1)(hS:∀j,(t.au j).length<=n) :
 ∃S',(∀j,(S' j).length<=n)/\(iter (fun s=>PS FF t x s.1 s.2) FF (t,0)=some (.inl { t with au:=S' })∨iter (fun s=>PS FF t x s.1 s.2) FF (t,0)=some (.inr { t with au:=S' })):=by
 have hcl:=hI.qX;have key:∀(d:Nat) (F:Nat) (S:Nat->List (List Int)) (i:Nat),(∀j,(S j).length<=n)->i+d=t.ah.1.aj.length->d<F->∃S',(∀j,(S' j).length<=n)/\(iter (fun s=>PS FF t x s.1 s.2) F ({ t with au:=S },(i:Int))=some (.inl { t with au:=S' })∨iter (fun s=>PS FF t x s.1 s.2) F ({ t with au:=S },(i:Int))=some (.inr { t with au:=S' })):=by
  intro d
  induction d with
  | zero=>
    intro F S i h1 h2 h3;obtain⟨F,rfl⟩:∃G,F=G+1:=⟨F-1,by omega⟩;refine⟨S,h1,.inl (aX ?_)⟩;show PS FF t x { t with au:=S } (i:Int)=_;unfold PS;rw[nG0 (by simp[len];omega)]
  | succ d ih=>
    intro F S i h1 h2 h3;obtain⟨F,rfl⟩:∃G,F=G+1:=⟨F-1,by omega⟩;obtain⟨S1,g1,g2⟩:=Qp (x:=x) hI h1 (i:=i) (by omega);rcases g2 with g2 | g2
    ·obtain⟨S2,k1,k2⟩:=ih F S1 (i+1) g1 (by omega) (by omega);refine⟨S2,k1,?_⟩;rw[bU g2];exact k2
    ·exact⟨S1,g1,.inr (aX g2)⟩
 exact key t.ah.1.aj.length FF t.au 0 hS (by omega) (by have:=FFk;omega)
theorem Kz{n:Nat}{p:Int}{w:Wr}{t:bD}(h:Rel n p w t){kk:Nat}(hI:MInv kk (w.s false))(hk:kk<=900000000){x:gy}(h1:x.ae=1->(∀y∈x.bk,Byte y)/\∀f∈w.f (!false),∀y∈f.al,Byte y)(hc:x.ae=2∨x.ae=5->64<=x.aU/\x.aU<=127)(hr:1000<=p)(hp:p<=1000000000000) :
 ∃t',q57 FF t x=some t'/\Rel n (p+1) (kQ w false x) t':=by
 have hR:=h;obtain⟨e1,e2,e3,e4,e5,e6,e7,e8,e9⟩:=h;have es:t.ah.1=w.s false:=by rw[e1];rfl
 unfold q57 kQ;rw[nN,bs];by_cases k2:x.ae=2
 ·rw[pG0 (by simp[k2]),pG0 k2,rF (hc (.inl k2)),bs];unfold qn;refine⟨_,rfl,⟨e1,e2,e3,?_,e5,e6,e7,IC e8 _,by simp only;omega⟩⟩;rw[show slot false x.aU=(x.aU%64).toNat from by simp[slot]];simp only[e4]
 rw[nG0 (c:=(x.ae==2)=true) (by simpa using k2),nG0 k2];by_cases k5:x.ae=5
 ·rw[pG0 (by simp[k5]),pG0 k5,rF (hc (.inr k5)),bs];have hz:(if t.answer=true then some true else some (!t.ab ((x.aU%64).toNat)))=some (w.ans || !w.cn ((x.aU%64).toNat)):=by
   rw[e7,e4];cases w.ans <;> rfl
  rw[hz,bs,bs];unfold qn;refine⟨_,rfl,⟨e1,e2,e3,?_,e5,e6,?_,e8,by simp only;omega⟩⟩
  ·rw[show slot false x.aU=(x.aU%64).toNat from by simp[slot]];simp only[e4]
  ·rw[show slot false x.aU=(x.aU%64).toNat from by simp[slot]]
 rw[nG0 (c:=(x.ae==5)=true) (by simpa using k5),nG0 k5];by_cases k1:x.ae=1
 ·rw[pG0 (by simp[k1]),pG0 k1];obtain⟨hb1,hb2⟩:=h1 k1;have ef:t.ar.2=w.f (!false):=by rw[e3];rfl
  cases hf:w.f (!false)with
  | nil=>
    rw[ef,hf,pG0 (by simp[len])];unfold Z9;exact⟨_,pG0 rfl,⟨e1,e2,e3,e4,e5,rfl,e7,e8,by simp only;omega⟩⟩
  | cons f r=>
    rw[ef,hf,nG0 (by simp[len];omega),show idx (f::r) 0=some f from rfl,bs,bs];rw[hf]at hb2;by_cases vV:f.aU=x.aU
    ·rw[nG0 (by simp[vV])];rw[show ql FF f.al x.bk=some (str f.al==str x.bk)from rfl,bs,oN hb1,oN (hb2 f (by simp))];unfold Z9;by_cases hd:f.al=x.bk
     ·rw[nG0 (by simp[hd])];rw[ef,hf,xu,bs];unfold qn;refine⟨_,rfl,?_⟩;simp only
      rw[pG0 ⟨vV,hd⟩];exact⟨e1,e2,by simp only[e3];rfl,e4,e5,e6,e7,e8,by show -(p+1)<=w.par/\w.par<=p+1;omega⟩
     ·rw[pG0 (by simpa using hd)];refine⟨_,rfl,?_⟩;simp only
      rw[nG0 (fun q=>hd q.2)];exact⟨e1,e2,e3,e4,e5,rfl,e7,e8,by simp only;omega⟩
    ·rw[pG0 (by simpa using vV)];unfold Z9;refine⟨_,pG0 rfl,?_⟩;simp only
     rw[nG0 (fun q=>vV q.1)];exact⟨e1,e2,e3,e4,e5,rfl,e7,e8,by simp only;omega⟩
 rw[nG0 (c:=(x.ae==1)=true) (by simpa using k1),nG0 k1];by_cases k3:x.ae=3
 ·rw[pG0 (by simp[k3]),pG0 k3];obtain⟨S',g1,g2⟩:=Ic (x:=x) (t:=t) (by rw[es];exact hI) e8;have key:∀(w':Wr) (d:Bool),(w'.s0=w.s0/\w'.s1=w.s1/\w'.a0=w.a0/\w'.a1=w.a1/\w'.f0=w.f0/\w'.f1=w.f1/\w'.cn=w.cn/\w'.par=w.par/\w'.oC=w.oC/\w'.ans=w.ans)->Rel n (p+1) w' { t with au:=S',data:=d }:=fun w' d h0=>(hR.sd h0 g1 d).more (lR _) (by omega);rcases g2 with g2 | g2
  ·rw[g2,bs];refine⟨_,rfl,key _ true ?_⟩;split <;> exact⟨rfl,rfl,rfl,rfl,rfl,rfl,rfl,rfl,rfl,rfl⟩
  ·rw[g2,bs];refine⟨_,rfl,key _ t.data ?_⟩;split <;> exact⟨rfl,rfl,rfl,rfl,rfl,rfl,rfl,rfl,rfl,rfl⟩
 rw[nG0 (c:=(x.ae==3)=true) (by simpa using k3),nG0 k3];by_cases k6:x.ae=6
 ·rw[pG0 (by simp[k6]),pG0 k6,es,(AU hI hk x.ID _).1,bs];unfold q7w q7v;rw[show gU x.ai.aN 2=x.ai.aN.tmod 2 from rfl];by_cases h0:(kg (w.s false) x.ID (x.ai.aN.tmod 2)).2=0
  ·rw[nG0 (by simp[h0]),pG0 h0];unfold qn;exact⟨_,rfl,⟨by simp only[e1];rfl,e2,e3,e4,e5,e6,e7,e8,by show -(p+1)<=w.par/\w.par<=p+1;omega⟩⟩
  ·rw[pG0 (by simpa using h0),nG0 h0];unfold qn;exact⟨_,rfl,⟨by simp only[e1];rfl,e2,e3,e4,rfl,e6,e7,e8,by simp only;omega⟩⟩
 rw[nG0 (c:=(x.ae==6)=true) (by simpa using k6),nG0 k6];by_cases k7:x.ae=7
 ·rw[pG0 (by simp[k7]),pG0 k7];unfold qn;have hw:aK (t.params-1)=w.par-1:=by rw[e5];exact bP (by omega) (by omega)
  exact⟨_,rfl,⟨e1,e2,e3,e4,hw,e6,by simp only[hw,e7],e8,by simp only;omega⟩⟩
 ·rw[nG0 (by simpa using k7),nG0 k7];unfold qn;exact⟨_,rfl,(hR.more (lR _) (by omega):Rel n (p+1) w t)⟩
end Sy
end V
namespace V
namespace Sy
open St Po
theorem TG{L:Bool->List bJ}{r:Bool->Nat}{w:Wr}(hO:Ord L r w)(k:Bool){p:eH}{ps:List eH}(ha:w.a k=p::ps)(hf:(w.s (!k)).Out.length<=800000000) :
 qr FF (w.s (!k)) p=some (uR (w.s (!k)) p)/\(uR (w.s (!k)) p).2.length<=1/\(∃q,q<=800000001/\MInv q (uR (w.s (!k)) p).1)/\(∀f∈w.f k,∀y∈f.al,Byte y)/\∀x∈(uR (w.s (!k)) p).2,(x.ae=1->∀y∈x.bk,Byte y)/\(x.ae=2∨x.ae=5->64<=x.aU/\x.aU<=127):=by
 have hW:=hO.way k;have hS:=hO.side (!k);have hfl:=hW.flow;rw[ha]at hfl;have hgood:∀f∈L k,Good f:=fun f hq=>(hW.good f hq).1;obtain⟨_,hb,hl⟩:=Co hfl hgood;obtain⟨hin,hm,hlen⟩:=Cj hS.inv (by omega) hb hl;have hval:=Fr.wu hS.inv.asm hb;refine⟨hin,hlen,⟨_,by omega,hm⟩,fun f hq y hy=>?_,?_⟩
 ·rw[← hW.fix,List.mem_filter]at hq;exact(hgood f hq.1).yT y hy
 ·rw[hW.asm]at hval;unfold uR;rw[hW.asm];rcases rW hfl hgood with⟨f,rest,hL,OZ,_⟩ | ⟨u,OZ,_⟩
  ·rw[OZ]at hval ⊢;have hgf:=hW.good f (by rw[hL];simp);have hI:=hS.inv.gK hval;have ht:=Dz hI hgf.2;intro x hx;refine⟨fun hk y hy=>?_,fun hk=>ht.2.2 x hx hk⟩;by_cases hfix:ji f=true
   ·have hc:f.aU=4∨f.aU=6:=by unfold ji at hfix;simpa using hfix
    simp only[iE,pG0 hc,mS]at hx;subst hx;exact hgf.1.yT y hy
   ·exact absurd hk (Sc _ hgf.2 (by simpa using hfix) x hx).1
  ·rw[OZ];exact fun x hx=>by simp at hx
structure YT(t c:bD):Prop where
 ah:c.ah.2=t.ah.2
 aM:c.aM.2=t.aM.2
 rest:c.ar=t.ar/\c.params=t.params/\c.frame=t.frame/\c.answer=t.answer
theorem DU{nn:Nat}{p:Int}{r:Bool->Nat}{t:bD}:∀(n F:Nat) (w:Wr) (c:bD) (y:Bool) (L:Bool->List bJ),n<F->n<1000000000->Ord L r w->phi L w<=100000000->pG L w<=1000000000->Rel nn p w c->YT t c->
 ∃c',Rel nn p (dD n w false y).1 c'/\(iter (fun s=>X9 FF t s.1 s.2.1 s.2.2) F (c,(n:Int),y)=some (.inl (c',(dD n w false y).2))∨iter (fun s=>X9 FF t s.1 s.2.1 s.2.2) F (c,(n:Int),y)=some (.inr ((dD n w false y).2,c')))/\YT t c'
 | 0,F,w,c,y,L,hF,_,_,_,_,hR,hA=>by
   obtain⟨F,rfl⟩:∃G,F=G+1:=⟨F-1,by omega⟩;obtain⟨a1,a2,a3,a4,a5,a6⟩:=hA;have e:X9 FF t c ((0:Nat):Int) y=some (.done (.inl ({ t with ah:=(c.ah.1,t.ah.2),aM:=(c.aM.1,t.aM.2),au:=c.au,ab:=c.ab },y))):=nG0 (by simp);refine⟨{ t with ah:=(c.ah.1,t.ah.2),aM:=(c.aM.1,t.aM.2),au:=c.au,ab:=c.ab },⟨?_,?_,a3▸hR.ar,hR.cn,a4▸hR.par,a5▸hR.oC,a6▸hR.ans,hR.rows,hR.rng⟩,.inl (aX e),⟨rfl,rfl,rfl,rfl,rfl,rfl⟩⟩
   ·have:=hR.ah;simp only[← a1];exact this
   ·have:=hR.aM;simp only[← a2];exact this
 | n+1,F,w,c,y,L,hF,hn,hO,hp,hm,hR,hA=>by
   obtain⟨F,rfl⟩:∃G,F=G+1:=⟨F-1,by omega⟩;have hf:=hO.few false;obtain⟨L0,c1,c2,_⟩:=hO.pre false (by omega);have hf2:=c1.few false;rw[(gN w false _).1]at hf2;obtain⟨L1,q1,_,q3,_,q4⟩:=hO.dK false (by omega) (by omega);have hout:=(EB (hO.side false).inv (by omega)).1;have es:c.ah.1=w.s false:=by rw[hR.ah];rfl
   have ea:c.aM.1=w.a false:=by rw[hR.aM];rfl
   have e1:=oG w false;have e2:=oG (Sy.dK w false).1 false;have hlen:(w.a false).length<=1000000000:=by unfold pG at hm;omega
   obtain⟨a1,a2,a3,a4,a5,a6⟩:=hA;have hb:∀o,q5w FF t c ((n+1:Nat):Int) y (iD (w.s false))=some o->X9 FF t c ((n+1:Nat):Int) y=some o:=fun o ho=>by
    unfold X9;rw[pG0 (by simp <;> omega),es,hout,bs]
    exact ho
   have hw:aK (((n+1:Nat):Int)-1)=(n:Int):=by rw[bP (by omega) (by omega)];omega
   unfold dD;rcases q4 with⟨t1,t2,t3⟩ | ⟨t1,t2,t3,t4⟩
   ·rw[pG0 t1];rw[q3,t3]at e2;have ht:(iD (w.s false)).2.2=true:=by
     unfold Sy.dK at t1;split at t1
     ·assumption
     ·cases t1
    have hs1:(Sy.dK w false).1=(w.bF false (iD (w.s false)).1).gT false (w.a false++[(iD (w.s false)).2.1]):=by unfold Sy.dK;rw[pG0 ht]
    have hj:=hb (.next ({ t with ah:=((iD (w.s false)).1,t.ah.2),aM:=(w.a false++[(iD (w.s false)).2.1],t.aM.2),au:=c.au,ab:=c.ab },(n:Int),true)) (by
     unfold q5w;rw[nG0 (by simp[ht]),ea,dV (by simp;omega) (by omega),bs,hw])
    have Ww:Rel nn p (Sy.dK w false).1 ({ t with ah:=((iD (w.s false)).1,t.ah.2),aM:=(w.a false++[(iD (w.s false)).2.1],t.aM.2),au:=c.au,ab:=c.ab }):=by
     rw[hs1];refine⟨?_,?_,a3▸hR.ar,hR.cn,a4▸hR.par,a5▸hR.oC,a6▸hR.ans,hR.rows,hR.rng⟩
     ·have:=hR.ah;simp only[← a1,this];rfl
     ·have:=hR.aM;simp only[← a2,this];rfl
    obtain⟨c',g1,g2,g3⟩:=DU (t:=t) n F (Sy.dK w false).1 ({ t with ah:=((iD (w.s false)).1,t.ah.2),aM:=(w.a false++[(iD (w.s false)).2.1],t.aM.2),au:=c.au,ab:=c.ab }) true L1 (by omega) (by omega) q1 (by omega) (by unfold pG at hm ⊢;omega) Ww ⟨rfl,rfl,rfl,rfl,rfl,rfl⟩;refine⟨c',g1,?_,g3⟩;rw[bU hj];exact g2
   ·rw[nG0 (by rw[t1];simp)];have ht:(iD (w.s false)).2.2=false:=by
     cases hq:(iD (w.s false)).2.2 with
     | false=>rfl
     | true=>exact absurd t1 (by unfold Sy.dK;rw[pG0 hq];simp)
    have hs1:(Sy.dK w false).1=w.bF false (iD (w.s false)).1:=by unfold Sy.dK;rw[nG0 (by simp[ht])]
    have hj:=hb (.done (.inr (y,{ t with ah:=((iD (w.s false)).1,t.ah.2),aM:=(c.aM.1,t.aM.2),au:=c.au,ab:=c.ab }))) (by
     unfold q5w;rw[pG0 (by simp[ht])])
    refine⟨{ t with ah:=((iD (w.s false)).1,t.ah.2),aM:=(c.aM.1,t.aM.2),au:=c.au,ab:=c.ab },?_,.inr (aX hj),⟨rfl,rfl,rfl,rfl,rfl,rfl⟩⟩;simp only
    rw[hs1];refine⟨?_,?_,a3▸hR.ar,hR.cn,a4▸hR.par,a5▸hR.oC,a6▸hR.ans,hR.rows,hR.rng⟩
    ·have:=hR.ah;simp only[← a1,this];rfl
    ·have:=hR.aM;simp only[← a2,this];rfl
theorem AA{nn:Nat}{p:Int}{r:Bool->Nat}{L:Bool->List bJ}{w:Wr}{t:bD}{n:Nat}(hn:n<1000000000)(hO:Ord L r w)(hp:phi L w<=100000000)(hm:pG L w<=1000000000)(hR:Rel nn p w t) :
 ∃c',Rel nn p (dD n w false false).1 c'/\q37 FF t (n:Int)=some ((dD n w false false).2,c'):=by
 obtain⟨c',g1,g2,a1,a2,a3,a4,a5,a6⟩:=DU (t:=t) n FF w t false L (by have:=FFk;have:=ff;omega) hn hO hp hm hR ⟨rfl,rfl,rfl,rfl,rfl,rfl⟩;unfold q37;rcases g2 with g2 | g2
 ·rw[g2,bs];refine⟨{ t with ah:=(c'.ah.1,t.ah.2),aM:=(c'.aM.1,t.aM.2),au:=c'.au,ab:=c'.ab },⟨?_,?_,a3▸g1.ar,g1.cn,a4▸g1.par,a5▸g1.oC,a6▸g1.ans,g1.rows,g1.rng⟩,rfl⟩
  ·have:=g1.ah;simp only[← a1];exact this
  ·have:=g1.aM;simp only[← a2];exact this
 ·rw[g2,bs];exact⟨c',g1,rfl⟩
theorem JW{nn:Nat}:∀(n F:Nat) (p:Int) (w:Wr) (c:bD) (L:Bool->List bJ) (r:Bool->Nat),n<F->n<1000000000->Ord L r w->phi L w<=100000000->Rel nn p w c->1000<=p->p+n<=1000000000000->
 ∃c',Rel nn (p+n) (bH n w false) c'/\iter (fun s=>X8 FF s.1 s.2) F (c,(n:Int))=some c'
 | 0,F,p,w,c,L,r,hF,_,_,_,hR,_,_=>by
   obtain⟨F,rfl⟩:∃G,F=G+1:=⟨F-1,by omega⟩;exact⟨c,hR.more (lR _) (by omega),aX (show X8 FF c ((0:Nat):Int)=_ from nG0 (by simp))⟩
 | n+1,F,p,w,c,L,r,hF,hn,hO,hp,hR,Jy,hpn=>by
   obtain⟨F,rfl⟩:∃G,F=G+1:=⟨F-1,by omega⟩;have ea:c.aM.1=w.a false:=by rw[hR.aM];rfl
   have es:c.ah.2=w.s (!false):=by rw[hR.ah];rfl
   unfold bH;cases ha:w.a false with
   | nil=>
     refine⟨c,hR.more (lR _) (by omega),aX (show X8 FF c ((n+1:Nat):Int)=_ from nG0 ?_)⟩;rw[ea,ha];simp[len]
   | cons q qs=>
     simp only
     have hf:=hO.few (!false);obtain⟨hin,hlen,⟨kq,hkq,hmI⟩,hfb,hev⟩:=TG hO false ha (by omega);obtain⟨L1,r1,q1,q2,_,_⟩:=hO.arr false ha (by omega);have hw:aK (((n+1:Nat):Int)-1)=(n:Int):=by rw[bP (by omega) (by omega)];omega
     have hR0:Rel nn p ((w.gT false qs).bF (!false) (uR (w.s (!false)) q).1) ({ c with ah:=(c.ah.1,(uR (w.s (!false)) q).1),aM:=(qs,c.aM.2) }):=by
      refine⟨?_,?_,hR.ar,hR.cn,hR.par,hR.oC,hR.ans,hR.rows,hR.rng⟩
      ·have:=hR.ah;simp only[this];rfl
      ·have:=hR.aM;simp only[this];rfl
     have hone:∃c1,Rel nn (p+1) (lT w false q qs) c1/\iter (fun s=>PU FF (uR (w.s (!false)) q).2 s.1 s.2) FF ({ c with ah:=(c.ah.1,(uR (w.s (!false)) q).1),aM:=(qs,c.aM.2) },0)=some c1:=by
      unfold lT;obtain⟨G,hG⟩:∃G,FF=G+2:=⟨FF-2,by have:=ff;omega⟩
      match hes:(uR (w.s (!false)) q).2,hlen with
      | [],_=>
        refine⟨_,hR0.more (lR _) (by omega),?_⟩;rw[show iter (fun s=>PU FF [] s.1 s.2) FF=iter (fun s=>PU FF [] s.1 s.2) (G+1+1)from by rw[hG]];exact aX (show PU FF [] _ 0=_ from nG0 (by simp[len]))
      | [x],_=>
        rw[hes]at hev;have hx:=hev x (by simp);obtain⟨c1,g1,g2⟩:=Ky hR0 (x:=x) (kk:=kq) hmI (by omega) (fun hk=>⟨hx.1 hk,hfb⟩) hx.2 Jy (by omega);refine⟨c1,g2,?_⟩;rw[show iter (fun s=>PU FF [x] s.1 s.2) FF=iter (fun s=>PU FF [x] s.1 s.2) (G+1+1)from by rw[hG]];rw[bU (s':=(c1,1)) (show PU FF [x] _ 0=_ from by
         unfold PU;rw[pG0 (by simp[len]),show idx [x] 0=some x from rfl,bs,g1,bs];rfl)]
        exact aX (show PU FF [x] c1 1=_ from nG0 (by simp[len]))
     obtain⟨c1,g1,g2⟩:=hone;obtain⟨c',k1,k2⟩:=JW n F (p+1) (lT w false q qs) c1 L1 r1 (by omega) (by omega) q1 (by omega) g1 (by omega) (by omega);refine⟨c',k1.more (lR _) (by omega),?_⟩;rw[bU (s':=(c1,(n:Int))) (show X8 FF c ((n+1:Nat):Int)=_ from by
      unfold X8;rw[ea,ha,es,pG0 (by simp[len] <;> omega),show idx (q::qs) 0=some q from rfl,bs,bs,hin,bs]
      unfold q7u q7t q7s q7r;rw[ea,ha,xu,bs,g2,bs,hw])]
     exact k2
theorem wJ{nn:Nat}{p:Int}{r:Bool->Nat}{L:Bool->List bJ}{w:Wr}{t:bD}{n:Nat}(hn:n<1000000000)(hO:Ord L r w)(hp:phi L w<=100000000)(hR:Rel nn p w t)(h1:1000<=p)(h2:p+n<=1000000000000) :
 ∃c',Rel nn (p+n) (bH n w false) c'/\q39 FF t (n:Int)=some c':=by
 obtain⟨c',g1,g2⟩:=JW n FF p w t L r (by have:=ff;omega) hn hO hp hR h1 h2;unfold q39;rw[g2,bs];exact⟨c',g1,rfl⟩
structure YS(t c:bD):Prop where
 ah:c.ah.1=t.ah.1
 aM:c.aM.1=t.aM.1
 rest:c.ar=t.ar/\c.params=t.params/\c.frame=t.frame/\c.answer=t.answer
theorem DT{nn:Nat}{p:Int}{r:Bool->Nat}{t:bD}:∀(n F:Nat) (w:Wr) (c:bD) (y:Bool) (L:Bool->List bJ),n<F->n<1000000000->Ord L r w->phi L w<=100000000->pG L w<=1000000000->Rel nn p w c->YS t c->
 ∃c',Rel nn p (dD n w true y).1 c'/\(iter (fun s=>X7 FF t s.1 s.2.1 s.2.2) F (c,(n:Int),y)=some (.inl (c',(dD n w true y).2))∨iter (fun s=>X7 FF t s.1 s.2.1 s.2.2) F (c,(n:Int),y)=some (.inr ((dD n w true y).2,c')))/\YS t c'
 | 0,F,w,c,y,L,hF,_,_,_,_,hR,hA=>by
   obtain⟨F,rfl⟩:∃G,F=G+1:=⟨F-1,by omega⟩;obtain⟨a1,a2,a3,a4,a5,a6⟩:=hA;have e:X7 FF t c ((0:Nat):Int) y=some (.done (.inl ({ t with ah:=(t.ah.1,c.ah.2),aM:=(t.aM.1,c.aM.2),au:=c.au,ab:=c.ab },y))):=nG0 (by simp);refine⟨{ t with ah:=(t.ah.1,c.ah.2),aM:=(t.aM.1,c.aM.2),au:=c.au,ab:=c.ab },⟨?_,?_,a3▸hR.ar,hR.cn,a4▸hR.par,a5▸hR.oC,a6▸hR.ans,hR.rows,hR.rng⟩,.inl (aX e),⟨rfl,rfl,rfl,rfl,rfl,rfl⟩⟩
   ·have:=hR.ah;simp only[← a1];exact this
   ·have:=hR.aM;simp only[← a2];exact this
 | n+1,F,w,c,y,L,hF,hn,hO,hp,hm,hR,hA=>by
   obtain⟨F,rfl⟩:∃G,F=G+1:=⟨F-1,by omega⟩;have hf:=hO.few true;obtain⟨L0,c1,c2,_⟩:=hO.pre true (by omega);have hf2:=c1.few true;rw[(gN w true _).1]at hf2;obtain⟨L1,q1,_,q3,_,q4⟩:=hO.dK true (by omega) (by omega);have hout:=(EB (hO.side true).inv (by omega)).1;have es:c.ah.2=w.s true:=by rw[hR.ah];rfl
   have ea:c.aM.2=w.a true:=by rw[hR.aM];rfl
   have e1:=oG w true;have e2:=oG (Sy.dK w true).1 true;have hlen:(w.a true).length<=1000000000:=by unfold pG at hm;omega
   obtain⟨a1,a2,a3,a4,a5,a6⟩:=hA;have hb:∀o,q5x FF t c ((n+1:Nat):Int) y (iD (w.s true))=some o->X7 FF t c ((n+1:Nat):Int) y=some o:=fun o ho=>by
    unfold X7;rw[pG0 (by simp <;> omega),es,hout,bs]
    exact ho
   have hw:aK (((n+1:Nat):Int)-1)=(n:Int):=by rw[bP (by omega) (by omega)];omega
   unfold dD;rcases q4 with⟨t1,t2,t3⟩ | ⟨t1,t2,t3,t4⟩
   ·rw[pG0 t1];rw[q3,t3]at e2;have ht:(iD (w.s true)).2.2=true:=by
     unfold Sy.dK at t1;split at t1
     ·assumption
     ·cases t1
    have hs1:(Sy.dK w true).1=(w.bF true (iD (w.s true)).1).gT true (w.a true++[(iD (w.s true)).2.1]):=by unfold Sy.dK;rw[pG0 ht]
    have hj:=hb (.next ({ t with ah:=(t.ah.1,(iD (w.s true)).1),aM:=(t.aM.1,w.a true++[(iD (w.s true)).2.1]),au:=c.au,ab:=c.ab },(n:Int),true)) (by
     unfold q5x;rw[nG0 (by simp[ht]),ea,dV (by simp;omega) (by omega),bs,hw])
    have Ww:Rel nn p (Sy.dK w true).1 ({ t with ah:=(t.ah.1,(iD (w.s true)).1),aM:=(t.aM.1,w.a true++[(iD (w.s true)).2.1]),au:=c.au,ab:=c.ab }):=by
     rw[hs1];refine⟨?_,?_,a3▸hR.ar,hR.cn,a4▸hR.par,a5▸hR.oC,a6▸hR.ans,hR.rows,hR.rng⟩
     ·have:=hR.ah;simp only[← a1,this];rfl
     ·have:=hR.aM;simp only[← a2,this];rfl
    obtain⟨c',g1,g2,g3⟩:=DT (t:=t) n F (Sy.dK w true).1 ({ t with ah:=(t.ah.1,(iD (w.s true)).1),aM:=(t.aM.1,w.a true++[(iD (w.s true)).2.1]),au:=c.au,ab:=c.ab }) true L1 (by omega) (by omega) q1 (by omega) (by unfold pG at hm ⊢;omega) Ww ⟨rfl,rfl,rfl,rfl,rfl,rfl⟩;refine⟨c',g1,?_,g3⟩;rw[bU hj];exact g2
   ·rw[nG0 (by rw[t1];simp)];have ht:(iD (w.s true)).2.2=false:=by
     cases hq:(iD (w.s true)).2.2 with
     | false=>rfl
     | true=>exact absurd t1 (by unfold Sy.dK;rw[pG0 hq];simp)
    have hs1:(Sy.dK w true).1=w.bF true (iD (w.s true)).1:=by unfold Sy.dK;rw[nG0 (by simp[ht])]
    have hj:=hb (.done (.inr (y,{ t with ah:=(t.ah.1,(iD (w.s true)).1),aM:=(t.aM.1,c.aM.2),au:=c.au,ab:=c.ab }))) (by
     unfold q5x;rw[pG0 (by simp[ht])])
    refine⟨{ t with ah:=(t.ah.1,(iD (w.s true)).1),aM:=(t.aM.1,c.aM.2),au:=c.au,ab:=c.ab },?_,.inr (aX hj),⟨rfl,rfl,rfl,rfl,rfl,rfl⟩⟩;simp only
    rw[hs1];refine⟨?_,?_,a3▸hR.ar,hR.cn,a4▸hR.par,a5▸hR.oC,a6▸hR.ans,hR.rows,hR.rng⟩
    ·have:=hR.ah;simp only[← a1,this];rfl
    ·have:=hR.aM;simp only[← a2,this];rfl
theorem Az{nn:Nat}{p:Int}{r:Bool->Nat}{L:Bool->List bJ}{w:Wr}{t:bD}{n:Nat}(hn:n<1000000000)(hO:Ord L r w)(hp:phi L w<=100000000)(hm:pG L w<=1000000000)(hR:Rel nn p w t) :
 ∃c',Rel nn p (dD n w true false).1 c'/\q3c FF t (n:Int)=some ((dD n w true false).2,c'):=by
 obtain⟨c',g1,g2,a1,a2,a3,a4,a5,a6⟩:=DT (t:=t) n FF w t false L (by have:=FFk;have:=ff;omega) hn hO hp hm hR ⟨rfl,rfl,rfl,rfl,rfl,rfl⟩;unfold q3c;rcases g2 with g2 | g2
 ·rw[g2,bs];refine⟨{ t with ah:=(t.ah.1,c'.ah.2),aM:=(t.aM.1,c'.aM.2),au:=c'.au,ab:=c'.ab },⟨?_,?_,a3▸g1.ar,g1.cn,a4▸g1.par,a5▸g1.oC,a6▸g1.ans,g1.rows,g1.rng⟩,rfl⟩
  ·have:=g1.ah;simp only[← a1];exact this
  ·have:=g1.aM;simp only[← a2];exact this
 ·rw[g2,bs];exact⟨c',g1,rfl⟩
theorem JV{nn:Nat}:∀(n F:Nat) (p:Int) (w:Wr) (c:bD) (L:Bool->List bJ) (r:Bool->Nat),n<F->n<1000000000->Ord L r w->phi L w<=100000000->Rel nn p w c->1000<=p->p+n<=1000000000000->
 ∃c',Rel nn (p+n) (bH n w true) c'/\iter (fun s=>X6 FF s.1 s.2) F (c,(n:Int))=some c'
 | 0,F,p,w,c,L,r,hF,_,_,_,hR,_,_=>by
   obtain⟨F,rfl⟩:∃G,F=G+1:=⟨F-1,by omega⟩;exact⟨c,hR.more (lR _) (by omega),aX (show X6 FF c ((0:Nat):Int)=_ from nG0 (by simp))⟩
 | n+1,F,p,w,c,L,r,hF,hn,hO,hp,hR,Jy,hpn=>by
   obtain⟨F,rfl⟩:∃G,F=G+1:=⟨F-1,by omega⟩;have ea:c.aM.2=w.a true:=by rw[hR.aM];rfl
   have es:c.ah.1=w.s (!true):=by rw[hR.ah];rfl
   unfold bH;cases ha:w.a true with
   | nil=>
     refine⟨c,hR.more (lR _) (by omega),aX (show X6 FF c ((n+1:Nat):Int)=_ from nG0 ?_)⟩;rw[ea,ha];simp[len]
   | cons q qs=>
     simp only
     have hf:=hO.few (!true);obtain⟨hin,hlen,⟨kq,hkq,hmI⟩,hfb,hev⟩:=TG hO true ha (by omega);obtain⟨L1,r1,q1,q2,_,_⟩:=hO.arr true ha (by omega);have hw:aK (((n+1:Nat):Int)-1)=(n:Int):=by rw[bP (by omega) (by omega)];omega
     have hR0:Rel nn p ((w.gT true qs).bF (!true) (uR (w.s (!true)) q).1) ({ c with ah:=((uR (w.s (!true)) q).1,c.ah.2),aM:=(c.aM.1,qs) }):=by
      refine⟨?_,?_,hR.ar,hR.cn,hR.par,hR.oC,hR.ans,hR.rows,hR.rng⟩
      ·have:=hR.ah;simp only[this];rfl
      ·have:=hR.aM;simp only[this];rfl
     have hone:∃c1,Rel nn (p+1) (lT w true q qs) c1/\iter (fun s=>PO FF (uR (w.s (!true)) q).2 s.1 s.2) FF ({ c with ah:=((uR (w.s (!true)) q).1,c.ah.2),aM:=(c.aM.1,qs) },0)=some c1:=by
      unfold lT;obtain⟨G,hG⟩:∃G,FF=G+2:=⟨FF-2,by have:=ff;omega⟩
      match hes:(uR (w.s (!true)) q).2,hlen with
      | [],_=>
        refine⟨_,hR0.more (lR _) (by omega),?_⟩;rw[show iter (fun s=>PO FF [] s.1 s.2) FF=iter (fun s=>PO FF [] s.1 s.2) (G+1+1)from by rw[hG]];exact aX (show PO FF [] _ 0=_ from nG0 (by simp[len]))
      | [x],_=>
        rw[hes]at hev;have hx:=hev x (by simp);obtain⟨c1,g1,g2⟩:=Kz hR0 (x:=x) (kk:=kq) hmI (by omega) (fun hk=>⟨hx.1 hk,hfb⟩) hx.2 Jy (by omega);refine⟨c1,g2,?_⟩;rw[show iter (fun s=>PO FF [x] s.1 s.2) FF=iter (fun s=>PO FF [x] s.1 s.2) (G+1+1)from by rw[hG]];rw[bU (s':=(c1,1)) (show PO FF [x] _ 0=_ from by
         unfold PO;rw[pG0 (by simp[len]),show idx [x] 0=some x from rfl,bs,g1,bs];rfl)]
        exact aX (show PO FF [x] c1 1=_ from nG0 (by simp[len]))
     obtain⟨c1,g1,g2⟩:=hone;obtain⟨c',k1,k2⟩:=JV n F (p+1) (lT w true q qs) c1 L1 r1 (by omega) (by omega) q1 (by omega) g1 (by omega) (by omega);refine⟨c',k1.more (lR _) (by omega),?_⟩;rw[bU (s':=(c1,(n:Int))) (show X6 FF c ((n+1:Nat):Int)=_ from by
      unfold X6;rw[ea,ha,es,pG0 (by simp[len] <;> omega),show idx (q::qs) 0=some q from rfl,bs,bs,hin,bs]
      unfold q80 q7z q7y q7x;rw[ea,ha,xu,bs,g2,bs,hw])]
     exact k2
theorem wI{nn:Nat}{p:Int}{r:Bool->Nat}{L:Bool->List bJ}{w:Wr}{t:bD}{n:Nat}(hn:n<1000000000)(hO:Ord L r w)(hp:phi L w<=100000000)(hR:Rel nn p w t)(h1:1000<=p)(h2:p+n<=1000000000000) :
 ∃c',Rel nn (p+n) (bH n w true) c'/\q3e FF t (n:Int)=some c':=by
 obtain⟨c',g1,g2⟩:=JV n FF p w t L r (by have:=ff;omega) hn hO hp hR h1 h2;unfold q3e;rw[g2,bs];exact⟨c',g1,rfl⟩
end Sy
end V
namespace V
namespace Sy
open St Po
def iX(x:Fe):Ac:=⟨x.bj,x.ae,x.N,x.bQ,x.aU,x.bZ,x.cu,x.aA,x.aw,x.ai⟩
structure UC(x:Fe):Prop where
 side:0<=x.bj
 n:0<=x.N/\x.N<=255
 mq:0<=x.aU
 ok:LP (iX x)
def FL(n:Nat)(w:Wr):Prop:=∀k,(w.f k).length<=n
theorem UY(w:Wr)(k:Bool)(x:gy)(j:Bool):((kQ w k x).f j).length<=(w.f j).length:=by
 unfold kQ;split
 ·exact lR _
 split
 ·exact lR _
 split
 ·split
  ·rename_i f r hf;split
   ·rcases dn j (!k)with hj | hj
    ·rw[hj,(yc w (!k) r).1,hf];simp
    ·have:=(yc w (!k) r).2;rw[hj,this];exact lR _
   ·exact lR _
  ·exact lR _
 split
 ·split <;> exact lR _
 split
 ·split
  ·rw[(eu w k j _).2];exact lR _
  ·show((w.bF k _).f j).length<=_;rw[(eu w k j _).2];exact lR _
 split <;> exact lR _
theorem Me(k j:Bool):∀(n:Nat) (w:Wr) (y:Bool),((dD n w k y).1.f j)=w.f j
 | 0,_,_=>rfl
 | n+1,w,y=>by
   have h1:(Sy.dK w k).1.f j=w.f j:=by
    unfold Sy.dK;split
    ·rw[(iy _ k j _).2,(eu w k j _).2]
    ·exact(eu w k j _).2
   unfold dD;split
   ·rw[Me k j n,h1]
   ·exact h1
theorem TD(k j:Bool):∀(n:Nat) (w:Wr),((bH n w k).f j).length<=(w.f j).length
 | 0,_=>lR _
 | n+1,w=>by
   have h2:∀(es:List gy) (w:Wr),((es.foldl (fun w x=>kQ w (!k) x) w).f j).length<=(w.f j).length:=by
    intro es
    induction es with
    | nil=>intro w;exact lR _
    | cons x es ih=>intro w;exact Nat.le_trans (ih _) (UY w (!k) x j)
   unfold bH;split
   ·exact lR _
   ·rename_i p r _;refine Nat.le_trans (TD k j n _) ?_;unfold lT;refine Nat.le_trans (h2 _ _) ?_;rw[(eu _ (!k) j _).2,(iy w k j r).2];exact lR _
theorem JL{k:Nat}{m:aI}(h:MInv k m)(psm ru mps cr:Int)(h0:(eF m psm ru mps cr).2.2=0):64<=(eF m psm ru mps cr).2.1/\(eF m psm ru mps cr).2.1<=127:=by
 unfold eF at h0 ⊢;split at h0
 ·cases h0
 split at h0
 ·cases h0
 split at h0
 ·cases h0
 rename_i h1 h2 h3;rw[nG0 h1,nG0 h2,nG0 h3];obtain⟨v,_,f2,_,f4,f5⟩:=jr (m:=m) (by omega);simp only
 rw[f2];exact⟨f4,f5⟩
theorem Ug{nn:Nat}{p:Int}{r:Bool->Nat}{L:Bool->List bJ}{w:Wr}{t:bD}{x:Fe}(hs:x.bj%2=0)(hx:UC x)(hO:Ord L r w)(hp:phi L w<=100000000)(hm:pG L w<=1000000000)(hR:Rel nn p w t)(hF:FL nn w)(hn:nn<=1000)(h1:1000<=p)(h2:p<=1000000000) :
 ∃t',q21 FF t x=some t'/\Rel (nn+1) (p+256) (jv w (iX x)) t':=by
 obtain⟨x1,x2,x3,x4⟩:=hx;have hsd:aH (iX x)=false:=by
  show decide (x.bj%2=1)=false;rw[hs];rfl
 have hrm:aK (gU x.bj 2)=0:=by
  have:gU x.bj 2=x.bj%2:=by unfold gU;rw[Int.tmod_eq_emod_of_nonneg x1]
  rw[this,hs];rfl
 have hN:aK x.N=x.N:=bP (by omega) (by omega);have hNn:(x.N.toNat:Int)=x.N:=Int.toNat_of_nonneg x2.1;have hf:=hO.few false;have hI:=(hO.side false).inv;have es:t.ah.1=w.s false:=by rw[hR.ah];rfl
 have ef:t.ar.1=w.f false:=by rw[hR.ar];rfl
 have Ww:Rel (nn+1) (p+256) w t:=hR.more (by omega) (by omega);obtain⟨e1,e2,e3,e4,e5,e6,e7,e8,e9⟩:=hR;have base:∀m:aI,Rel (nn+1) (p+256) (w.bF false m) ({ t with ah:=(m,t.ah.2),ar:=(t.ar.1,t.ar.2) }):=fun m=>by
  refine⟨?_,e2,?_,e4,e5,e6,e7,fun j=>Nat.le_trans (e8 j) (by omega),by show -(p+256)<=w.par/\w.par<=p+256;omega⟩
  ·simp only[e1];rfl
  ·simp only[e3];rfl
 unfold q21 jv;rw[hsd,hrm,pG0 (by rfl)];simp only[show(iX x).ae=x.ae from rfl,show(iX x).bQ=x.bQ from rfl,show(iX x).bZ=x.bZ from rfl,show(iX x).cu=x.cu from rfl,show(iX x).aA=x.aA from rfl,show(iX x).aU=x.aU from rfl,show(iX x).aw=x.aw from rfl,show(iX x).ai=x.ai from rfl,show(iX x).N=x.N from rfl];by_cases k0:x.ae=0
 ·rw[pG0 (by simp[k0]),pG0 k0,es,(uI hI (by omega) x.bQ x.bZ x.cu x.aA x4.psm).1,bs];by_cases hz:(eF (w.s false) x.bQ x.bZ x.cu x.aA).2.2=0
  ·rw[pG0 (by simp[hz]),pG0 hz,nN,bs,rF (JL hI _ _ _ _ hz),bs];unfold qj;have hb:=base (eF (w.s false) x.bQ x.bZ x.cu x.aA).1;refine⟨_,rfl,⟨hb.ah,hb.aM,hb.ar,?_,hb.par,hb.oC,hb.ans,hb.rows,hb.rng⟩⟩;rw[show slot false (eF (w.s false) x.bQ x.bZ x.cu x.aA).2.1=((eF (w.s false) x.bQ x.bZ x.cu x.aA).2.1%64).toNat from by simp[slot]];simp only[e4]
  ·rw[nG0 (by simpa using hz),nG0 hz];exact⟨_,rfl,base _⟩
 rw[nG0 (c:=(x.ae==0)=true) (by simpa using k0),nG0 k0];by_cases k1:x.ae=1
 ·rw[pG0 (by simp[k1]),pG0 k1,es,(oD hI (by omega) x.aU).1,bs];exact⟨_,rfl,base _⟩
 rw[nG0 (c:=(x.ae==1)=true) (by simpa using k1),nG0 k1];by_cases k2:x.ae=2
 ·rw[pG0 (by simp[k2]),pG0 k2,es,(AB hI (by omega) x.aU x.aw (by have:x.aw.length<=4096:=x4.len;omega)).1,bs];by_cases hz:(jB (w.s false) x.aU x.aw).2=0
  ·rw[pG0 (by simp[hz]),pG0 hz,nN,bs,FE x3,bs];have h8:=e8 ((x.aU%64).toNat);rw[dV (by simp;omega) (by omega),bs];unfold qj;have hb:=base (jB (w.s false) x.aU x.aw).1;refine⟨_,rfl,⟨hb.ah,hb.aM,hb.ar,hb.cn,hb.par,hb.oC,hb.ans,lD hb.rows _ (by simp;omega),hb.rng⟩⟩
  ·rw[nG0 (by simpa using hz),nG0 hz];exact⟨_,rfl,base _⟩
 rw[nG0 (c:=(x.ae==2)=true) (by simpa using k2),nG0 k2];by_cases k3:x.ae=3
 ·rw[pG0 (by simp[k3]),pG0 k3,es,(JC hI (by omega) x.aU x.aw).1,bs];by_cases hz:(qD (w.s false) x.aU x.aw).2=0
  ·have hfl:=hF false;rw[pG0 (by simp[hz]),pG0 hz,ef,dV (by simp;omega) (by omega),bs];unfold qj;have hb:=base (qD (w.s false) x.aU x.aw).1;refine⟨_,rfl,⟨hb.ah,hb.aM,?_,hb.cn,hb.par,hb.oC,hb.ans,hb.rows,hb.rng⟩⟩;simp only[e3];rfl
  ·rw[nG0 (by simpa using hz),nG0 hz];exact⟨_,rfl,base _⟩
 rw[nG0 (c:=(x.ae==3)=true) (by simpa using k3),nG0 k3];by_cases k4:x.ae=4
 ·rw[pG0 (by simp[k4]),pG0 k4,es,(xP hI (by omega) x.ai).1,bs];by_cases hz:(jX (w.s false) x.ai).2=0
  ·rw[pG0 (by simp[hz]),pG0 hz];unfold qj;have hb:=base (jX (w.s false) x.ai).1;have hw:aK (t.params+1)=w.par+1:=by rw[e5];exact bP (by omega) (by omega)
   exact⟨_,rfl,⟨hb.ah,hb.aM,hb.ar,hb.cn,hw,hb.oC,hb.ans,hb.rows,by simp only;omega⟩⟩
  ·rw[nG0 (by simpa using hz),nG0 hz];exact⟨_,rfl,base _⟩
 rw[nG0 (c:=(x.ae==4)=true) (by simpa using k4),nG0 k4];by_cases k5:x.ae=5
 ·rw[pG0 (by simp[k5]),pG0 k5,hN];obtain⟨c',g1,g2⟩:=AA (n:=x.N.toNat) (by omega) hO hp hm Ww;rw[hNn]at g2;rw[g2,bs];exact⟨c',rfl,g1⟩
 rw[nG0 (c:=(x.ae==5)=true) (by simpa using k5),nG0 k5];by_cases k6:x.ae=6
 ·rw[pG0 (by simp[k6]),pG0 k6,hN];obtain⟨c',g1,g2⟩:=wJ (n:=x.N.toNat) (by omega) hO hp (⟨e1,e2,e3,e4,e5,e6,e7,e8,e9⟩:Rel nn p w t) h1 (by omega);rw[hNn]at g2;rw[g2,bs];exact⟨c',rfl,g1.more (by omega) (by omega)⟩
 rw[nG0 (c:=(x.ae==6)=true) (by simpa using k6),nG0 k6];by_cases k7:x.ae=7
 ·rw[pG0 (by simp[k7]),pG0 k7,hN,es,DV FF _ x.N ff (hI.sz (by omega)),bs];exact⟨_,rfl,base _⟩
 ·rw[nG0 (by simpa using k7),nG0 k7];unfold qj;exact⟨_,rfl,Ww⟩
theorem Uf{nn:Nat}{p:Int}{r:Bool->Nat}{L:Bool->List bJ}{w:Wr}{t:bD}{x:Fe}(hs:x.bj%2=1)(hx:UC x)(hO:Ord L r w)(hp:phi L w<=100000000)(hm:pG L w<=1000000000)(hR:Rel nn p w t)(hF:FL nn w)(hn:nn<=1000)(h1:1000<=p)(h2:p<=1000000000) :
 ∃t',q21 FF t x=some t'/\Rel (nn+1) (p+256) (jv w (iX x)) t':=by
 obtain⟨x1,x2,x3,x4⟩:=hx;have hsd:aH (iX x)=true:=by
  show decide (x.bj%2=1)=true;rw[hs];rfl
 have hrm:aK (gU x.bj 2)=1:=by
  have:gU x.bj 2=x.bj%2:=by unfold gU;rw[Int.tmod_eq_emod_of_nonneg x1]
  rw[this,hs];rfl
 have hN:aK x.N=x.N:=bP (by omega) (by omega);have hNn:(x.N.toNat:Int)=x.N:=Int.toNat_of_nonneg x2.1;have hf:=hO.few true;have hI:=(hO.side true).inv;have es:t.ah.2=w.s true:=by rw[hR.ah];rfl
 have ef:t.ar.2=w.f true:=by rw[hR.ar];rfl
 have Ww:Rel (nn+1) (p+256) w t:=hR.more (by omega) (by omega);obtain⟨e1,e2,e3,e4,e5,e6,e7,e8,e9⟩:=hR;have base:∀m:aI,Rel (nn+1) (p+256) (w.bF true m) ({ t with ah:=(t.ah.1,m),ar:=(t.ar.1,t.ar.2) }):=fun m=>by
  refine⟨?_,e2,?_,e4,e5,e6,e7,fun j=>Nat.le_trans (e8 j) (by omega),by show -(p+256)<=w.par/\w.par<=p+256;omega⟩
  ·simp only[e1];rfl
  ·simp only[e3];rfl
 unfold q21 jv;rw[hsd,hrm,nG0 (by decide),pG0 (by rfl)];simp only[show(iX x).ae=x.ae from rfl,show(iX x).bQ=x.bQ from rfl,show(iX x).bZ=x.bZ from rfl,show(iX x).cu=x.cu from rfl,show(iX x).aA=x.aA from rfl,show(iX x).aU=x.aU from rfl,show(iX x).aw=x.aw from rfl,show(iX x).ai=x.ai from rfl,show(iX x).N=x.N from rfl];by_cases k0:x.ae=0
 ·rw[pG0 (by simp[k0]),pG0 k0,es,(uI hI (by omega) x.bQ x.bZ x.cu x.aA x4.psm).1,bs];by_cases hz:(eF (w.s true) x.bQ x.bZ x.cu x.aA).2.2=0
  ·rw[pG0 (by simp[hz]),pG0 hz,nN,bs,rF (JL hI _ _ _ _ hz),bs];unfold qk;have hb:=base (eF (w.s true) x.bQ x.bZ x.cu x.aA).1;refine⟨_,rfl,⟨hb.ah,hb.aM,hb.ar,?_,hb.par,hb.oC,hb.ans,hb.rows,hb.rng⟩⟩;rw[show slot true (eF (w.s true) x.bQ x.bZ x.cu x.aA).2.1=64+((eF (w.s true) x.bQ x.bZ x.cu x.aA).2.1%64).toNat from by simp[slot]];simp only[e4]
  ·rw[nG0 (by simpa using hz),nG0 hz];exact⟨_,rfl,base _⟩
 rw[nG0 (c:=(x.ae==0)=true) (by simpa using k0),nG0 k0];by_cases k1:x.ae=1
 ·rw[pG0 (by simp[k1]),pG0 k1,es,(oD hI (by omega) x.aU).1,bs];exact⟨_,rfl,base _⟩
 rw[nG0 (c:=(x.ae==1)=true) (by simpa using k1),nG0 k1];by_cases k2:x.ae=2
 ·rw[pG0 (by simp[k2]),pG0 k2,es,(AB hI (by omega) x.aU x.aw (by have:x.aw.length<=4096:=x4.len;omega)).1,bs];by_cases hz:(jB (w.s true) x.aU x.aw).2=0
  ·rw[pG0 (by simp[hz]),pG0 hz,nN,bs,FE x3,bs];have h8:=e8 (64+(x.aU%64).toNat);rw[dV (by simp;omega) (by omega),bs];unfold qk;have hb:=base (jB (w.s true) x.aU x.aw).1;refine⟨_,rfl,⟨hb.ah,hb.aM,hb.ar,hb.cn,hb.par,hb.oC,hb.ans,lD hb.rows _ (by simp;omega),hb.rng⟩⟩
  ·rw[nG0 (by simpa using hz),nG0 hz];exact⟨_,rfl,base _⟩
 rw[nG0 (c:=(x.ae==2)=true) (by simpa using k2),nG0 k2];by_cases k3:x.ae=3
 ·rw[pG0 (by simp[k3]),pG0 k3,es,(JC hI (by omega) x.aU x.aw).1,bs];by_cases hz:(qD (w.s true) x.aU x.aw).2=0
  ·have hfl:=hF true;rw[pG0 (by simp[hz]),pG0 hz,ef,dV (by simp;omega) (by omega),bs];unfold qk;have hb:=base (qD (w.s true) x.aU x.aw).1;refine⟨_,rfl,⟨hb.ah,hb.aM,?_,hb.cn,hb.par,hb.oC,hb.ans,hb.rows,hb.rng⟩⟩;simp only[e3];rfl
  ·rw[nG0 (by simpa using hz),nG0 hz];exact⟨_,rfl,base _⟩
 rw[nG0 (c:=(x.ae==3)=true) (by simpa using k3),nG0 k3];by_cases k4:x.ae=4
 ·rw[pG0 (by simp[k4]),pG0 k4,es,(xP hI (by omega) x.ai).1,bs];by_cases hz:(jX (w.s true) x.ai).2=0
  ·rw[pG0 (by simp[hz]),pG0 hz];unfold qk;have hb:=base (jX (w.s true) x.ai).1;have hw:aK (t.params+1)=w.par+1:=by rw[e5];exact bP (by omega) (by omega)
   exact⟨_,rfl,⟨hb.ah,hb.aM,hb.ar,hb.cn,hw,hb.oC,hb.ans,hb.rows,by simp only;omega⟩⟩
  ·rw[nG0 (by simpa using hz),nG0 hz];exact⟨_,rfl,base _⟩
 rw[nG0 (c:=(x.ae==4)=true) (by simpa using k4),nG0 k4];by_cases k5:x.ae=5
 ·rw[pG0 (by simp[k5]),pG0 k5,hN];obtain⟨c',g1,g2⟩:=Az (n:=x.N.toNat) (by omega) hO hp hm Ww;rw[hNn]at g2;rw[g2,bs];exact⟨c',rfl,g1⟩
 rw[nG0 (c:=(x.ae==5)=true) (by simpa using k5),nG0 k5];by_cases k6:x.ae=6
 ·rw[pG0 (by simp[k6]),pG0 k6,hN];obtain⟨c',g1,g2⟩:=wI (n:=x.N.toNat) (by omega) hO hp (⟨e1,e2,e3,e4,e5,e6,e7,e8,e9⟩:Rel nn p w t) h1 (by omega);rw[hNn]at g2;rw[g2,bs];exact⟨c',rfl,g1.more (by omega) (by omega)⟩
 rw[nG0 (c:=(x.ae==6)=true) (by simpa using k6),nG0 k6];by_cases k7:x.ae=7
 ·rw[pG0 (by simp[k7]),pG0 k7,hN,es,DV FF _ x.N ff (hI.sz (by omega)),bs];exact⟨_,rfl,base _⟩
 ·rw[nG0 (by simpa using k7),nG0 k7];unfold qk;exact⟨_,rfl,Ww⟩
end Sy
end V
namespace V
namespace Sy
open St Po
theorem Xl{nn:Nat}{p:Int}{r:Bool->Nat}{L:Bool->List bJ}{w:Wr}{t:bD}{x:Fe}(hx:UC x)(hO:Ord L r w)(hp:phi L w<=100000000)(hm:pG L w<=1000000000)(hR:Rel nn p w t)(hF:FL nn w)(hn:nn<=1000)(h1:1000<=p)(h2:p<=1000000000) :
 ∃t',q21 FF t x=some t'/\Rel (nn+1) (p+256) (jv w (iX x)) t':=by
 rcases(by omega:x.bj%2=0∨x.bj%2=1)with h | h
 ·exact Ug h hx hO hp hm hR hF hn h1 h2
 ·exact Uf h hx hO hp hm hR hF hn h1 h2
theorem aby{nn:Nat}{w:Wr}(h:FL nn w)(x:Ac):FL (nn+1) (jv w x):=fun k=>by
 have hk:=h k;unfold jv;split
 ·split
  ·show((w.bF _ _).f k).length<=_;rw[(eu w _ k _).2];omega
  ·rw[(eu w _ k _).2];omega
 split
 ·rw[(eu w _ k _).2];omega
 split
 ·split
  ·show((w.bF _ _).f k).length<=_;rw[(eu w _ k _).2];omega
  ·rw[(eu w _ k _).2];omega
 split
 ·split
  ·rcases dn k (aH x)with hj | hj
   ·rw[hj,(yc _ _ _).1,lA];have:=h (aH x);simp only[List.length_singleton];omega
   ·rw[hj,(yc _ _ _).2,(eu w _ _ _).2];have:=h (!aH x);omega
  ·rw[(eu w _ k _).2];omega
 split
 ·split
  ·show((w.bF _ _).f k).length<=_;rw[(eu w _ k _).2];omega
  ·rw[(eu w _ k _).2];omega
 split
 ·rw[Me];omega
 split
 ·exact Nat.le_trans (TD _ _ _ _) (by omega)
 split
 ·rw[(eu w _ k _).2];omega
 ·omega
theorem Nj{l:List Fe}{dP:uS}(hl:dP.eP=l)(h60:l.length<=60)(hg:∀x∈l,UC x):∀(l2:List Fe) (i F:Nat) (p:Int) (w:Wr) (c:bD) (L:Bool->List bJ) (r:Bool->Nat),l=l.take i++l2->i+l2.length=l.length->l2.length<F->Ord L r w->phi L w+(l2.map fun x=>cost (iX x)).sum<=100000000->pG L w+2*(l2.map fun x=>cost (iX x)).sum<=1000000000->Rel i p w c->FL i w->1000<=p->p+256*l2.length<=1000000000->
 ∃c',Rel l.length (p+256*l2.length) ((l2.map iX).foldl jv w) c'/\iter (fun s=>VA FF dP s.1 s.2) F (c,(i:Int))=some c'
 | [],i,F,p,w,c,L,r,h1,h2,h3,_,_,_,hR,_,_,_=>by
   obtain⟨F,rfl⟩:∃G,F=G+1:=⟨F-1,by omega⟩;refine⟨c,hR.more (by simp at h2;omega) (by simp),aX (show VA FF dP c (i:Int)=_ from ?_)⟩;unfold VA;rw[hl,nG0 (by simp[len];simp at h2;omega)]
 | x::l2,i,F,p,w,c,L,r,h1,h2,h3,hO,hp,hm,hR,hF,Jy,hpp=>by
   obtain⟨F,rfl⟩:∃G,F=G+1:=⟨F-1,by omega⟩;simp only[mC,List.sum_cons,lC0]at hp hm h2 h3 hpp ⊢;have hx:l[i]? = some x:=by
    have h4:(l.take i).length=i:=by rw[lT0];omega
    have h5:(l.take i++x::l2)[i]? = some x:=by
     rw[List.getElem?_append_right (by omega),h4];simp
    rw[← h1]at h5;exact h5
   have hxg:=hg x (List.mem_of_getElem? hx);obtain⟨c1,g1,g2⟩:=Xl hxg hO (by omega) (by omega) hR hF (by omega) Jy (by omega);obtain⟨L1,r1,q1,q2,q3,_⟩:=GZ hO (by omega) hxg.ok;obtain⟨c',k1,k2⟩:=Nj hl h60 hg l2 (i+1) F (p+256) (jv w (iX x)) c1 L1 r1 (by
    have h4:l.take (i+1)=l.take i++[x]:=(jc hx).symm;rw[h4,List.append_assoc];exact h1) (by omega) (by omega) q1 (by omega) (by omega) g2 (aby hF _) (by omega) (by omega)
   refine⟨c',k1.more (lR _) (by omega),?_⟩;have hw:aK ((i:Int)+1)=((i+1:Nat):Int):=wN i (by omega);rw[bU (s':=(c1,((i+1:Nat):Int))) (show VA FF dP c (i:Int)=_ from by
    unfold VA;rw[hl,pG0 (by simp[len];omega),bg hx,bs,g1,bs,hw])]
   exact k2
theorem Q6{nn:Nat}{p:Int}{w:Wr}{c:bD}{L:Bool->List bJ}{r:Bool->Nat}(hO:Ord L r w)(hp:phi L w<=100000000)(hm:pG L w<=1000000000)(hR:Rel nn p w c)(h1:1000<=p)(h2:p<=100000000000){i:Int}(hi:i<20000)(h0:0<=i) :
 ∃c',Rel nn (p+200) (iA w).1 c'/\q22 FF c i=some (if vE w=true then .done (.inr (c',true))else .next (c',i+1)):=by
 obtain⟨L1,r1,a1,a2,a3,a4,a5,_⟩:=jm false 100 L r w hO hp;obtain⟨L2,r2,b1,b2,b3,b4,b5,_⟩:=jm true 100 L1 r1 (bH 100 w false) a1 (by omega);obtain⟨L3,d1,d2,d3,_⟩:=mG false 20 L2 (FP w) false b1 (show phi L2 (bH 100 (bH 100 w false) true)<=_ by omega);rw[show FP w=bH 100 (bH 100 w false) true from rfl]at d1 d2 d3;obtain⟨c1,g1,g2⟩:=wJ (n:=100) (by omega) hO hp hR h1 (by omega);obtain⟨c2,g3,g4⟩:=wI (n:=100) (by omega) a1 (by omega) g1 (by omega) (by omega);obtain⟨c3,g5,g6⟩:=AA (n:=20) (by omega) b1 (by omega) (by omega) g3;obtain⟨c4,g7,g8⟩:=Az (n:=20) (by omega) d1 (by omega) (by omega) g5;have e2:xI w=dD 20 (bH 100 (bH 100 w false) true) false false:=rfl;have e3:iA w=dD 20 (xI w).1 true false:=rfl;have hR4:Rel nn (p+200) (iA w).1 c4:=(by rw[e3,e2];exact g7.more (lR _) (by omega));refine⟨c4,hR4,?_⟩;have hw:aK (i+1)=i+1:=bP (by omega) (by omega);unfold q22;rw[pG0 (by simpa using hi)];rw[show(100:Int)=((100:Nat):Int)from rfl,show(20:Int)=((20:Nat):Int)from rfl,g2,bs,g4,bs,g6,bs];rw[g8,bs];unfold q6b;have ha:c4.aM=((iA w).1.a0,(iA w).1.a1):=hR4.aM;have hlen:(iA w).1.a0.length+(iA w).1.a1.length<=1000000000:=by
  obtain⟨L4,_,_,f3,_⟩:=mG true 20 L3 (dD 20 (bH 100 (bH 100 w false) true) false false).1 false d1 (by omega);have:aM (iA w).1=(iA w).1.a0.length+(iA w).1.a1.length:=rfl;have hq:pG L4 (iA w).1<=1000000000:=by
   rw[e3,e2];omega
  unfold pG at hq;omega
 have hz:(aK (len c4.aM.1+len c4.aM.2)==0)=(((iA w).1.a false).length+((iA w).1.a true).length==0):=by
  rw[ha];simp only[len];rw[bP (by omega) (by omega)];show((((iA w).1.a0.length:Int)+((iA w).1.a1.length:Int))==0)=((iA w).1.a0.length+(iA w).1.a1.length==0);rw[Bool.eq_iff_iff];simp only[beq_iff_eq];omega
 have hr:vE w=(!(dD 20 (bH 100 (bH 100 w false) true) false false).2&&(!(dD 20 (dD 20 (bH 100 (bH 100 w false) true) false false).1 true false).2&&(((iA w).1.a false).length+((iA w).1.a true).length==0))):=rfl;simp only
 rw[hz,hr,hw];cases (dD 20 (bH 100 (bH 100 w false) true) false false).2 <;> cases (dD 20 (dD 20 (bH 100 (bH 100 w false) true) false false).1 true false).2 <;> cases (((iA w).1.a false).length+((iA w).1.a true).length==0) <;> rfl
theorem MJ{nn:Nat}:∀(n i F:Nat) (p:Int) (w:Wr) (c:bD) (L:Bool->List bJ) (r:Bool->Nat),i+n=20000->n<F->Ord L r w->phi L w<=100000000->pG L w<=1000000000->Rel nn p w c->1000<=p->p+200*n<=100000000000->
 ∃c',Rel nn (p+200*n) (iW n w).1 c'/\iter (fun s=>q22 FF s.1 s.2) F (c,(i:Int))=some (if (iW n w).2=true then .inr (c',true)else .inl c')
 | 0,i,F,p,w,c,L,r,hi,hF,_,_,_,hR,_,_=>by
   obtain⟨F,rfl⟩:∃G,F=G+1:=⟨F-1,by omega⟩;have hq:q22 FF c (i:Int)=some (.done (.inl c)):=by
    unfold q22;exact nG0 fun h=>by
     have:=of_decide_eq_true h;omega
   exact⟨c,hR.more (lR _) (by omega),aX hq⟩
 | n+1,i,F,p,w,c,L,r,hi,hF,hO,hp,hm,hR,h1,h2=>by
   obtain⟨F,rfl⟩:∃G,F=G+1:=⟨F-1,by omega⟩;obtain⟨L',r',q1,q2,q3,q4,_⟩:=xH hO hp;obtain⟨c1,g1,g2⟩:=Q6 (i:=(i:Int)) hO hp hm hR h1 (by omega) (by omega) (by omega);unfold iW;by_cases hr:vE w=true
   ·rw[pG0 hr];rw[pG0 hr]at g2;exact⟨c1,g1.more (lR _) (by omega),aX g2⟩
   ·rw[nG0 hr];rw[nG0 hr]at g2;have h3:=q3 (by simpa using hr);obtain⟨c',k1,k2⟩:=MJ n (i+1) F (p+200) (iA w).1 c1 L' r' (by omega) (by omega) q1 (by omega) (by omega) g1 (by omega) (by omega);refine⟨c',k1.more (lR _) (by omega),?_⟩;exact(bU (body:=fun s=>q22 FF s.1 s.2) (s:=(c,(i:Int))) g2).trans k2
end Sy
end V
namespace V
namespace Sy
open St Po
theorem Jg{dP:uS}:∀(d i F:Nat) (n:Int),i+d=min dP.eP.length 60->d<F->0<=n->n<=4096*i->
 (∃m:Int,iter (fun s=>qy FF dP s.1 s.2) F (n,(i:Int))=some (.inl m)/\m=n+(((dP.eP.take 60).drop i).map fun x=>(x.aw.length:Int)).sum/\∀x∈(dP.eP.take 60).drop i,x.aw.length<=4096)∨iter (fun s=>qy FF dP s.1 s.2) F (n,(i:Int))=some (.inr false)
 | 0,i,F,n,h,hF,h0,h1=>by
   obtain⟨F,rfl⟩:∃G,F=G+1:=⟨F-1,by omega⟩;have hd:(dP.eP.take 60).drop i=[]:=List.drop_of_length_le (by rw[lT0];omega);refine .inl ⟨n,aX (show qy FF dP n (i:Int)=_ from ?_),by rw[hd];simp,by rw[hd];simp⟩;unfold qy;rw[nG0];have hl:=lN dP.eP;simp only[Bool.and_eq_true,decide_eq_true_eq];omega
 | d+1,i,F,n,h,hF,h0,h1=>by
   obtain⟨F,rfl⟩:∃G,F=G+1:=⟨F-1,by omega⟩;have hi:i<dP.eP.length:=by omega
   obtain⟨x,hx⟩:∃x,dP.eP[i]? = some x:=⟨_,gE hi⟩;have hdr:(dP.eP.take 60).drop i=x::(dP.eP.take 60).drop (i+1):=by
    have hl:i<(dP.eP.take 60).length:=by rw[lT0];omega
    rw[List.drop_eq_getElem_cons hl];congr 1;rw[List.getElem_take];rw[gE hi]at hx;injection hx
   have hw:aK ((i:Int)+1)=((i+1:Nat):Int):=wN i (by omega);have hif:((decide ((i:Int)<len dP.eP))&&decide ((i:Int)<60))=true:=by
    have hl:=lN dP.eP;simp only[Bool.and_eq_true,decide_eq_true_eq];omega
   by_cases hb:(len x.aw)>4096
   ·refine .inr (aX (show qy FF dP n (i:Int)=_ from ?_));unfold qy;rw[pG0 hif,bg hx,bs,pG0 (by simpa using hb)]
   ·have hb':x.aw.length<=4096:=by simp only[len]at hb;omega
    have hn:aK (n+len x.aw)=n+(x.aw.length:Int):=by
     simp only[len];exact bP (by omega) (by omega)
    have hs:qy FF dP n (i:Int)=some (.next (n+(x.aw.length:Int),((i+1:Nat):Int))):=by
     unfold qy;rw[pG0 hif,bg hx,bs,nG0 (by simpa using hb),bs,hn,hw]
    rcases Jg (dP:=dP) d (i+1) F (n+(x.aw.length:Int)) (by omega) (by omega) (by omega) (by omega)with⟨m,g1,g2,g3⟩ | g
    ·refine .inl ⟨m,?_,?_,?_⟩
     ·rw[bU (body:=fun s=>qy FF dP s.1 s.2) (s:=(n,(i:Int))) hs];exact g1
     ·rw[hdr,g2,mC,List.sum_cons];omega
     ·rw[hdr];intro y hy;rcases List.mem_cons.1 hy with rfl | hy
      ·exact hb'
      ·exact g3 y hy
    ·refine .inr ?_;rw[bU (body:=fun s=>qy FF dP s.1 s.2) (s:=(n,(i:Int))) hs];exact g
theorem U4(l:List Fe):(l.map fun x=>(x.aw.length:Int)).sum=((l.map fun x=>x.aw.length).sum:Nat):=by
 induction l with
 | nil=>rfl
 | cons x l ih=>simp only[mC,List.sum_cons,ih];omega
theorem Rz(dP:uS):∃b,q3y FF dP=some b/\(b=true->dP.eP.length<=60/\(∀x∈dP.eP,x.aw.length<=4096)/\(dP.eP.map fun x=>x.aw.length).sum<=4096/\dP.ak.1.length<=10/\dP.ak.2.length<=10):=by
 unfold q3y;rcases Jg (dP:=dP) (min dP.eP.length 60) 0 FF 0 (by omega) (by have:=ff;omega) (by omega) (by omega)with⟨m,g1,g2,g3⟩ | g
 ·rw[show((0:Nat):Int)=0 from rfl]at g1;rw[g1,bs];unfold q6d;refine⟨_,rfl,fun h=>?_⟩;have hl:=lN dP.eP;have hl1:=lN dP.ak.1;have hl2:=lN dP.ak.2;simp only[Bool.and_eq_true,decide_eq_true_eq]at h;obtain⟨⟨⟨h1,h2⟩,h3⟩,h4⟩:=h;have ht:dP.eP.take 60=dP.eP:=List.take_of_length_le (by omega);rw[List.drop_zero,ht]at g2 g3;rw[U4]at g2;exact⟨by omega,g3,by omega,by omega,by omega⟩
 ·rw[show((0:Nat):Int)=0 from rfl]at g;rw[g,bs];exact⟨false,rfl,fun h=>by cases h⟩
def l5:aI:=⟨0,0,[],[],[],0,⟨false,[]⟩,[],0,0⟩
def w0(s0 s1:aI):bD:=⟨(s0,s1),([],[]),fun _=>[],([],[]),fun _=>false,0,false,false,false⟩
theorem Og(dP:uS):(iter (fun s=>qi FF dP s.1 s.2) FF (w0 l5 l5,0)=some (.inl (w0 { (gV 0 dP.ak.1).1 with Length:=dP.bL.1 } { (gV 1 dP.ak.2).1 with Length:=dP.bL.2 }))/\(gV 0 dP.ak.1).2=0/\(gV 1 dP.ak.2).2=0)∨
 ((∃c,iter (fun s=>qi FF dP s.1 s.2) FF (w0 l5 l5,0)=some (.inr (c,false)))/\((gV 0 dP.ak.1).2≠0∨(gV 1 dP.ak.2).2≠0)):=by
 obtain⟨G,hG⟩:∃G,FF=G+3:=⟨FF-3,by have:=ff;omega⟩;have hFF:1000<FF:=by have:=ff;omega
 have hit:∀s:bD×Int,iter (fun s=>qi FF dP s.1 s.2) FF s=iter (fun s=>qi FF dP s.1 s.2) (G+1+1+1) s:=fun s=>by rw[hG]
 rw[hit];by_cases h0:(gV 0 dP.ak.1).2=0
 ·have s1:qi FF dP (w0 l5 l5) 0=some (.next (w0 { (gV 0 dP.ak.1).1 with Length:=dP.bL.1 } l5,1)):=by
   unfold qi;rw[pG0 (by decide),pG0 (by decide),F6 FF 0 _ hFF,bs,nG0 (by simp[h0])];rfl
  rw[bU (body:=fun s=>qi FF dP s.1 s.2) (s:=(w0 l5 l5,0)) s1];by_cases h1:(gV 1 dP.ak.2).2=0
  ·refine .inl ⟨?_,h0,h1⟩;have s2:qi FF dP (w0 { (gV 0 dP.ak.1).1 with Length:=dP.bL.1 } l5) 1=some (.next (w0 { (gV 0 dP.ak.1).1 with Length:=dP.bL.1 } { (gV 1 dP.ak.2).1 with Length:=dP.bL.2 },2)):=by
    unfold qi;rw[pG0 (by decide),nG0 (by decide),pG0 (by decide),F6 FF 1 _ hFF,bs,nG0 (by simp[h1])];rfl
   rw[bU (body:=fun s=>qi FF dP s.1 s.2) (s:=(w0 { (gV 0 dP.ak.1).1 with Length:=dP.bL.1 } l5,1)) s2];have s3:qi FF dP (w0 { (gV 0 dP.ak.1).1 with Length:=dP.bL.1 } { (gV 1 dP.ak.2).1 with Length:=dP.bL.2 }) 2=some (.done (.inl (w0 { (gV 0 dP.ak.1).1 with Length:=dP.bL.1 } { (gV 1 dP.ak.2).1 with Length:=dP.bL.2 }))):=nG0 (by decide);exact aX (body:=fun s=>qi FF dP s.1 s.2) s3
  ·refine .inr ⟨?_,.inr h1⟩;have s2:∃c,qi FF dP (w0 { (gV 0 dP.ak.1).1 with Length:=dP.bL.1 } l5) 1=some (.done (.inr (c,false))):=by
    unfold qi;rw[pG0 (by decide),nG0 (by decide),pG0 (by decide),F6 FF 1 _ hFF,bs,pG0 (by simpa using h1)];exact⟨_,rfl⟩
   obtain⟨c,s2⟩:=s2;exact⟨c,aX (body:=fun s=>qi FF dP s.1 s.2) s2⟩
 ·refine .inr ⟨?_,.inl h0⟩;have s1:∃c,qi FF dP (w0 l5 l5) 0=some (.done (.inr (c,false))):=by
   unfold qi;rw[pG0 (by decide),pG0 (by decide),F6 FF 0 _ hFF,bs,pG0 (by simpa using h0)];exact⟨_,rfl⟩
  obtain⟨c,s1⟩:=s1;exact⟨c,aX (body:=fun s=>qi FF dP s.1 s.2) s1⟩
def Ny(dP:uS):Prop:=∀x∈dP.eP,0<=x.bj/\(0<=x.N/\x.N<=255)/\0<=x.aU/\(0<=x.bQ/\x.bQ<=65535)/\∀b∈x.aw,Byte b
theorem Z4{dP:uS}(hg:Ny dP)(h60:dP.eP.length<=60)(hb:∀x∈dP.eP,x.aw.length<=4096)(hsum:(dP.eP.map fun x=>x.aw.length).sum<=4096) :
 ((∃c,q3v FF dP=some (c,false))/\q58 FF dP=some true)∨
 ∃c nn p,q3v FF dP=some (c,true)/\(gV 0 dP.ak.1).2=0/\(gV 1 dP.ak.2).2=0/\Rel nn p (iW 20000 ((dP.eP.map iX).foldl jv (fQ dP.ak.1 dP.ak.2 dP.bL.1 dP.bL.2))).1 c:=by
 have hFF:1000<FF:=by have:=ff;omega
 have hag:∀x∈dP.eP,UC x:=fun x hx=>by
  obtain⟨a1,a2,a3,a4,a5⟩:=hg x hx;exact⟨a1,a2,a3,⟨a4,hb x hx,a5⟩⟩
 have hrun:q3v FF dP=(iter (fun s=>qi FF dP s.1 s.2) FF (w0 l5 l5,0)).bind fun o=>(match o with
  | .inl u=>q6c FF dP u
  | .inr u=>some u):=rfl
 rw[hrun];rcases Og dP with⟨h1,n0,n1⟩ | ⟨⟨c,h1⟩,h2⟩
 ·refine .inr ?_;rw[h1,bs];simp only
  unfold q6c;obtain⟨i1,i2,i3⟩:=Ck dP.bL.1 dP.bL.2 n0 n1;have hm:pG (fun _=>[]) (fQ dP.ak.1 dP.ak.2 dP.bL.1 dP.bL.2)=0:=by unfold pG;omega
  have hc:=wE (dP.eP.map iX);have hce:(dP.eP.map fun x=>cost (iX x))=(dP.eP.map iX).map cost:=by rw[List.map_map];rfl
  have hbe:((dP.eP.map iX).map fun x=>x.aw.length)=dP.eP.map fun x=>x.aw.length:=by rw[List.map_map];rfl
  rw[hbe,List.length_map]at hc;have hR0:Rel 0 1000 (fQ dP.ak.1 dP.ak.2 dP.bL.1 dP.bL.2) (w0 { (gV 0 dP.ak.1).1 with Length:=dP.bL.1 } { (gV 1 dP.ak.2).1 with Length:=dP.bL.2 }):=⟨rfl,rfl,rfl,rfl,rfl,rfl,rfl,fun _=>lR _,by show -1000<=(0:Int)/\(0:Int)<=1000;omega⟩;obtain⟨c1,g1,g2⟩:=Nj (dP:=dP) rfl h60 hag dP.eP 0 FF 1000 _ _ _ _ (by simp) (by simp) (by have:=ff;omega) i1 (by rw[hce];omega) (by rw[hce];omega) hR0 (fun k=>by cases k <;> exact lR _) (by omega) (by omega)
  obtain⟨L,r,q1,q2,q3,_⟩:=wL (dP.eP.map iX) _ _ _ i1 (fun x hx=>by
   obtain⟨y,hy,rfl⟩:=List.mem_map.1 hx;exact(hag y hy).ok) (by omega)
  obtain⟨c2,k1,k2⟩:=MJ 20000 0 FF _ _ c1 L r (by omega) (by have:=ff;omega) q1 (by omega) (by omega) g1 (by omega) (by omega);have aeD:=(DC dP.bL.1 dP.bL.2 n0 n1 (dP.eP.map iX) (fun x hx=>by
   obtain⟨y,hy,rfl⟩:=List.mem_map.1 hx;exact(hag y hy).ok) (by rw[List.length_map];exact h60) (by rw[hbe];exact hsum)).1
  rw[aeD,pG0 rfl]at k2;rw[show((0:Nat):Int)=0 from rfl]at g2 k2;have g2':iter (fun s=>VA FF dP s.1 s.2) FF ({ w0 { (gV 0 dP.ak.1).1 with Length:=dP.bL.1 } { (gV 1 dP.ak.2).1 with Length:=dP.bL.2 }with aM:=(([]:List eH),([]:List eH)),ar:=(([]:List bJ),([]:List bJ)),params:=0,data:=false,frame:=false,answer:=false },0)=some c1:=g2;rw[g2',bs];unfold q81;rw[k2,bs];exact⟨c2,_,_,rfl,n0,n1,k1⟩
 ·refine .inl ⟨⟨c,by rw[h1,bs]⟩,?_⟩;unfold q58;rw[Mg FF 0 _ hFF,bs,Mg FF 1 _ hFF,bs];congr 1;simp only[Bool.or_eq_true,bne_iff_ne];exact h2
end Sy
open Sy
end V
namespace V
namespace Sy
open St Po
theorem Iu{k j:Bool}{u v:Int}(hu:64<=u/\u<=127)(hv:64<=v/\v<=127)(h:slot k u=slot j v):k=j/\u=v:=by
 unfold slot at h;cases k <;> cases j <;> simp at h ⊢ <;> omega
theorem Md{α:Type}(f:Nat->α)(i:Nat)(x:α)(j:Nat):aF f i x j=if j=i then x else f j:=rfl
theorem Uj(m:aI):uf m (gq m).1:=by
 unfold gq;split
 ·exact .refl m
 ·refine .same ?_;unfold jA;split <;> rfl
theorem Xn(m:aI):uf m (tJ m):=by
 unfold tJ;split
 ·exact Xv m
 ·exact .refl m
theorem Xp(m:aI):uf m (iD m).1:=(Xn m).trans (Uj (tJ m))
end Sy
end V
namespace V
namespace St
def n18(m:aI):Nat:=(m.aB.filter fun s=>s.ae==18).length
def ug(m m':aI):Prop:=n18 m'=n18 m
theorem ug.refl(m:aI):ug m m:=rfl
theorem ug.same{m m':aI}(h:m'.aB=m.aB):ug m m':=by unfold ug n18;rw[h]
theorem ug.trans{a b c:aI}(h:ug a b)(g:ug b c):ug a c:=Eq.trans g h
theorem MB(m:aI)(s:aQ):n18 (nk m s)=n18 m+(if s.ae=18 then 1 else 0):=by
 unfold n18 nk;rw[List.filter_append,lA];by_cases h:s.ae=18 <;> simp[List.filter_cons,fK,h]
theorem Nl(m:aI)(s:aQ)(h:s.ae≠18):ug m (nk m s):=by
 unfold ug;rw[MB,nG0 h];rfl
theorem Hf(m:aI)(c:aT):ug m (lX m c):=by
 unfold lX;split
 ·exact .refl m
 ·exact Nl m _ (by simp only;omega)
theorem Us(m:aI)(psm ru mps cr:Int):ug m (eF m psm ru mps cr).1:=by
 unfold eF
 (repeat' split) <;> first | exact .refl m | exact Nl m _ (by simp only;omega)
theorem Un(m:aI)(n:Int)(b:List Int):ug m (jB m n b).1:=by
 unfold jB
 (repeat' split) <;> exact .same rfl
theorem Xy(m:aI)(n:Int)(b:List Int):ug m (qD m n b).1:=by
 unfold qD
 (repeat' split) <;> exact .same rfl
theorem VZ(m:aI)(u:jF):n18 (jX m u).1=n18 m+(if (jX m u).2=0 then 1 else 0)/\((jX m u).2=0->m.iY=1):=by
 unfold jX;split
 ·exact⟨rfl,fun e=>by cases e⟩
 rename_i h1;split
 ·rename_i h2;exact⟨by simp[h2],fun e=>absurd e h2⟩
 split
 ·exact⟨rfl,fun e=>by cases e⟩
 split
 ·exact⟨rfl,fun e=>by cases e⟩
 ·exact⟨by simp only;rw[MB];rfl,fun _=>Decidable.not_not.1 h1⟩
theorem Xw(m:aI)(id r:Int):ug m (kg m id r).1:=by
 unfold kg
 (repeat' split) <;> exact .same rfl
theorem XA(m:aI)(s:aQ):ug m (nL m s).1:=by
 unfold nL
 (repeat' split) <;> exact .same rfl
theorem Uq(m:aI)(s:aQ):ug m (jV m s).1:=by
 unfold jV
 (repeat' split) <;> exact .same rfl
theorem Uo(m:aI)(s:aQ):ug m (jC m s).1:=by
 unfold jC
 (repeat' split) <;> exact .same rfl
theorem Xz(m:aI)(s:aQ):ug m (uH m s):=by
 unfold uH;split
 ·exact .refl m
 ·split
  ·exact .refl m
  split
  ·exact(ug.same (m:=m) rfl).trans (Hf _ _)
  ·exact .same rfl
theorem Ur(m:aI)(i:Nat)(c:aT)(b:List Int):ug m (kS m i c b).1:=by
 unfold kS;split
 ·exact(ug.same (m:=m) rfl).trans (Hf _ _)
 split
 ·exact .same rfl
 ·exact .same rfl
theorem Fb(l:List aT)(fr:List (List (List Int)))(rd:Nat)(m:aI):∀n,ug m (fG l fr rd m n)
 | 0=>.refl m
 | n+1=>by
   rw[jf];refine(Fb l fr rd m n).trans ?_;unfold Kk
   (repeat' split) <;> exact .same rfl
theorem CQ(l:List aT)(fr:List (List (List Int)))(m:aI):∀n,ug m (iw l fr m n)
 | 0=>.refl m
 | n+1=>by
   rw[iN];exact(CQ l fr m n).trans (Fb l fr n _ _)
theorem XB(m:aI):ug m (uJ m):=by
 unfold uJ;exact(ug.same (m:=m) rfl).trans (CQ _ _ _ _)
theorem Rt(m:aI){i:Nat}{r:aQ}(hr:m.aB[i]? = some r):n18 (fE m i)+(if r.ae=18 then 1 else 0)=n18 m:=by
 have hlt:=(gS.1 hr).1;have he:m.aB=m.aB.take i++r::m.aB.drop (i+1):=by
  have h1:m.aB.drop i=r::m.aB.drop (i+1):=by
   rw[List.drop_eq_getElem_cons hlt];rw[gE hlt]at hr;injection hr with hr;rw[hr]
  rw[← h1,List.take_append_drop]
 unfold n18 fE pE
 conv=>rhs;rw[he]
 simp only[List.filter_append,lA,List.filter_cons];by_cases h:r.ae=18
 ·rw[pG0 h,pG0 (by simp[h]),lC0];omega
 ·rw[nG0 h,nG0 (by simp[h])];omega
def qH(m m':aI)(es:List gy):Prop:=n18 m'+(es.filter fun x=>x.ae==7).length=n18 m
theorem qH.none{m m':aI}(h:ug m m')(es:List gy)(he:∀x∈es,x.ae≠7):qH m m' es:=by
 unfold qH;rw[List.filter_eq_nil_iff.2 (fun x hx=>by simpa using he x hx)];exact h
theorem KC(m:aI)(s:aQ)(hA:∀r∈m.aB,r.ae=20∨r.ae=6∨r.ae=18):qH m (ny m s).1 (ny m s).2:=by
 unfold ny;rcases mP m s with⟨h1,_⟩ | ⟨i,r,h1,_,hr,_⟩
 ·rw[h1];exact .none (.refl m) [] (by simp)
 ·rw[h1];simp only
  have hd:=Rt m hr;have hk:=hA r (eZ hr);by_cases h18:r.ae=18
  ·rw[nG0 (by omega),nG0 (by omega)];rw[pG0 h18]at hd;unfold qH;simp only[List.filter_cons,wV];exact hd
  ·rw[nG0 h18]at hd;have hd':ug m (fE m i):=hd;by_cases h20:r.ae=20
   ·rw[pG0 h20];split
    ·exact .none hd' _ (by simp[wV])
    split
    ·exact .none hd' _ (by simp[wV])
    split
    ·exact .none hd' _ (by simp[wV])
    ·exact .none (hd'.trans (.same rfl)) _ (by simp[wV])
   ·rw[nG0 h20,pG0 (by omega)];unfold o8;split
    ·exact .none hd' [] (by simp)
    ·exact .none (hd'.trans (.same rfl)) _ (by simp[wV])
end St
end V
namespace V
namespace Sy
open St Po
structure kT(n:Int)(w:Wr):Prop where
 cn:∀k v,64<=v/\v<=127->(w.cn (slot k v)=true↔waits (w.s k) v)
 ans:w.ans=false
 c18:n18 (w.s false)=0
 par:w.par=n18 (w.s true)∨w.par<=-1000+n
 rng:0<=n/\n<=900
theorem JZ{n:Int}{w:Wr}(h:kT n w)(j:Bool){m':aI}{es:List gy}(hl:es.length<=1)(ht:wR (w.s j) m' es)(h8:qH (w.s j) m' es)(hs:∀x∈es,x.ae=6->True):kT n (es.foldl (fun w x=>kQ w j x) (w.bF j m')):=by
 obtain⟨t1,t2,t3⟩:=ht;obtain⟨s1,s2⟩:=gN w j m';have hcn:(w.bF j m').cn=w.cn:=by cases j <;> rfl
 have han:(w.bF j m').ans=w.ans:=by cases j <;> rfl
 have hpa:(w.bF j m').par=w.par:=by cases j <;> rfl
 have hr:=h.rng;have hw:∀k v,waits ((w.bF j m').s k) v↔(waits (w.s k) v/\(k=j->∀x∈es,(x.ae=2∨x.ae=5)->x.aU≠v)):=fun k v=>by
  rcases dn k j with hk | hk
  ·subst hk;rw[s1,t1 v];exact⟨fun q=>⟨q.1,fun _=>q.2⟩,fun q=>⟨q.1,q.2 rfl⟩⟩
  ·rw[hk,s2];exact⟨fun q=>⟨q,fun e=>absurd e (GN j)⟩,fun q=>q.1⟩
 unfold qH at h8
 match es,hl with
 | [],_=>
   simp only[List.filter_nil,List.length_nil,Nat.add_zero]at h8;refine⟨fun k v hv=>?_,by rw[List.foldl_nil,han];exact h.ans,?_,?_,hr⟩
   ·rw[List.foldl_nil,hcn,h.cn k v hv,hw k v];simp
   ·rw[List.foldl_nil];cases j
    ·rw[s1,h8];exact h.c18
    ·exact h.c18
   ·rw[List.foldl_nil,hpa];cases j
    ·exact h.par
    ·rw[s1,h8];exact h.par
 | [x],_=>
   simp only[List.foldl_cons,List.foldl_nil];have h18:x.ae≠7->n18 m'=n18 (w.s j):=fun hk=>by
    simp only[List.filter_cons,List.filter_nil]at h8;rw[nG0 (by simpa using hk)]at h8;exact h8
   have keep:x.ae≠7->n18 ((w.bF j m').s false)=0/\(w.par=n18 ((w.bF j m').s true)∨w.par<=-1000+n):=fun hk=>by
    cases j
    ·exact⟨by rw[s1,h18 hk];exact h.c18,h.par⟩
    ·exact⟨h.c18,by rw[s1,h18 hk];exact h.par⟩
   have aaK:(x.ae≠2/\x.ae≠5)->∀k v,64<=v/\v<=127->(w.cn (slot k v)=true↔waits ((w.bF j m').s k) v):=fun hk k v hv=>by
    rw[h.cn k v hv,hw k v];simp only[mS,forall_eq];exact⟨fun q=>⟨q,fun _ e=>by omega⟩,fun q=>q.1⟩
   have Yv:(x.ae=2∨x.ae=5)->∀k v,64<=v/\v<=127->(aF w.cn (slot j x.aU) false (slot k v)=true↔waits ((w.bF j m').s k) v):=fun hk k v hv=>by
    have vV:=t3 x (by simp) hk;rw[hw k v,Md];simp only[mS,forall_eq];by_cases he:slot k v=slot j x.aU
    ·obtain⟨e1,e2⟩:=Iu hv vV he;rw[pG0 he];exact⟨fun q=>(by cases q),fun q=>absurd e2.symm (q.2 e1 hk)⟩
    ·rw[nG0 he,h.cn k v hv];exact⟨fun q=>⟨q,fun e1 _ e2=>he (by rw[e1,e2])⟩,fun q=>q.1⟩
   unfold kQ;by_cases k2:x.ae=2
   ·rw[pG0 k2];obtain⟨p1,p2⟩:=keep (by omega);refine⟨?_,by show(w.bF j m').ans=false;rw[han];exact h.ans,p1,by show(w.bF j m').par=_∨_;rw[hpa];exact p2,hr⟩;show ∀k v,_->(aF (w.bF j m').cn (slot j x.aU) false (slot k v)=true↔_);rw[hcn];exact Yv (.inl k2)
   rw[nG0 k2];by_cases k5:x.ae=5
   ·rw[pG0 k5];obtain⟨p1,p2⟩:=keep (by omega);have hon:w.cn (slot j x.aU)=true:=(h.cn j x.aU (t3 x (by simp) (.inr k5))).2 (t2 x (by simp) k5);refine⟨?_,?_,p1,by show(w.bF j m').par=_∨_;rw[hpa];exact p2,hr⟩
    ·show ∀k v,_->(aF (w.bF j m').cn (slot j x.aU) false (slot k v)=true↔_);rw[hcn];exact Yv (.inr k5)
    ·show((w.bF j m').ans || !(w.bF j m').cn (slot j x.aU))=false
     rw[han,hcn,h.ans,hon];rfl
   rw[nG0 k5];have kc:=aaK ⟨k2,k5⟩;have base:x.ae≠7->kT n (w.bF j m'):=fun hk=>⟨by rw[hcn];exact kc,by rw[han];exact h.ans,(keep hk).1,by rw[hpa];exact(keep hk).2,hr⟩;have upto:∀{u u':Wr},kT n u->u'.s0=u.s0->u'.s1=u.s1->u'.cn=u.cn->u'.ans=u.ans->u'.par=u.par->kT n u':=fun {u u'} hu b0 b1 b2 b3 b4=>by
    have es:u'.s=u.s:=by funext k;cases k <;> simp[Wr.s,b0,b1]
    exact⟨fun k v hv=>by rw[b2,es];exact hu.cn k v hv,by rw[b3];exact hu.ans,by rw[es];exact hu.c18,by rw[b4,es];exact hu.par,hu.rng⟩
   by_cases k1:x.ae=1
   ·rw[pG0 k1];have hb:=base (by omega);split
    ·split
     ·exact upto hb (by cases j <;> rfl) (by cases j <;> rfl) (by cases j <;> rfl) (by cases j <;> rfl) (by cases j <;> rfl)
     ·exact upto hb rfl rfl rfl rfl rfl
    ·exact upto hb rfl rfl rfl rfl rfl
   rw[nG0 k1];by_cases k3:x.ae=3
   ·rw[pG0 k3];have hb:=base (by omega);split
    ·exact upto hb rfl rfl rfl rfl rfl
    ·exact upto hb rfl rfl rfl rfl rfl
   rw[nG0 k3];by_cases k6:x.ae=6
   ·rw[pG0 k6,s1,sO];have hb:=base (by omega);have hq:kT n (w.bF j (kg m' x.ID (x.ai.aN.tmod 2)).1):=by
     obtain⟨u1,u2⟩:=gN w j (kg m' x.ID (x.ai.aN.tmod 2)).1;have e20:=Xm m' x.ID (x.ai.aN.tmod 2);have e18:n18 (kg m' x.ID (x.ai.aN.tmod 2)).1=n18 m':=Xw m' x.ID (x.ai.aN.tmod 2);refine⟨fun k v hv=>?_,by cases j <;> exact h.ans,?_,?_,hr⟩
     ·rw[show(w.bF j (kg m' x.ID (x.ai.aN.tmod 2)).1).cn=w.cn by cases j <;> rfl,kc k v hv]
      rcases dn k j with hk | hk
      ·subst hk;rw[s1,u1];exact(e20 v).symm
      ·rw[hk,s2,u2]
     ·have:=hb.c18;cases j
      ·rw[u1,e18,← s1];exact this
      ·exact h.c18
     ·have:=hb.par;rw[hpa]at this;rw[show(w.bF j (kg m' x.ID (x.ai.aN.tmod 2)).1).par=w.par by cases j <;> rfl]
      cases j
      ·exact h.par
      ·rw[u1,e18,← s1];exact this
    split
    ·exact hq
    ·exact⟨hq.cn,hq.ans,hq.c18,.inr (by show(-1000:Int)<=_;omega),hr⟩
   rw[nG0 k6];by_cases k7:x.ae=7
   ·rw[pG0 k7];simp only[List.filter_cons,List.filter_nil]at h8;rw[pG0 (by simpa using k7)]at h8;simp only[lC0,List.length_nil]at h8;cases j with
    | false=>have:=h.c18;omega
    | true=>
      refine⟨?_,?_,h.c18,?_,hr⟩
      ·show ∀k v,_->((w.bF true m').cn (slot k v)=true↔_);rw[hcn];exact kc
      ·show((w.bF true m').ans||((w.bF true m').par-1 == -1))=false
       rw[han,hpa,h.ans];have:w.par≠0:=by
        rcases h.par with q | q
        ·omega
        ·omega
       simp;omega
      ·show(w.bF true m').par-1=n18 ((w.bF true m').s true)∨(w.bF true m').par-1<=_;rw[hpa,s1];rcases h.par with q | q
       ·left;omega
       ·right;omega
   ·rw[nG0 k7];exact base k7
end Sy
end V
namespace V
namespace Sy
open St Po
theorem Xx(m:aI):ug m (iD m).1:=by
 have h1:ug m (tJ m):=by
  unfold tJ;split
  ·exact XB m
  ·exact .refl m
 refine h1.trans ?_;unfold iD gq;split
 ·exact .refl _
 ·refine .same ?_;unfold jA;split <;> rfl
theorem KA{k:Nat}{m:aI}(h:MInv k m){f:bJ}(hg:Po.wS f):qH m (iE m f).1 (iE m f).2:=by
 unfold iE;split
 ·exact .none (.refl m) _ (by simp)
 split
 ·rename_i c5;obtain⟨s,hs,hp⟩:=hg c5;rw[hp];unfold Da;rw[Sg.nX hs.1 hs.2,pG0 rfl];unfold rG;split
  ·refine .none (XA m s) _ ?_;unfold nL
   (repeat' split) <;> simp[wV]
  split
  ·refine .none (Uq m s) _ ?_;unfold jV
   (repeat' split) <;> simp[wV]
  split
  ·refine .none (Uo m s) _ ?_;unfold jC;split <;> simp
  split
  ·exact .none (Xz m s) [] (by simp)
  ·exact KC m s fun r hr=>(h.ask r hr).2
 split
 ·exact .none (.refl m) [] (by simp)
 ·split
  ·exact .none (.refl m) [] (by simp)
  ·refine .none (Ur m _ _ _) _ ?_;unfold kS FN
   (repeat' split) <;> simp
   all_goals
    intro a b _ e;subst e;simp
theorem kT.upto{n:Int}{u u':Wr}(hu:kT n u)(b0:u'.s0=u.s0)(b1:u'.s1=u.s1)(b2:u'.cn=u.cn)(b3:u'.ans=u.ans)(b4:u'.par=u.par):kT n u':=by
 have es:u'.s=u.s:=by funext k;cases k <;> simp[Wr.s,b0,b1]
 exact⟨fun k v hv=>by rw[b2,es];exact hu.cn k v hv,by rw[b3];exact hu.ans,by rw[es];exact hu.c18,by rw[b4,es];exact hu.par,hu.rng⟩
theorem kT.side{n:Int}{w:Wr}(h:kT n w)(k:Bool){m':aI}(h1:uf (w.s k) m')(h2:ug (w.s k) m'):kT n (w.bF k m'):=
 JZ h k (es:=[]) (by simp) (.none h1 [] (by simp)) (.none h2 [] (by simp)) (fun _ _ _=>trivial)
theorem kT.gT{n:Int}{w:Wr}(h:kT n w)(k:Bool)(l:List eH):kT n (w.gT k l):=by cases k <;> exact h.upto rfl rfl rfl rfl rfl
theorem kT.dK{n:Int}{w:Wr}(h:kT n w)(k:Bool):kT n (Sy.dK w k).1:=by
 have h1:=h.side k (Xp (w.s k)) (Xx (w.s k));unfold Sy.dK;split
 ·exact h1.gT k _
 ·exact h1
theorem kT.dD{n:Int}(k:Bool):∀(i:Nat) {w:Wr} (y:Bool),kT n w->kT n (Sy.dD i w k y).1
 | 0,_,_,h=>h
 | i+1,w,y,h=>by
   unfold Sy.dD;split
   ·exact kT.dD k i true (h.dK k)
   ·exact h.dK k
theorem kT.arr{n:Int}{L:Bool->List bJ}{r:Bool->Nat}{w:Wr}(hO:Ord L r w)(h:kT n w)(k:Bool){p:eH}{ps:List eH}(ha:w.a k=p::ps)(hf:(w.s (!k)).Out.length<=800000000):kT n (lT w k p ps):=by
 have hW:=hO.way k;have hS:=hO.side (!k);have hfl:=hW.flow;rw[ha]at hfl;have hgood:∀f∈L k,Good f:=fun f hq=>(hW.good f hq).1;obtain⟨_,hb,hl⟩:=Co hfl hgood;obtain⟨_,_,hlen⟩:=Cj hS.inv (by omega) hb hl;have hval:=Fr.wu hS.inv.asm hb;have key:wR (w.s (!k)) (uR (w.s (!k)) p).1 (uR (w.s (!k)) p).2/\qH (w.s (!k)) (uR (w.s (!k)) p).1 (uR (w.s (!k)) p).2:=by
  rw[hW.asm]at hval;unfold uR;rw[hW.asm];rcases rW hfl hgood with⟨f,rest,hL,OZ,_⟩ | ⟨u,OZ,_⟩
  ·rw[OZ]at hval ⊢;have hgf:=hW.good f (by rw[hL];simp);have hI:=hS.inv.gK hval;exact⟨Dz hI hgf.2,KA hI hgf.2⟩
  ·rw[OZ];exact⟨.none (.same rfl) [] (by simp),.none (.same rfl) [] (by simp)⟩
 have hA:=h.gT k ps;have hs:(w.gT k ps).s (!k)=w.s (!k):=(iy w k (!k) ps).1;unfold lT;exact JZ hA (!k) hlen (by rw[hs];exact key.1) (by rw[hs];exact key.2) (fun _ _ _=>trivial)
end Sy
end V
namespace V
namespace Sy
open St Po
theorem kT.more{n j:Int}{w:Wr}(h:kT n w)(hj:n<=j)(h9:j<=900):kT j w:=⟨h.cn,h.ans,h.c18,by rcases h.par with q | q;exact .inl q;exact .inr (by omega),by have:=h.rng;omega⟩
theorem kT.bH{n:Int}(k:Bool):∀(i:Nat) (L:Bool->List bJ) (r:Bool->Nat) (w:Wr),Ord L r w->phi L w<=100000000->kT n w->kT n (Sy.bH i w k)
 | 0,_,_,_,_,_,h=>h
 | i+1,L,r,w,hO,hp,h=>by
   unfold Sy.bH;cases ha:w.a k with
   | nil=>exact h
   | cons p ps=>
     have hf:=hO.few (!k);obtain⟨L1,r1,q1,q2,_⟩:=hO.arr k ha (by omega);exact kT.bH k i L1 r1 (lT w k p ps) q1 (by omega) (h.arr hO k ha (by omega))
theorem kT.round{n:Int}{L:Bool->List bJ}{r:Bool->Nat}{w:Wr}(hO:Ord L r w)(hp:phi L w<=100000000)(h:kT n w):kT n (iA w).1:=by
 obtain⟨L1,r1,a1,a2,_⟩:=jm false 100 L r w hO hp;have h1:=kT.bH false 100 L r w hO hp h;have h2:=kT.bH true 100 L1 r1 _ a1 (by omega) h1;exact kT.dD true 20 false (kT.dD false 20 false h2)
theorem kT.loop{n:Int}:∀(i:Nat) (L:Bool->List bJ) (r:Bool->Nat) (w:Wr),Ord L r w->phi L w<=100000000->kT n w->kT n (iW i w).1
 | 0,_,_,_,_,_,h=>h
 | i+1,L,r,w,hO,hp,h=>by
   obtain⟨L',r',q1,q2,_⟩:=xH hO hp;have h1:=h.round hO hp;unfold iW;split
   ·exact h1
   ·exact kT.loop i L' r' _ q1 (by omega) h1
theorem kT.nE{n:Int}{w:Wr}(h:kT n w)(k:Bool)(l:List bJ):kT n (w.nE k l):=by cases k <;> exact h.upto rfl rfl rfl rfl rfl
theorem kT.act{n:Int}{L:Bool->List bJ}{r:Bool->Nat}{w:Wr}(hO:Ord L r w)(hp:phi L w<=100000000){x:Ac}(hx:LP x)(h:kT n w)(hn:n+1<=900):kT (n+1) (jv w x):=by
 have hS:=hO.side (aH x);have hr:=h.rng;have h':=h.more (j:=n+1) (by omega) hn;unfold jv;split
 ·have h18:=Us (w.s (aH x)) x.bQ x.bZ x.cu x.aA;have YB:=hO.role;by_cases hz:(eF (w.s (aH x)) x.bQ x.bZ x.cu x.aA).2.2=0
  ·rw[pG0 hz];have hq:∃v,(64<=v/\v<=127)/\(eF (w.s (aH x)) x.bQ x.bZ x.cu x.aA).2.1=v/\∀u,waits (eF (w.s (aH x)) x.bQ x.bZ x.cu x.aA).1 u↔waits (w.s (aH x)) u∨u=v:=by
    unfold eF at hz ⊢;split at hz
    ·cases hz
    split at hz
    ·cases hz
    split at hz
    ·cases hz
    ·rename_i g1 g2 g3;obtain⟨v,_,f2,_,f4,f5⟩:=jr (m:=w.s (aH x)) (by omega);rw[nG0 g1,nG0 g2,nG0 g3,f2];exact⟨v,⟨f4,f5⟩,rfl,fun u=>ND _ _ rfl u⟩
   obtain⟨v,hv,e1,e2⟩:=hq;rw[e1];obtain⟨s1,s2⟩:=gN w (aH x) (eF (w.s (aH x)) x.bQ x.bZ x.cu x.aA).1;refine⟨fun k u hu=>?_,?_,?_,?_,h'.rng⟩
   ·show aF w.cn (slot (aH x) v) true (slot k u)=true↔waits ((w.bF (aH x) (eF (w.s (aH x)) x.bQ x.bZ x.cu x.aA).1).s k) u;rw[Md];by_cases he:slot k u=slot (aH x) v
    ·obtain⟨k1,k2⟩:=Iu hu hv he;rw[pG0 he,k1,s1,e2 u];exact⟨fun _=>.inr k2,fun _=>rfl⟩
    ·rw[nG0 he,h.cn k u hu];rcases dn k (aH x)with hk | hk
     ·rw[hk,s1,e2 u];exact⟨.inl,fun q=>q.elim id fun e=>absurd (by rw[hk,e]) he⟩
     ·rw[hk,s2]
   ·show(w.bF (aH x) _).ans=false;rw[show(w.bF (aH x) (eF (w.s (aH x)) x.bQ x.bZ x.cu x.aA).1).ans=w.ans by cases aH x <;> rfl]
    exact h.ans
   ·show n18 ((w.bF (aH x) (eF (w.s (aH x)) x.bQ x.bZ x.cu x.aA).1).s false)=0;have:=h.c18;cases hk:aH x
    ·rw[hk]at h18 s1;rw[s1,h18];exact this
    ·exact this
   ·show(w.bF (aH x) (eF (w.s (aH x)) x.bQ x.bZ x.cu x.aA).1).par=n18 ((w.bF (aH x) (eF (w.s (aH x)) x.bQ x.bZ x.cu x.aA).1).s true)∨_;rw[show(w.bF (aH x) (eF (w.s (aH x)) x.bQ x.bZ x.cu x.aA).1).par=w.par by cases aH x <;> rfl]
    have:=h'.par;cases hk:aH x
    ·exact this
    ·rw[hk]at h18 s1;rw[s1,h18];exact this
  ·rw[nG0 hz];have hq:(eF (w.s (aH x)) x.bQ x.bZ x.cu x.aA).1=w.s (aH x):=by
    unfold eF at hz ⊢
    (repeat' split) <;> first | rfl | skip
    rename_i g1 g2 g3;rw[nG0 g1,nG0 g2,nG0 g3]at hz;exact absurd rfl hz
   rw[hq,xA];exact h'
 split
 ·exact h'.side _ (Xr _ _) (by
   unfold uG
   (repeat' split) <;> first | exact .refl _ | exact Hf _ _)
 split
 ·have:=h'.side (aH x) (Uh (w.s (aH x)) x.aU x.aw) (Un _ _ _);split
  ·exact this.upto rfl rfl rfl rfl rfl
  ·exact this
 split
 ·have:=h'.side (aH x) (Xq (w.s (aH x)) x.aU x.aw) (Xy _ _ _);split
  ·exact this.nE _ _
  ·exact this
 split
 ·obtain⟨p1,p2⟩:=VZ (w.s (aH x)) x.ai;have p3:=Xo (w.s (aH x)) x.ai;by_cases hz:(jX (w.s (aH x)) x.ai).2=0
  ·have hrl:=hO.role (aH x);rw[p2 hz]at hrl;have hk:aH x=true:=by
    cases hk:aH x
    ·rw[hk]at hrl;cases hrl
    ·rfl
   rw[pG0 hz];rw[pG0 hz]at p1;obtain⟨s1,s2⟩:=gN w (aH x) (jX (w.s (aH x)) x.ai).1;refine⟨fun k u hu=>?_,?_,?_,?_,h'.rng⟩
   ·show(w.bF (aH x) (jX (w.s (aH x)) x.ai).1).cn (slot k u)=true↔waits ((w.bF (aH x) (jX (w.s (aH x)) x.ai).1).s k) u;rw[show(w.bF (aH x) (jX (w.s (aH x)) x.ai).1).cn=w.cn by cases aH x <;> rfl,h.cn k u hu]
    rcases dn k (aH x)with hk' | hk'
    ·rw[hk',s1];exact(p3 u).symm
    ·rw[hk',s2]
   ·rw[hk];exact h.ans
   ·rw[hk];exact h.c18
   ·show w.par+1=n18 ((w.bF (aH x) (jX (w.s (aH x)) x.ai).1).s true)∨w.par+1<=_;rw[hk]at s1 p1 ⊢;rw[s1,p1];rcases h.par with q | q
    ·left;rw[q];omega
    ·right;omega
  ·rw[nG0 hz];rw[nG0 hz]at p1;exact h'.side _ p3 p1
 split
 ·exact kT.dD _ _ _ h'
 split
 ·exact kT.bH _ _ L r w hO hp h'
 split
 ·exact h'.side _ (.same rfl) (.same rfl)
 ·exact h'
end Sy
end V
namespace V
namespace Sy
open St Po
theorem J2:∀(l:List Ac) (n:Int) (L:Bool->List bJ) (r:Bool->Nat) (w:Wr),Ord L r w->(∀x∈l,LP x)->phi L w+(l.map cost).sum<=100000000->kT n w->n+l.length<=900->∃m,m<=n+l.length/\kT m (l.foldl jv w)
 | [],n,_,_,_,_,_,_,h,_=>⟨n,by simp,h⟩
 | x::l,n,L,r,w,hO,hx,hp,h,hn=>by
   simp only[mC,List.sum_cons,lC0]at hp hn;obtain⟨L1,r1,q1,q2,_⟩:=GZ hO (by omega) (hx x (by simp));have h1:=kT.act hO (by omega) (hx x (by simp)) h (by omega);obtain⟨m,m1,m2⟩:=J2 l (n+1) L1 r1 _ q1 (fun y hy=>hx y (by simp[hy])) (by omega) h1 (by omega);exact⟨m,by simp only[lC0];omega,m2⟩
theorem Pm{l0 l1:List fA}(n0 n1:Int)(h0:(gV 0 l0).2=0)(h1:(gV 1 l1).2=0):kT 0 (fQ l0 l1 n0 n1):=by
 have hA:∀k,((fQ l0 l1 n0 n1).s k).aB=[]:=fun k=>by
  have e0:=xQ h0;have e1:=xQ h1;unfold fQ;rw[e0,e1];cases k <;> rfl
 refine⟨fun k v _=>?_,rfl,?_,.inl ?_,by omega⟩
 ·refine⟨fun h=>absurd h (by show ¬ (false=true);simp),fun h=>?_⟩;obtain⟨s,hs,_⟩:=h;rw[hA k]at hs;cases hs
 ·unfold n18;rw[hA false];rfl
 ·unfold n18;rw[hA true];rfl
theorem Qv{j:Nat}(h:j<128):∃k v,(64<=v/\v<=127)/\slot k v=j:=by
 by_cases hj:j<64
 ·exact⟨false,64+(j:Int),by omega,by unfold slot;simp;omega⟩
 ·exact⟨true,(j:Int),by omega,by unfold slot;simp;omega⟩
theorem Xi{l0 l1:List fA}(n0 n1:Int)(h0:(gV 0 l0).2=0)(h1:(gV 1 l1).2=0)(l:List Ac)(hx:∀x∈l,LP x)(hl:l.length<=60)(hb:(l.map fun x=>x.aw.length).sum<=4096) :
 (iW 20000 (l.foldl jv (fQ l0 l1 n0 n1))).1.ans=false/\(iW 20000 (l.foldl jv (fQ l0 l1 n0 n1))).1.par<=0/\∀j<128,(iW 20000 (l.foldl jv (fQ l0 l1 n0 n1))).1.cn j=false:=by
 obtain⟨i1,i2,_⟩:=Ck n0 n1 h0 h1;have hc:=wE l;obtain⟨_,_,_,hr⟩:=DC n0 n1 h0 h1 l hx hl hb;obtain⟨m,m1,hA⟩:=J2 l 0 _ _ _ i1 hx (by omega) (Pm n0 n1 h0 h1) (by omega);obtain⟨L,r,q1,q2,_⟩:=wL l _ _ _ i1 hx (by omega);have hE:=kT.loop 20000 L r _ q1 (by omega) hA;refine⟨hE.ans,?_,fun j hj=>?_⟩
 ·rcases hE.par with q | q
  ·rw[q];cases hA':((iW 20000 (l.foldl jv (fQ l0 l1 n0 n1))).1.s true).aB with
   | nil=>
     unfold n18;rw[hA'];simp
   | cons s ss=>
     have:=(hr true s (by rw[hA'];simp)).2;omega
  ·omega
 ·obtain⟨k,v,hv,rfl⟩:=Qv hj;have hw:¬ waits ((iW 20000 (l.foldl jv (fQ l0 l1 n0 n1))).1.s k) v:=fun⟨s,hs,e,_⟩=>by
   have:=(hr k s hs).1;omega
  cases hc:(iW 20000 (l.foldl jv (fQ l0 l1 n0 n1))).1.cn (slot k v)with
  | false=>rfl
  | true=>exact absurd ((hE.cn k v hv).1 hc) hw
end Sy
end V
namespace V
namespace Sy
open St Po
theorem LV{i:Nat}(h:i<64):Ao 64 (i:Int)=some i:=by
 unfold Ao;rw[pG0 (by omega)];simp
theorem GU{t:bD×Bool}{body:Int->Option (Out Int (Sum Unit Bool))}(q:Nat)(hq:q+64<=128)(hb:∀i:Nat,i<64->body (i:Int)=if (t.1.ab (q+i))=true then some (.done (.inr false))else some (.next (aK ((i:Int)+1))))(he:body (64:Int)=some (.done (.inl ())))(h:∀j<128,t.1.ab j=false) :
 ∀(d i F:Nat),i+d=64->d<F->iter body F (i:Int)=some (.inl ())
 | 0,i,F,hi,hF=>by
   obtain⟨F',rfl⟩:∃F',F=F'+1:=⟨F-1,by omega⟩;have:i=64:=by omega
   subst this;exact aX (body:=body) he
 | d+1,i,F,hi,hF=>by
   obtain⟨F',rfl⟩:∃F',F=F'+1:=⟨F-1,by omega⟩;have hs:body (i:Int)=some (.next ((i+1:Nat):Int)):=by
    rw[hb i (by omega),h (q+i) (by omega),nG0 (by simp),bP (by omega) (by omega)];rfl
   rw[bU (body:=body) hs];exact GU q hq hb he h d (i+1) F' (by omega) (by omega)
end Sy
open Sy
theorem JY(dP:uS)(hg:Ny dP):q3x FF dP=some true:=by
 unfold q3x;obtain⟨b,h1,h2⟩:=Rz dP;rw[h1,bs,JG];cases b with
 | false=>rfl
 | true=>
   obtain⟨a1,a2,a3,_,_⟩:=h2 rfl;rw[nG0 (by simp)];rcases Z4 hg a1 a2 a3 with⟨⟨c,r1⟩,r2⟩ | ⟨c,nn,p,r1,n0,n1,hR⟩
   ·rw[r1,bs];rw[r2];rfl
   ·rw[r1,bs];simp only
    rw[nG0 (by simp)];obtain⟨e1,e2,e3⟩:=Xi dP.bL.1 dP.bL.2 n0 n1 (dP.eP.map iX) (fun x hx=>by
     obtain⟨y,hy,rfl⟩:=List.mem_map.1 hx;obtain⟨_,_,_,b4,b5⟩:=hg y hy;exact⟨b4,a2 y hy,b5⟩) (by rw[List.length_map];exact a1) (by rw[List.map_map];exact a3)
    rw[← hR.ans]at e1;rw[← hR.par]at e2;rw[← hR.cn]at e3;have l2:iter (fun s=>q5a FF (c,true) s) FF (0:Int)=some (.inl ()):=GU (t:=(c,true)) 0 (by omega) (fun i hi=>by
     show q5a FF (c,true) (i:Int)=_;unfold q5a;rw[pG0 (by simp;omega),LV hi,bs,Nat.zero_add]) (by rfl) e3 64 0 FF (by omega) (by have:=ff;omega)
    have l1:iter (fun s=>q59 FF (c,true) s) FF (0:Int)=some (.inl ()):=GU (t:=(c,true)) 64 (by omega) (fun i hi=>by
     show q59 FF (c,true) (i:Int)=_;unfold q59;rw[pG0 (by simp;omega),LV hi,bs]) (by rfl) e3 64 0 FF (by omega) (by have:=ff;omega)
    rw[l2,bs];simp only
    unfold q8b q8a;rw[l1,bs];simp only
    unfold q89 q88 q87;rw[e1,pG0 (by simp;exact e2),JG];rfl
end V
end Go.Proofs.YtbgfhaahhdnogaaGreat
