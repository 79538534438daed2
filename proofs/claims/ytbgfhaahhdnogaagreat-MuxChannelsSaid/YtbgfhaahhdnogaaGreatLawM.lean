/- Data arrives; a packet arrives: the program and the referenc -/
import Derived.Test.YtbgfhaahhdnogaaGreatLawN
namespace Go.Proofs.YtbgfhaahhdnogaaGreat
namespace V
theorem half g(h:0<=g/\g<=65535):PL .i64 g 2=g/2:=by
 have:g.tdiv 2=g/2:=Int.tdiv_eq_ediv_of_nonneg h.1;unfold PL;rw[this,wrap_i64];exact bW (by omega) (by omega)
theorem O3 x q(hq:q.2.1.length<=1)(he:x.ar=[]):iter (fun s:bO×Int=>Wm FF q s.1 s.2) FF (x,0)=some {x with ar:=q.2.1.map fun d=>⟨3,q.1.ap,d,0,zu,0⟩}:=by
 have hF:FF=(FF-2)+1+1:=by rw[ko]
 rw[hF];generalize FF-2=f;obtain⟨c,l,e⟩:=q
 match l,hq with
 | [],_=>
   rw[bF (o:=x) (by
    show Wm (f+1+1) (c,[],e) x 0=_;unfold Wm;rw[nG0 (df (by simp[len]))])]
   cases x;simp only at he;rw[he];rfl
 | [d],_=>
   rw[bY (s':=(({x with ar:=[⟨3,c.ap,d,0,zu,0⟩]}:bO),(1:Int))) (by
    show Wm (f+1+1) (c,[d],e) x 0=_;unfold Wm;rw[pG0 (dt (by simp[len])),show idx [d] 0=some d from rfl,bs];unfold qe;rw[he,dX (by simp) (by simp),bs,bs];rfl),bF (o:=({x with ar:=[⟨3,c.ap,d,0,zu,0⟩]}:bO)) (by
    show Wm (f+1+1) (c,[d],e) {x with ar:=[⟨3,c.ap,d,0,zu,0⟩]} 1=_;unfold Wm;rw[nG0 (df (by simp[len]))])]
   rfl
theorem wJ{m i c c'}(hc:m.aj[i]?=some c):(gI m i c').aj[i]?=some c':=by grind [gI]
theorem Oh{b}(hb:∀x∈b,Byte x)e:∀f∈(Fr.Oi b e).2.1,(∀x∈f.am,Byte x)/\f.am.length<=65531:=by
 unfold Fr.Oi;split
 .intro f hf;cases hf
 .grind
theorem UA{a p}(ha:Fr.Val a)(hp:∀x∈p.am,Byte x):∀f∈(Fr.feed a p).2.1,(∀x∈f.am,Byte x)/\f.am.length<=65531:=by
 unfold Fr.feed;split
 .intro f hf;cases hf
 .split
  .intro f hf;cases hf
  .split
   .exact Oh hp _
   .split
    .intro f hf;cases hf
    .exact Oh (fun x hx=>(List.mem_append.1 hx).elim (ha.xQ x) (hp x)) _
theorem MInv.iF{k m}(h:MInv k m){a}(ha:Fr.Val a):MInv k {m with ay:=a}:=
 ⟨h.Mk,h.Qi,h.next,h.ask,h.yV,h.z8,h.nQ,h.oZ,h.yO,h.cnt,h.out,h.pG,h.sent,ha,h.jV⟩
def XP(x:bO)(f:bq):Option bO:=
 if ((f.aY==4)||(f.aY==6))=true then qe FF x (iw.mk 1 f.aY f.am 0 (jP.mk 0 0 0 0 0) 0)
 else if (f.aY==5)=true then q1w FF x f.am
 else if D9 x.aD f.aY>=0/\bE x.aD f.aY=false then q3r FF x (D9 x.aD f.aY) f.am
 else some x
theorem abQ x l f(n:Nat)(hf:l[n]?=some f)(hn:n<=10)(h1:x.aD.aj.length<=1000)(h2:x.aD.aB.length<=1000):Xy FF l x (n:Int)=(XP x f).bind fun y=>some (.next (y,((n+1:Nat):Int))):=by
 have hlt:=(gS.1 hf).1;unfold Xy q52 XP;rw[pG0 (dt (by rw[lN];omega)),aX hf,bs,wQ x f.aY (by omega),bs,wN n (by omega)];by_cases c1:((f.aY==4)||(f.aY==6))=true
 .grind
 rw[nG0 c1,nG0 c1];by_cases c2:(f.aY==5)=true
 .grind
 rw[nG0 c2,nG0 c2];rcases yH x.aD f.aY with⟨hl,_⟩|⟨i,c,hl,hc,hq⟩
 .rw[hl,nG0 (df (by omega)),bs,f8,f7];rfl
 .grind [dt,aX,bs,nJ,bE]
abbrev ME:=aJ×List iw
def newC(r s:aQ):aM:=⟨r.ab,s.ab,r.bT,r.dh,r.cZ,s.dh,s.cZ,s.aA,r.aA,r.aA,[],0,[],-1,false⟩
def pW(m:aJ)(n:Int):ME:=match HZ m n with
 | none=>(m,[])
 | some (i,_)=>({m with aj:=pK m.aj i},[zA 4 n 0 0])
def takeC(m:aJ)(s:aQ):Option (Nat×aQ):=match m.aB.findIdx? (fun r=>fF r s)with
 | none=>none
 | some i=>match m.aB[i]? with
   | none=>none
   | some r=>some (i,r)
def gF(m:aJ)(i:Nat):aJ:={m with aB:=pK m.aB i}
def l9(m:aJ)(s:aQ):ME:=match takeC m s with
 | none=>(m,[])
 | some (i,r)=>
   if r.ae=20 then(if s.ae=1 then(gF m i,[zA 5 r.ab 1 0])else if s.Result≠0 then(gF m i,[zA 5 r.ab s.Result 0])else if (Hg m s.ab).isSome=true then(gF m i,[zA 5 r.ab 9 0])else({gF m i with aj:=ku (newC r s) m.aj},[zA 2 r.ab 0 0]))
   else if r.ae=6 then pW (gF m i) r.ab
   else(gF m i,[zA 7 0 (if s.ae=1 then 1 else s.Result) s.ID])
def D7(s:aQ)(r:Int):aQ:=⟨21,s.ID,0,0,0,0,0,0,r,zu⟩
def JJ(id r:Int):aQ:=⟨1,id,0,0,0,0,0,0,r,zu⟩
def qA(s:aQ)(v:Int)(L:fI):aQ:=⟨21,s.ID,0,v,0,L.dh,L.cZ,L.aA,0,zu⟩
def kR(s:aQ)(v:Int)(L:fI):aM:=⟨v,s.ab,s.bT,L.dh,L.cZ,s.dh,s.cZ,s.aA,L.aA,L.aA,[],0,[],-1,false⟩
def TS(m:aJ)(n:Int):Option fI:=match m.ak.findIdx? (fun o=>o.bT==n)with
 | none=>none
 | some i=>m.ak[i]?
def vB(m:aJ)(s:aQ):ME:=match TS m s.bT with
 | none=>(jC m (D7 s 2),[])
 | some L=>if m.bh<L.bh then(jC m (D7 s 5),[])else if 16<=gK m then(jC m (D7 s 4),[])else if (Hg m s.ab).isSome=true then(jC m (D7 s 9),[])else(jC {m with aj:=ku (kR s (ji m) L) m.aj} (qA s (ji m) L),[zA 2 (ji m) 0 0])
def oI(m:aJ)(s:aQ):ME:=match HZ m s.bK with
 | none=>(jC m (JJ s.ID 2),[])
 | some (i,c)=>if c.al≠s.ab then(jC m (JJ s.ID 2),[])else(jC {m with aj:=pK m.aj i} ⟨7,s.ID,0,s.ab,s.bK,0,0,0,0,zu⟩,[zA 4 s.bK 0 0])
def nk(m:aJ)(s:aQ):ME:=if m.jm=0 then(m,[⟨6,0,[],0,s.ao,s.ID⟩])else(jC m (JJ s.ID 0),[])
def zC(c:aM)(n:Int):aM×Int:=if c.ba=true then(c,9)else if n<1 then({c with ba:=true},5)else if n>65535-c.aG then({c with ba:=true},19)else({c with aG:=c.aG+n},0)
def yP(m:aJ)(s:aQ):aJ:=match Hg m s.ab with
 | none=>m
 | some (i,c)=>if bE m c.ap=true then m else if (zC c s.aA).2≠0 then nX (gI m i (zC c s.aA).1) (zC c s.aA).1 else gI m i (zC c s.aA).1
def nR(m:aJ)(s:aQ):ME:=
 if s.ae=20 then vB m s else if s.ae=6 then oI m s else if s.ae=18 then nk m s else if s.ae=22 then(yP m s,[])else l9 m s
def DoesM(k:Nat)(P:Option bO)(r:ME):Prop:=P=some ⟨r.1,r.2⟩/\MInv k r.1/\r.2.length<=1
theorem LJ{k m}(h:MInv k m)(hk:k<=900000000){s}(hs:gX s):DoesM (k+1) ((qf FF ⟨m,[]⟩ s).bind fun x=>some x) (jC m s,[]):=by
 have hol:=h.jV;have e1:=uo ⟨m,[]⟩ _ hs (by simp only;omega);refine⟨by rw[e1];rfl,h.say _,by simp⟩
theorem FM m n:(TS m n=none/\fidx (fun o:fI=>o.bT==n) m.ak = -1)\/∃(i:Nat) (L:fI),TS m n=some L/\fidx (fun o:fI=>o.bT==n) m.ak=(i:Int)/\m.ak[i]?=some L:=by
 unfold TS fidx;cases hq:m.ak.findIdx? (fun o=>o.bT==n)with
 | none=>exact .inl ⟨rfl,rfl⟩
 | some i=>
   rw[List.findIdx?_eq_some_iff_getElem]at hq;obtain⟨h1,_⟩:=hq;exact .inr ⟨i,m.ak[i],gE h1,rfl,gE h1⟩
theorem U7{k m}(h:MInv k m)(hk:k<=900000000){s}(hs:gX s)(hkd:s.ae=20):DoesM (k+1) (q4w FF ⟨m,[]⟩ s) (vB m s):=by
 have hal:=h.rH;have hcl:=h.rE;have hol:=h.jV;have hll:=h.Mk;have hi:=FR hs;unfold q4w q5o vB;rw[Yu m.ak s (by omega),bs,Oa ⟨m,[]⟩ (by simp only;omega) (by simp only;omega) h.ids,bs];rcases FM m s.bT with⟨q1,q2⟩|⟨i,L,q1,he,hx⟩
 .rw[q1,q2,pG0 (dt (show(-1:Int)<0 by decide)),bs,i6];exact LJ h hk (mH hi (r:=2) (by omega))
 .have hlm:=h.Qi _ (List.mem_of_getElem? hx);rw[q1,he,nG0 (df (by simp only;omega))];simp only[aX hx,bs];unfold q7a;by_cases hlv:m.bh<L.bh
  .rw[pG0 (dt hlv),pG0 hlv,bs,i6];exact LJ h hk (mH hi (r:=5) (by omega))
  rw[nG0 (df hlv),nG0 hlv];by_cases hu:gK m<16
  .rw[nG0 (c:=16<=gK m) (by omega)];simp only[dt hu,Bool.not_true,Bool.false_eq_true,if_false,pG0 hu,yC ⟨m,[]⟩ s.ab (by simp only;omega),bs];rcases iY m s.ab with⟨hn,hr,_⟩|⟨j,c,hn,hr,hc,_⟩
   .rw[hr,hn,nG0 (df (by omega)),aX hx,bs,bs,f8,f8];obtain⟨v,_,f2,f3,f4,f5⟩:=j6 (m:=m) (by omega);obtain⟨g1,g2,g3,g4,g5⟩:=MS hs (.inl hkd);have hq:=GR hi ⟨f4,f5⟩ hlm.1 hlm.2.1 hlm.2.2;have e1:=uo ⟨m,[]⟩ _ hq (by simp only;omega);have e3:=VX (wm ⟨m,[]⟩ (jC m (qA s v L))) ⟨v,s.ab,s.bT,L.dh,L.cZ,s.dh,s.cZ,s.aA,L.aA,L.aA,[],0,[],0,false⟩ (show m.aj.length<=1000 by omega) (by simp[wm]);have hok:Sd.Ok (kR s v L):=by
     obtain⟨l1,l2,l3⟩:=hlm;unfold je at l1 l2;unfold countB at l3;simp only[Bool.and_eq_true,decide_eq_true_eq]at l1 l2 l3;refine⟨by simp only[kR];omega,g5 hkd,l1,l2,g2,g3,g4,l3,l3,by simp[kR],by simp[kR],by simp[Sd.lastOf,kR],by simp only[kR];omega,by simp[kR]⟩
    have hI:=adb h (l:=kR s v L) hok rfl f3 hu;rw[f2];refine⟨?_,hI.say _,by simp⟩;unfold qA zu at e3;unfold zu at e1;rw[e1,bs,e3];rfl
   .rw[hr,hn,pG0 (dt (by omega)),bs,i6,pG0 (by simp)];exact LJ h hk (mH hi (r:=9) (by omega))
  .rw[pG0 (c:=16<=gK m) (by omega)];simp only[decide_eq_false hu,Bool.not_false,if_true,bs];rw[i6];exact LJ h hk (mH hi (r:=4) (by omega))
theorem QD{k m}(h:MInv k m)(hk:k<=900000000){s}(hs:gX s):DoesM (k+1) (q4o FF ⟨m,[]⟩ s) (oI m s):=by
 have hal:=h.rH;have hcl:=h.rE;have hol:=h.jV;have hi:=FR hs;have hrej:∀x:Int,DoesM (k+1) (q65 FF ⟨m,[]⟩ s x true) (jC m (JJ s.ID 2),[]):=fun x=>LJ h hk (qO hi 1 (.inr ⟨rfl,.inr rfl⟩));unfold q4o oI;rw[wQ ⟨m,[]⟩ s.bK (by simp only;omega),bs];rcases dD m s.bK with⟨hn,hl,_⟩|⟨i,c,hn,hl,hc,hq⟩
 .grind
 .rw[hl,hn,nG0 (df (by omega)),aX hc,bs];simp only
  by_cases hr:c.al=s.ab
  .rw[show(c.al != s.ab)=false by simp[hr],nG0 (not_not_intro hr)];have hcs:=jG (h.oZ c (List.mem_of_getElem? hc));have hsd:=vU hi (src:=s.ab) (dst:=s.bK) (by omega) (by omega) 7 (.inr rfl);have e1:=uo ⟨m,[]⟩ _ hsd (by simp only;omega);have e3:=Fv (wm ⟨m,[]⟩ (jC m ⟨7,s.ID,0,s.ab,s.bK,0,0,0,0,zu⟩)) i c hc (show m.aj.length<=1000 by omega) (by simp[wm]);refine⟨?_,(h.shut i).say _,by simp⟩;show(qf FF ⟨m,[]⟩ ⟨7,s.ID,0,s.ab,s.bK,0,0,0,0,⟨0,0,0,0,0⟩⟩).bind _=_;unfold zu at e1 e3;rw[e1,bs,e3,hq];rfl
  .grind
theorem PW{k m}(h:MInv k m)(hk:k<=900000000){s}(hs:gX s):DoesM (k+1) (q4q FF ⟨m,[]⟩ s) (nk m s):=by
 unfold q4q nk;by_cases hr:m.jm=0
 .rw[pG0 (by simpa using hr),pG0 hr,vR _ _ (by simp only[List.length_nil];omega)];exact⟨rfl,h.more (by omega),by simp⟩
 .rw[nG0 (by simpa using hr),nG0 hr];exact LJ h hk (qO (FR hs) 1 (.inr ⟨rfl,.inl rfl⟩))
theorem JK{k m}(h:MInv k m)(hk:k<=900000000){i c c'}(hc:m.aj[i]?=some c)(hok:Sd.Ok c')(he:c'.ap=c.ap)es:XH FF ⟨gI m i c',es⟩ (i:Int)=some ⟨nX (gI m i c') c',es⟩/\MInv (k+1) (nX (gI m i c') c'):=by
 have hI:=h.put hc hok he;have hal:=hI.rH;have hol:=hI.jV;have hlt:=(gS.1 hc).1;have hx:(gI m i c').aj[i]?=some c':=by unfold gI;simp[List.getElem?_set_self hlt]
 obtain⟨hs,hE⟩:=hI.nX (List.mem_of_getElem? hx);exact⟨UH ⟨gI m i c',es⟩ i c' hx hs hI.next (by simp only;omega) (by simp only;omega),hE⟩
theorem KN c n(h:Sd.Ok c):q3q FF c n=some (zC c n)/\Sd.Ok (zC c n).1/\(zC c n).1.ap=c.ap:=by
 unfold q3q q66 q30 zC;rw[Sd.lJ FF c (by decide) h.sm];simp only[bs];have hrx:=h.tx;have hf:Sd.Ok {c with ba:=true}:=by
  obtain⟨a1,a2,b1,b2,b3,b4,b5,b6,b7,a4,a5,c1,c2,c3⟩:=h;exact⟨a1,a2,b1,b2,b3,b4,b5,b6,b7,a4,a5,c1,c2,c3⟩
 by_cases h1:c.ba=true
 .grind
 rw[nG0 h1,nG0 h1];rw[Sd.dR (x:=65535-c.aG) (by omega) (by omega)];by_cases h2:n<1
 .grind
 rw[nG0 (c:=decide (n<1)=true) (df h2),nG0 h2];by_cases h3:n>65535-c.aG
 .grind
 rw[nG0 (c:=decide (n>65535-c.aG)=true) (df h3),nG0 h3,bs,pG0 (by simp),Sd.dR (x:=c.aG+n) (by omega) (by omega)];have hff:c.ba=false:=by simpa using h1
 refine⟨rfl,?_,rfl⟩;obtain⟨a1,a2,b1,b2,b3,b4,b5,b6,b7,a4,a5,c1,c2,c3⟩:=h;exact⟨a1,a2,b1,b2,b3,b4,by simp only;omega,b6,b7,a4,a5,c1,c2,c3⟩
theorem U2{k m}(h:MInv k m)(hk:k<=900000000)s:DoesM (k+1) (q4y FF ⟨m,[]⟩ s) (yP m s,[]):=by
 have hal:=h.rH;have hcl:=h.rE;unfold q4y yP;rw[yC ⟨m,[]⟩ s.ab (by simp only;omega),bs];rcases iY m s.ab with⟨hq,hl,_⟩|⟨i,c,hq,hl,hc,hn⟩
 .rw[hl,hq,pG0 (dt (by omega))];exact⟨rfl,h.more (by omega),by simp⟩
 .rw[hl,hq,nG0 (df (by omega))];simp only[aX hc,bs,nJ ⟨m,[]⟩ c (show m.aB.length<=1000000 by omega)];by_cases hb:bE m c.ap=true
  .rw[pG0 hb,pG0 hb];exact⟨rfl,h.more (by omega),by simp⟩
  rw[nG0 hb,nG0 hb];have MB:=h.oZ c (List.mem_of_getElem? hc);obtain⟨e1,e3,e4⟩:=KN c s.aA MB;obtain⟨p1,p3⟩:=JK h hk hc e3 e4 [];unfold q7f q7e;simp only[e1,aX hc,tV hc,bs];by_cases hz:(zC c s.aA).2≠0
  .rw[pG0 (c:=((zC c s.aA).2 != 0)=true) (by simpa using hz),pG0 hz];refine⟨?_,p3,by simp⟩;show(XH FF ⟨gI m i (zC c s.aA).1,[]⟩ (i:Int)).bind _=_;rw[p1];rfl
  .rw[nG0 (c:=((zC c s.aA).2 != 0)=true) (by simpa using hz),nG0 hz];exact⟨rfl,(h.put hc e3 e4).more (by omega),by simp⟩
theorem lC m s:(takeC m s=none/\m.aB.findIdx? (fun r=>fF r s)=none)\/∃i r,takeC m s=some (i,r)/\m.aB.findIdx? (fun r=>fF r s)=some i/\m.aB[i]?=some r/\fF r s=true:=by
 unfold takeC;cases hq:m.aB.findIdx? (fun r=>fF r s)with
 | none=>exact .inl ⟨rfl,rfl⟩
 | some i=>
   rw[List.findIdx?_eq_some_iff_getElem]at hq;obtain⟨h1,h2,_⟩:=hq;have hx:m.aB[i]?=some m.aB[i]:=gE h1;refine .inr ⟨i,m.aB[i],?_,rfl,hx,h2⟩;simp only[hx]
theorem BJ m s(hl:m.aB.length<=1000):q15 FF ⟨m,[]⟩ s=some (match takeC m s with
 | none=>(zs,false,⟨m,[]⟩)
 | some (i,r)=>(r,true,⟨gF m i,[]⟩)):=by
 have hdel:∀(i:Nat) (r:aQ),m.aB[i]?=some r->q3o FF m.aB (i:Int) (aL ((i:Int)+1))=some (pK m.aB i):=fun i r hr=>by
  have hlt:=(gS.1 hr).1;unfold q3o pK;rw[wN i (by omega),pG0 (by omega)];rfl
 have k1:=lI (F:=FF) (body:=fun q:aQ×Int=>ZB FF m.aB q.1 q.2) (l:=m.aB) (p:=fun r=>fF r s) (c:=s) (g:=fun i=>(i,s)) (fun i x hx=>by
  have hlt:=(gS.1 hx).1;show ZB FF m.aB _ _=_;unfold ZB q5l;rw[i5,aX hx];simp only[bs,ada,wN i (by omega)];split<;>rfl) (by
  show ZB FF m.aB _ _=_;unfold ZB;rw[h9]) (by rw[ko];omega)
 have k1':q4l FF m.aB s=some (fidx (fun r=>fF r s) m.aB,s):=by
  unfold q4l fidx;rw[k1];cases m.aB.findIdx? (fun r=>fF r s)<;>rfl
 unfold q15;rw[k1',bs];rcases lC m s with⟨h1,h2⟩|⟨i,r,h1,h2,hx,_⟩
 .have:fidx (fun r=>fF r s) m.aB = -1:=by unfold fidx;rw[h2]
  rw[this,h1];rfl
 .have he:fidx (fun r=>fF r s) m.aB=(i:Int):=by unfold fidx;rw[h2]
  rw[he,h1,nG0 (df (by simp only;omega))];simp only[aX hx,bs,hdel i _ hx];rfl
theorem FT{k m}(h:MInv k m)n:DoesM k (q2x FF ⟨m,[]⟩ n) (pW m n):=by
 have hcl:=h.rE;unfold q2x pW;rw[wQ ⟨m,[]⟩ n (by simp only;omega),bs];rcases dD m n with⟨hq,hl,_⟩|⟨i,c,hq,hl,hc,hc2⟩
 .rw[hl,hq,nG0 (df (by omega))];exact⟨rfl,h,by simp⟩
 .rw[hl,hq,pG0 (dt (by omega)),Fv ⟨m,[]⟩ i c hc (by simp only;omega) (by simp),hc2];exact⟨rfl,h.shut i,by simp⟩
theorem QY{k m}(h:MInv k m){i r s}(hr:m.aB[i]?=some r)(Kq:r.ae=20)(hs:gX s)(hq:s.ae=21)(hz:s.Result=0):MInv k {gF m i with aj:=ku (newC r s) m.aj}/\(∀d∈m.aj,d.ap≠r.ab):=by
 obtain⟨hrs,u6⟩:=h.ask r (eO hr);obtain⟨g1,g2,g3,g4,_⟩:=MS hs (.inr ⟨hq,hz⟩);obtain⟨k1,k2,k3,k4,k5⟩:=MS hrs (.inl Kq);have hok:Sd.Ok (newC r s):=⟨by simp only[newC];omega,k5 Kq,k2,k3,g2,g3,g4,k4,k4,by simp[newC],by simp[newC],by simp[Sd.lastOf,newC],by simp only[newC];omega,by simp[newC]⟩;have hne:∀d∈m.aj,d.ap≠r.ab:=fun d hd e=>h.yO d hd r (eO hr) Kq e.symm;refine⟨(h.drop i).add hok hne (fun t ht htk=>RS h hr Kq t ht (.inl htk)) ?_,hne⟩;refine Nat.le_trans (tT (m:=m) fun v hv=>?_) h.cnt;rcases(Nb {m with aB:=pK m.aB i} _ v).1 hv with hv|hv
 .grind [eH,qR]
 .exact(eH m v).2 (.inr ⟨r,eO hr,.inl Kq,hv.symm⟩)
theorem VD{k m}(h:MInv k m){s}(hs:gX s) :
 (s.ae=1->DoesM k (q4n FF ⟨m,[]⟩ s) (l9 m s))/\(s.ae=7->DoesM k (q4p FF ⟨m,[]⟩ s) (l9 m s))/\(s.ae=19->DoesM k (q4r FF ⟨m,[]⟩ s) (l9 m s))/\(s.ae=21->DoesM k (q4x FF ⟨m,[]⟩ s) (l9 m s)):=by
 have hal:=h.rH;have hcl:=h.rE;unfold q4n q4p q4r q4x l9;rw[BJ m s (by omega)];rcases lC m s with⟨h1,_⟩|⟨i,r,h1,_,hr,ha⟩
 .rw[h1];exact⟨fun _=>⟨rfl,h,by simp⟩,fun _=>⟨rfl,h,by simp⟩,fun _=>⟨rfl,h,by simp⟩,fun _=>⟨rfl,h,by simp⟩⟩
 .rw[h1];simp only[bs,Bool.not_true,Bool.false_eq_true,if_false,if_true];have hI:MInv k (gF m i):=h.drop i;obtain⟨hrs,u6⟩:=h.ask r (eO hr);unfold fF at ha;have Ko:∀e:iw,qe FF ⟨gF m i,[]⟩ e=some ⟨gF m i,[e]⟩:=fun e=>vR _ _ (by simp);refine⟨fun hq=>?_,fun hq=>?_,fun hq=>?_,fun hq=>?_⟩
  .rcases u6 with u6|u6|u6
   .rw[pG0 (by simp[u6]),pG0 u6,pG0 hq,Ko];exact⟨rfl,hI,by simp⟩
   .grind [FT]
   .rw[nG0 (by simp[u6]),nG0 (by simp[u6]),pG0 (by simp[u6]),f7,f7,pG0 hq,Ko];exact⟨rfl,hI,by simp⟩
  .have hr6:r.ae=6:=by
    rcases u6 with u6|u6|u6
    .simp[hq,u6]at ha
    .exact u6
    .simp[hq,u6]at ha
   have hsr:s.ab=r.ab:=by simp[hq,hr6]at ha;exact ha.2.1
   rw[f7,pG0 hr6,hsr];obtain⟨z1,z2,z3⟩:=FT hI r.ab;exact⟨by rw[z1];rfl,z2,z3⟩
  .have hr18:r.ae=18:=by
    rcases u6 with u6|u6|u6
    .simp[hq,u6]at ha
    .simp[hq,u6]at ha
    .exact u6
   rw[f7,f7,f7,Ko];exact⟨rfl,hI,by simp⟩
  .have Kq:r.ae=20:=by
    rcases u6 with u6|u6|u6
    .exact u6
    .simp[hq,u6]at ha
    .simp[hq,u6]at ha
   rw[pG0 (c:=r.ae=20) Kq,nG0 (c:=s.ae=1) (by omega)];by_cases hz:s.Result=0
   .rw[nG0 (c:=(s.Result != 0)=true) (by simp[hz]),nG0 (c:=s.Result≠0) (not_not_intro hz),yC ⟨gF m i,[]⟩ s.ab (by simp only[gF];omega)];simp only[bs];have hrc:JI (gF m i) s.ab=JI m s.ab:=rfl;rw[hrc];rcases iY m s.ab with⟨hn,hl,_⟩|⟨j,c,hn,hl,hc,_⟩
    .rw[hl,hn,nG0 (df (by omega)),f8];obtain⟨hN,_⟩:=QY h hr Kq hs hq hz;have e3:=VX ⟨gF m i,[]⟩ ⟨r.ab,s.ab,r.bT,r.dh,r.cZ,s.dh,s.cZ,s.aA,r.aA,r.aA,[],0,[],0,false⟩ (show m.aj.length<=1000 by omega) (by simp);refine⟨?_,hN,by simp⟩;rw[e3];rfl
    .rw[hl,hn,pG0 (dt (by omega)),pG0 (by simp),Ko];exact⟨rfl,hI,by simp⟩
   .rw[pG0 (c:=(s.Result != 0)=true) (by simpa using hz),pG0 (c:=s.Result≠0) hz,Ko];exact⟨rfl,hI,by simp⟩
def MX(m:aJ):List Int->ME
 | x::y::_=>if y≠0/\x≠1 then(jC m (JJ y 0),[])else(m,[])
 | _=>(m,[])
def DZ(m:aJ)(b:List Int):ME:=if (Sg.rT b).2=0 then nR m (Sg.rT b).1 else MX m b
theorem DoesM.left{k P r}(h:DoesM k P r):DoesM k (P.bind fun x=>some x) r:=⟨by rw[h.1];rfl,h.2⟩
theorem DoesM.more{k n P r}(h:DoesM k P r)(hn:k<=n):DoesM n P r:=⟨h.1,h.2.1.more hn,h.2.2⟩
theorem Vy{k m}(h:MInv k m)(hk:k<=900000000){b}(hb:∀x∈b,Byte x)s e(he:e≠0)(h1:q3m FF b=some (s,e)):DoesM (k+1) (q1w FF ⟨m,[]⟩ b) (MX m b):=by
 unfold q1w;rw[h1,bs];have hz:(e != 0)=true:=by simpa using he
 rw[pG0 (c:=((s,e).2 != 0)=true) hz]
 match b,hb with
 | [],_=>exact⟨rfl,h.more (by omega),by simp[MX]⟩
 | [_],_=>exact⟨rfl,h.more (by omega),by simp[MX]⟩
 | x::y::r,hb=>
   have hx:=hb x (by simp);have hy:=hb y (by simp);have i0:idx (x::y::r) 0=some x:=dN _ 0;have i1:idx (x::y::r) 1=some y:=dN _ 1;have hl:decide (len (x::y::r)>=2)=true:=dt (by simp[len];omega);unfold MX;simp only[hl,if_true,i0,i1,bs,RB hy];by_cases hy0:y=0
   .rw[nG0 (c:=y≠0/\x≠1) (fun q=>q.1 hy0)];simp only[hy0,bne_self_eq_false,Bool.false_eq_true,if_false,bs];exact⟨rfl,h.more (by omega),by simp⟩
   .rw[pG0 (c:=(y != 0)=true) (by simpa using hy0),bs];by_cases hx1:x=1
    .rw[nG0 (c:=(x != 1)=true) (by simp[hx1]),nG0 (c:=y≠0/\x≠1) (fun q=>q.2 hx1)];exact⟨rfl,h.more (by omega),by simp⟩
    .rw[pG0 (c:=(x != 1)=true) (by simpa using hx1),pG0 (c:=y≠0/\x≠1) ⟨hy0,hx1⟩];have:=hy.1;have:=hy.2;exact LJ h hk (qO (id:=y) (by omega) 1 (.inr ⟨rfl,.inl rfl⟩))
theorem R4{k m}(h:MInv k m)(hk:k<=900000000){b}(hb:∀x∈b,Byte x)(hl:b.length<=1000000):DoesM (k+1) (q1w FF ⟨m,[]⟩ b) (DZ m b):=by
 have d1:=Sg.WU b hb hl;unfold DZ;rcases Sg.QE b hb with⟨_,c2⟩|⟨c1,c2,c3,_⟩
 .grind [Vy]
 .rw[pG0 c1];generalize Sg.rT b=z at *;obtain⟨s,e⟩:=z;simp only at c1 c2 c3;subst c1;have hs:gX s:=⟨c2,c3⟩;obtain⟨t1,t7,t19,t21⟩:=VD h hs;have hkn:=(Sg.iB c2).1;unfold q1w;rw[d1,bs,nG0 (c:=((s,(0:Int)).2 != 0)=true) (by simp)];unfold q3n nR;simp only[bs];rcases Sg.kinds s.ae with q|q|q|q|q|q|q|q|q
  .simp only[q,Int.reduceBEq,Int.reduceEq,Bool.or_true,Bool.true_or,Bool.or_false,Bool.false_or,if_true,if_false,Bool.false_eq_true];exact(t1 q).left.more (by omega)
  .grind [QD]
  .simp only[q,Int.reduceBEq,Int.reduceEq,Bool.or_true,Bool.true_or,Bool.or_false,Bool.false_or,if_true,if_false,Bool.false_eq_true];exact(t7 q).left.more (by omega)
  .grind [PW]
  .simp only[q,Int.reduceBEq,Int.reduceEq,Bool.or_true,Bool.true_or,Bool.or_false,Bool.false_or,if_true,if_false,Bool.false_eq_true];exact(t19 q).left.more (by omega)
  .grind [U7]
  .simp only[q,Int.reduceBEq,Int.reduceEq,Bool.or_true,Bool.true_or,Bool.or_false,Bool.false_or,if_true,if_false,Bool.false_eq_true];exact(t21 q).left.more (by omega)
  .grind [U2]
  .obtain⟨q1,q2,q3,q4,q5,q6,q7,q8⟩:=q;simp[Sg.aI,q1,q2,q3,q4,q5,q6,q7,q8]at hkn
def kC(c:aM)(b:List Int):aM×List (List Int)×Int:=
 if c.ba=true then(c,[],9)else if (Sd.tkn c b).2.2≠0 then({c with ba:=true},[],(Sd.tkn c b).2.2)else Sd.grown c (Sd.tkn c b).1 (Sd.tkn c b).2.1
theorem Av c b(hb:b.length<=65536)(hB:∀x∈b,Byte x)(h:Sd.Ok c):q50 FF c b=some (kC c b)/\Sd.Ok (kC c b).1/\((kC c b).1.ap=c.ap/\(kC c b).1.al=c.al)/\(kC c b).2.1.length<=1/\((kC c b).2.2=0->(kC c b).1.ba=false):=by
 have hs:=h.sm;unfold q50 kC;rw[Sd.lJ FF c (by decide) hs,bs,Sd.BJ FF c b hs hb hB h,bs];have hf:Sd.Ok {c with ba:=true}:=by
  obtain⟨a1,a2,b1,b2,b3,b4,b5,b6,b7,a4,a5,c1,c2,c3⟩:=h;exact⟨a1,a2,b1,b2,b3,b4,b5,b6,b7,a4,a5,c1,c2,c3⟩
 by_cases h1:c.ba=true
 .grind
 rw[nG0 h1,nG0 h1];by_cases h0:(Sd.tkn c b).2.2=0
 .rw[nG0 (c:=((Sd.tkn c b).2.2 != 0)=true) (by simpa using h0),nG0 (c:=(Sd.tkn c b).2.2≠0) (not_not_intro h0)];have hrx:c.aC≠0:=fun e=>by simp[Sd.tkn,e]at h0
  have hwant:=h.want;have key:(Sd.tkn c b).1.length<=1000000/\0<=(Sd.tkn c b).2.1/\(Sd.tkn c b).2.1<=c.dh:=by
   unfold Sd.tkn at h0 |-;rw[nG0 hrx]at h0 |-;by_cases h3:len b>c.cZ
   .simp[pG0 h3]at h0
   rw[nG0 h3]at h0 |-;by_cases h4:c.bi = -1
   .grind
   .grind
  obtain⟨k1,k2,k3⟩:=key;exact⟨Sd.Pb FF c _ _ (by decide) hs k1,(Sd.Kw hs h hrx k2 k3).1,⟨by unfold Sd.grown;split<;>rfl,by unfold Sd.grown;split<;>rfl⟩,(Sd.Kw hs h hrx k2 k3).2.2,fun _=>by unfold Sd.grown;split<;>simpa using h1⟩
 .grind
def full(c:aM):aM:={c with aC:=c.bd}
theorem N9 c(h:Sd.Ok c)(hf:c.ba=false)(h1:c.bd-c.aC>0):q51 FF c (c.bd-c.aC)=some (full c,0)/\Sd.Ok (full c):=by
 have hrx:=h.rx;have hg:=h.given;have e:aL (c.aC+(c.bd-c.aC))=c.bd:=by rw[Sd.dR (by omega) (by omega)];omega
 have e2:aL (65535-c.aC)=65535-c.aC:=Sd.dR (by omega) (by omega);constructor
 .unfold q51 q67 q30;rw[Sd.lJ FF c (by decide) h.sm];simp only[bs];rw[nG0 (by simp[hf]),e2,nG0 (df (by omega)),nG0 (df (by omega)),bs,pG0 (by simp),e];rfl
 .obtain⟨a1,a2,b1,b2,b3,b4,b5,b6,b7,a4,a5,c1,c2,c3⟩:=h;exact⟨a1,a2,b1,b2,b3,b4,b5,hg,b7,a4,a5,c1,c2,c3⟩
def Ip(m:aJ)(c:aM):aQ:=⟨22,oU m,0,c.ap,0,0,0,c.bd-c.aC,0,zu⟩
def needs(c:aM):Prop:=c.bd-c.aC>0/\2*c.aC<=c.bd
instance(c:aM):Decidable (needs c):=inferInstanceAs (Decidable (_/\_))
def vY(c:aM)(l:List (List Int)):List iw:=l.map fun d=>⟨3,c.ap,d,0,zu,0⟩
def nH(m:aJ)(i:Nat)(c:aM)(b:List Int):ME:=
 if (kC c b).2.2≠0 then(nX (gI m i (kC c b).1) (kC c b).1,[])
 else if needs (kC c b).1 then(jC (kH (gI m i (full (kC c b).1))) (Ip m (kC c b).1),vY (kC c b).1 (kC c b).2.1)
 else(gI m i (kC c b).1,vY (kC c b).1 (kC c b).2.1)
theorem Co m i c d:gI (gI m i c) i d=gI m i d:=by
 unfold gI;simp only[List.set_set]
theorem QF{k m}(h:MInv k m)(hk:k<=900000000){i:Nat}{c}(hc:m.aj[i]?=some c){b}(hb:∀x∈b,Byte x)(hl:b.length<=65536):DoesM (k+1) (q3r FF ⟨m,[]⟩ (i:Int) b) (nH m i c b):=by
 have hal:=h.rH;have hcl:=h.rE;have hol:=h.jV;have MB:=h.oZ c (eO hc);obtain⟨e1,e3,⟨e4,e5⟩,e6,e7⟩:=Av c b hl hb MB;unfold q3r nH;generalize kC c b=q at *;simp only[aX hc,bs,e1,tV hc];unfold q7l;have hP:=h.put hc e3 e4;by_cases hz:q.2.2≠0
 .rw[pG0 (c:=(q.2.2 != 0)=true) (by simpa using hz),pG0 hz];obtain⟨p1,p3⟩:=JK h hk hc e3 e4 [];refine⟨?_,p3,by simp⟩;show(XH FF ⟨gI m i q.1,[]⟩ (i:Int)).bind _=_;rw[p1];rfl
 rw[nG0 (c:=(q.2.2 != 0)=true) (by simpa using hz),nG0 hz];have hf:=e7 (by simpa using hz);have t:=O3 ⟨gI m i q.1,[]⟩ q e6 rfl;unfold gI at t;rw[t,bs];have hx:=wJ (c':=q.1) hc;have hrx:=e3.rx;have hgv:=e3.given;have hEl:(vY q.1 q.2.1).length<=1:=by unfold vY;rw[List.length_map];exact e6
 rw[show(q.2.1.map fun d=>(⟨3,q.1.ap,d,0,zu,0⟩:iw))=vY q.1 q.2.1 from rfl];generalize vY q.1 q.2.1=E at hEl |-;unfold q7k;rw[Sd.dR (x:=q.1.bd-q.1.aC) (by omega) (by omega),half _ hgv];by_cases hg:needs q.1
 .rw[pG0 hg];obtain⟨hg1,hg2⟩:=hg;rw[nG0 (c:=decide (q.1.bd-q.1.aC<=0)=true) (df (by omega)),bs,nG0 (c:=decide (q.1.aC>q.1.bd/2)=true) (df (by omega))];obtain⟨g1,g3⟩:=N9 q.1 e3 hf hg1;rw[g1,bs,pG0 (by simp)];have hl2:(full q.1).ap=q.1.ap:=rfl;have hP2:=hP.put hx g3 hl2;have hal2:=hP2.rH;have hol2:=hP2.jV;have acE:=jG g3;have hq:=GN (kM hP2) (src:=(full q.1).ap) (cr:=q.1.bd-q.1.aC) acE.1 (by omega);have s1:=Z5 ⟨gI (gI m i q.1) i (full q.1),E⟩ hP2.next (by simp only;omega);have s3:=uo (wm ⟨gI (gI m i q.1) i (full q.1),E⟩ (kH (gI (gI m i q.1) i (full q.1)))) _ hq (show(gI (gI m i q.1) i (full q.1)).Out.length<=1000000000 by omega);have hx':(m.aj.set i q.1)[i]?=some q.1:=hx;have hR:MInv (k+1) (jC (kH (gI m i (full q.1))) (Ip m q.1)):=by
   have:=hP2.tick.say (Ip m q.1);rw[Co]at this;exact this
  refine⟨?_,hR,hEl⟩;simp only[aX hx',bs,tV hx'];unfold q7j;show(q1p FF ⟨gI (gI m i q.1) i (full q.1),E⟩).bind _=_;rw[s1,bs,Sd.dR (x:=q.1.bd-q.1.aC) (by omega) (by omega)];unfold zu at s3;rw[s3,<-Co m i q.1 (full q.1)];rfl
 .rw[nG0 hg];unfold needs at hg;refine⟨?_,hP.more (by omega),hEl⟩;by_cases h0:q.1.bd-q.1.aC<=0
  .rw[pG0 (dt h0),bs,pG0 rfl];rfl
  .rw[nG0 (df h0),bs,pG0 (dt (by omega))];rfl
def dY(m:aJ)(f:bq):ME:=
 if f.aY=4\/f.aY=6 then(m,[⟨1,f.aY,f.am,0,zu,0⟩])
 else if f.aY=5 then DZ m f.am
 else match HZ m f.aY with
  | none=>(m,[])
  | some (i,c)=>if bE m f.aY=true then(m,[])else nH m i c f.am
def ED(m:aJ)(p:eY):ME:=match (Fr.feed m.ay p).2.1 with
 | []=>({m with ay:=(Fr.feed m.ay p).1},[])
 | f::_=>dY {m with ay:=(Fr.feed m.ay p).1} f
theorem Uo{k m}(h:MInv k m)(hk:k<=900000000){f}(hb:∀x∈f.am,Byte x)(hl:f.am.length<=65531):DoesM (k+1) (XP ⟨m,[]⟩ f) (dY m f):=by
 have hal:=h.rH;have hcl:=h.rE;unfold XP dY;by_cases c4:f.aY=4\/f.aY=6
 .rw[pG0 (c:=((f.aY==4)||(f.aY==6))=true) (by simpa using c4),pG0 c4,vR _ _ (by simp)]
  exact⟨rfl,h.more (by omega),by simp⟩
 rw[nG0 (c:=((f.aY==4)||(f.aY==6))=true) (by simpa using c4),nG0 c4]
 by_cases c5:f.aY=5
 .grind [R4]
 rw[nG0 (c:=(f.aY==5)=true) (by simpa using c5),nG0 c5];rcases dD m f.aY with⟨hn,hl',_⟩|⟨i,c,hn,hl',hc,hq⟩
 .rw[hl',hn,f7];exact⟨rfl,h.more (by omega),by simp⟩
 .rw[hl',hn];simp only
  cases hcl:bE m f.aY with
  | true=>
    rw[f8,pG0 rfl];exact⟨rfl,h.more (by omega),by simp⟩
  | false=>
    rw[pG0 (by exact⟨by omega,rfl⟩),f8];exact QF h hk hc hb (by omega)
theorem Kl{k m}(h:MInv k m)(hk:k<=900000000){p}(hp:∀x∈p.am,Byte x)(hl:p.am.length<=200000):ql FF m p=some (ED m p)/\MInv (k+1) (ED m p).1/\(ED m p).2.length<=1:=by
 have hal:=h.rH;have hcl:=h.rE;have hI:=h.iF (Fr.Dn h.asm hp);have hpay:=UA h.asm hp;have hfr:=Fr.KF m.ay p;unfold ql ED;rw[wL FF m ff (h.sz (by omega)),bs,Fr.Yx h.asm hp hl,bs];generalize Fr.feed m.ay p=x at *;unfold q7o q7n q7m;have hF:FF=(FF-2)+1+1:=by rw[ko]
 match hq:x.2.1,hfr with
 | [],_=>
   refine⟨?_,hI.more (by omega),by simp⟩;rw[hF,bF (o:=(⟨{m with ay:=x.1},[]⟩:bO)) (by
    rw[<-hF];show Xy FF [] _ 0=_;unfold Xy;rw[nG0 (df (by simp[len]))])]
   rfl
 | [f],_=>
   obtain⟨b1,b2⟩:=hpay f (by rw[hq];simp);obtain⟨z1,z2,z3⟩:=Uo hI hk b1 b2;refine⟨?_,z2,z3⟩;have o:=abQ ⟨{m with ay:=x.1},[]⟩ [f] f 0 rfl (by omega) (by simp only;omega) (by simp only;omega);rw[z1,bs,show((0:Nat):Int)=0 from rfl]at o;rw[hF,bY (s':=((⟨(dY {m with ay:=x.1} f).1,(dY {m with ay:=x.1} f).2⟩:bO),(1:Int))) (by
    rw[<-hF];exact o),bF (o:=(⟨(dY {m with ay:=x.1} f).1,(dY {m with ay:=x.1} f).2⟩:bO)) (by
    rw[<-hF];show Xy FF [f] _ 1=_;unfold Xy;rw[nG0 (df (by simp[len]))])]
   rfl
def gQ:Nat->aM->aM×List (List Int)
 | 0,c=>(c,[])
 | n+1,c=>match c.Out with
   | []=>(c,[])
   | s::r=>if c.aG>0 then((gQ n (Sd.lH c s r)).1,Sd.partOf c s::(gQ n (Sd.lH c s r)).2)else(c,[])
def pI(c:aM):aM×List (List Int):=if c.ba=true then(c,[])else gQ 65536 c
theorem Cz c s r:(Sd.lH c s r).ap=c.ap/\(Sd.lH c s r).al=c.al:=by unfold Sd.lH;split<;>exact⟨rfl,rfl⟩
theorem JQ:∀(n:Nat) F c l,Sd.Ok c->Sd.Sm c->c.aG<n->n<=F->l.length+c.aG<=100000->
 iter (fun s:aM×List (List Int)=>Wp FF s.1 s.2) F (c,l)=some ((gQ n c).1,l++(gQ n c).2)/\Sd.Ok (gQ n c).1/\((gQ n c).1.ap=c.ap/\(gQ n c).1.al=c.al)/\(gQ n c).2.length<=c.aG.toNat/\∀f∈(gQ n c).2,f.length<=4096
 | 0,F,c,l,h,_,hn,_,_=>by have:=h.tx;omega
 | n+1,F,c,l,h,hs,hn,hF,hl=>by
   have htx:=h.tx;obtain⟨G,rfl⟩:∃G,F=G+1:=⟨F-1,by omega⟩;unfold gQ;cases ho:c.Out with
   | nil=>
     refine⟨?_,h,⟨rfl,rfl⟩,by simp,by simp⟩;rw[List.append_nil];refine bF ?_;show Wp FF c l=_;unfold Wp;rw[nG0 (by rw[ho];simp[len])]
   | cons s r=>
     simp only
     by_cases hc:c.aG>0
     .rw[pG0 hc];have h1:=Sd.Sb FF c l s r (by decide) (by omega) h ho hc;obtain⟨k1,k2,k3⟩:=Sd.Mf h hs ho hc;have h3:Wp FF c l=some (.next (Sd.lH c s r,l++[Sd.partOf c s])):=by
       unfold Wp;rw[pG0 (by rw[ho];simp[len];omega),h1];rfl
      obtain⟨q1,q2,⟨q3,q4⟩,q5,q6⟩:=JQ n G (Sd.lH c s r) (l++[Sd.partOf c s]) k1 k2 (by omega) (by omega) (by simp;omega);obtain⟨n1,n2⟩:=Cz c s r;refine⟨?_,q2,⟨q3.trans n1,q4.trans n2⟩,?_,fun f hf=>?_⟩
      .rw[bY (s':=(Sd.lH c s r,l++[Sd.partOf c s])) h3,q1,List.append_assoc];rfl
      .grind
      .rcases List.mem_cons.1 hf with rfl|hf
       .have:=h.JN;unfold Sd.partOf;rw[lT0];omega
       .exact q6 f hf
     .rw[nG0 hc];refine⟨?_,h,⟨rfl,rfl⟩,by simp,by simp⟩;rw[List.append_nil];refine bF ?_;show Wp FF c l=_;unfold Wp;rw[nG0 (by simpa using fun _=>hc)]
theorem Tz c(h:Sd.Ok c):q4e FF c=some (pI c)/\Sd.Ok (pI c).1/\((pI c).1.ap=c.ap/\(pI c).1.al=c.al)/\(pI c).2.length<=65535/\∀f∈(pI c).2,f.length<=4096:=by
 have htx:=h.tx;unfold q4e q6w q6v pI;rw[Sd.lJ FF c (by decide) h.sm,bs];by_cases hf:c.ba=true
 .grind
 .rw[nG0 hf,nG0 hf];obtain⟨q1,q2,q3,q4,q5⟩:=JQ 65536 FF c [] h h.sm (by omega) (by decide) (by simp;omega);rw[q1];exact⟨rfl,q2,q3,by omega,q5⟩
def eX(m:aJ)(c:aM):aM:=if bE m c.ap=true then c else(pI c).1
def eT(m:aJ)(c:aM):List (List Int):=if bE m c.ap=true then []else(pI c).2
def jW(fr:List (List (List Int))):Nat:=fr.foldl (fun a f=>max a f.length) 0
def tC(m:aJ):aJ:=fu (m.aj.map (eX m)) (m.aj.map (eT m)) {m with aj:=m.aj.map (eX m)} (jW (m.aj.map (eT m)))
theorem rC m{c}(h:Sd.Ok c):Sd.Ok (eX m c)/\(eX m c).ap=c.ap/\(eX m c).al=c.al:=by
 unfold eX;split
 .exact⟨h,rfl,rfl⟩
 .obtain⟨_,h2,h3,_⟩:=Tz c h;exact⟨h2,h3⟩
theorem Oo m{c}(h:Sd.Ok c):(eT m c).length<=100000/\∀f∈eT m c,f.length<=4096:=by
 unfold eT;split
 .grind
 .obtain⟨_,_,_,h3,h4⟩:=Tz c h;exact⟨by omega,h4⟩
theorem Qf fr f:jW (fr++[f])=max (jW fr) f.length:=by unfold jW;rw[List.foldl_append];rfl
theorem NM n:∀(fr:List (List (List Int))) a,a<=n->(∀f∈fr,f.length<=n)->fr.foldl (fun a f=>max a f.length) a<=n
 | [],a,ha,_=>ha
 | f::fr,a,ha,h=>by
   refine NM n fr _ ?_ fun g hg=>h g (by simp[hg]);have:=h f (by simp);show max a f.length<=n;omega
theorem Qw{k}m(h:MInv k m)x(hx:x.aD=m):iter (fun s:List aM×List (List (List Int))×Int×Int=>XA FF x s.1 s.2.1 s.2.2.1 s.2.2.2) FF (m.aj,List.replicate m.aj.length [],0,0)=some (m.aj.map (eX m),m.aj.map (eT m),(jW (m.aj.map (eT m)):Int)):=by
 have hn:=h.rE;have ha:=h.rH;have key:=eG (body:=fun s:List aM×List (List (List Int))×Int×Int=>XA FF x s.1 s.2.1 s.2.2.1 s.2.2.2) (fun i=>((m.aj.take i).map (eX m)++m.aj.drop i,(m.aj.take i).map (eT m)++List.replicate (m.aj.length-i) [],(jW ((m.aj.take i).map (eT m)):Int),(i:Int))) m.aj.length (m.aj.map (eX m),m.aj.map (eT m),(jW (m.aj.map (eT m)):Int)) (fun i hi=>by
  have hci:m.aj[i]?=some m.aj[i]:=gE hi;have hok:=h.oZ _ (gM hi);generalize m.aj[i]=c at hci hok;have ht:m.aj.take (i+1)=m.aj.take i++[c]:=(jA hci).symm;have hdr:m.aj.drop i=c::m.aj.drop (i+1):=by
   have hlt:=hi;rw[List.drop_eq_getElem_cons hlt];rw[gE hlt]at hci;injection hci with hci;rw[hci]
  have hlen1:((m.aj.take i).map (eX m)).length=i:=by rw[List.length_map,lT0];omega
  have Di:((m.aj.take i).map (eT m)).length=i:=by rw[List.length_map,lT0];omega
  have hrep:List.replicate (m.aj.length-i) ([]:List (List Int))=[]::List.replicate (m.aj.length-(i+1)) []:=by
   rw[show m.aj.length-i=m.aj.length-(i+1)+1 by omega,List.replicate_succ]
  have hxl:((m.aj.take i).map (eX m)++m.aj.drop i)[i]?=some c:=by grind
  have hxf:((m.aj.take i).map (eT m)++List.replicate (m.aj.length-i) [])[i]?=some ([]:List (List Int)):=by grind
  have af3:∀d,((m.aj.take i).map (eX m)++m.aj.drop i).set i d=(m.aj.take i).map (eX m)++[d]++m.aj.drop (i+1):=fun d=>by grind
  have Ud:∀d:List (List Int),((m.aj.take i).map (eT m)++List.replicate (m.aj.length-i) []).set i d=(m.aj.take i).map (eT m)++[d]++List.replicate (m.aj.length-(i+1)) []:=fun d=>by grind
  have agc:∀q:List (List Int),((m.aj.take i).map (eT m)++[q]++List.replicate (m.aj.length-(i+1)) [])[i]?=some q:=fun q=>by grind
  show XA FF x ((m.aj.take i).map (eX m)++m.aj.drop i) ((m.aj.take i).map (eT m)++List.replicate (m.aj.length-i) []) (jW ((m.aj.take i).map (eT m)):Int) (i:Int)=some (.next ((m.aj.take (i+1)).map (eX m)++m.aj.drop (i+1),(m.aj.take (i+1)).map (eT m)++List.replicate (m.aj.length-(i+1)) [],(jW ((m.aj.take (i+1)).map (eT m)):Int),((i+1:Nat):Int)));rw[ht,List.map_append,List.map_append,mC,mC,List.map_nil,List.map_nil,Qf];unfold XA q70 q5z;rw[pG0 (dt (by rw[hx,lN];omega)),aX hxl,bs,nJ _ c (by rw[hx];simp only;omega),bs];rw[show bE ({x with aD:={x.aD with aj:=(m.aj.take i).map (eX m)++m.aj.drop i}}:bO).aD c.ap=bE m c.ap from by rw[<-hx];rfl];by_cases hb:bE m c.ap=true
  .have f1:eX m c=c:=by unfold eX;rw[pG0 hb]
   have f2:eT m c=[]:=by unfold eT;rw[pG0 hb]
   rw[pG0 hb,f1,f2,wN i (by omega),hrep,hdr];simp
  .have f1:eX m c=(pI c).1:=by unfold eX;rw[nG0 hb]
   have f2:eT m c=(pI c).2:=by unfold eT;rw[nG0 hb]
   obtain⟨q1,_⟩:=Tz c hok;have hmx:imax (jW ((m.aj.take i).map (eT m)):Int) (len (pI c).2)=((max (jW ((m.aj.take i).map (eT m))) (pI c).2.length:Nat):Int):=by unfold imax;rw[lN];split<;>omega
   rw[nG0 hb,f1,f2,q1];simp only[bs,tV hxl,aX hxf,tV hxf,af3,Ud,aX (agc (pI c).2),hmx,wN i (by omega)]) (by
  show XA FF x _ _ _ _=_;unfold XA;rw[nG0 (df (by rw[hx,lN];simp))];simp) FF 0 (by omega) (by rw[ko];omega)
 have m0:jW []=0:=rfl;simpa [m0]using key
theorem SQ{k m}(h:MInv k m)(hk:k<=900000000){l}(hml:m.aj=l){fr}(hlen:fr.length=l.length)(hn:l.length<=16)(hf:∀f∈fr,f.length<=100000/\∀b∈f,b.length<=4096)x(hx:x.aD=m)(rd:Nat)(hrd:rd<=100000) :
 iter (fun s:bO×Int=>XC FF fr (rd:Int) s.1 s.2) FF (x,0)=some (wm x (eF l fr rd m fr.length)):=by
 have hl:∀c∈l,Sd.Ok c:=by rw[<-hml];exact h.oZ
 have hf':∀f∈fr,∀b∈f,b.length<=4096:=fun f hq=>(hf f hq).2;have hinv:=uS h hl hf' rd;have at1:∀i,i<fr.length->∃f c,fr[i]?=some f/\l[i]?=some c/\f.length<=100000:=fun i hi=>
  ⟨fr[i],l[i]'(by omega),gE hi,gE (by omega),(hf _ (gM hi)).1⟩
 .have k1:=eG (body:=fun s:bO×Int=>XC FF fr (rd:Int) s.1 s.2) (fun i=>(wm x (eF l fr rd m i),(i:Int))) fr.length (wm x (eF l fr rd m fr.length)) (fun i hi=>by
   obtain⟨f,c,hfi,hci,hfl⟩:=at1 i hi;obtain⟨hI,hC⟩:=hinv i;have hol:=hI.jV;show XC FF fr (rd:Int) (wm x (eF l fr rd m i)) (i:Int)=_;unfold XC q5y;rw[pG0 (dt (by rw[lN];omega)),aX hfi,bs,gL];by_cases hr:rd<f.length
   .have hb:f[rd]?=some f[rd]:=gE hr;have hbl:=hf' f (List.mem_of_getElem? hfi) _ (gM hr);have e:Ak l fr rd (eF l fr rd m i) i=qd (eF l fr rd m i) c.al f[rd]:=by simp only[Ak,hfi,hci,hb]
    have hcc:(wm x (eF l fr rd m i)).aD.aj[i]?=some c:=by
     show(eF l fr rd m i).aj[i]?=_;rw[hC,hml,hci]
    rw[pG0 (dt (by rw[lN];omega)),aX hb,bs,aX hcc,bs,Cn _ _ _ (by omega) (by show(eF l fr rd m i).Out.length<=_;omega),bs,wN i (by omega),e];rfl
   .have hb:f[rd]?=none:=List.getElem?_eq_none (by omega);have e:Ak l fr rd (eF l fr rd m i) i=eF l fr rd m i:=by simp only[Ak,hfi,hci,hb]
    rw[nG0 (df (by rw[lN];omega)),wN i (by omega),e]) (by
   show XC FF fr (rd:Int) _ _=_;unfold XC;rw[nG0 (df (by rw[lN];simp))]) FF 0 (by omega) (by rw[ko];omega)
  have e0:wm x (eF l fr rd m 0)=x:=by
   show wm x m=x;rw[<-hx];rfl
  rw[e0]at k1;exact k1
theorem Dt{k m}(h:MInv k m)(hk:k<=800000000):q4f FF ⟨m,[]⟩=some ⟨tC m,[]⟩/\MInv (k+1600000) (tC m):=by
 have hcl:=h.rE;have hal:=h.rH;have hol:=h.jV;unfold q4f tC;have g1:=Qw m h ⟨m,[]⟩ rfl;have g4:∀c∈m.aj.map (eX m),Sd.Ok c:=fun c hc=>by
  obtain⟨d,hd,rfl⟩:=List.mem_map.1 hc;exact(rC m (h.oZ d hd)).1
 have g7:∀f∈m.aj.map (eT m),f.length<=100000/\∀b∈f,b.length<=4096:=fun f hf=>by
  obtain⟨d,hd,rfl⟩:=List.mem_map.1 hf;exact Oo m (h.oZ d hd)
 have g6:jW (m.aj.map (eT m))<=100000:=NM 100000 _ 0 (by omega) fun f hf=>(g7 f hf).1;have g3:(m.aj.map (eX m)).map (·.ap)=m.aj.map (·.ap):=by
  rw[List.map_map];exact List.map_congr_left fun c hc=>(rC m (h.oZ c hc)).2.1
 have hfl:(m.aj.map (eT m)).length=(m.aj.map (eX m)).length:=by simp
 generalize m.aj.map (eX m)=l at *;generalize m.aj.map (eT m)=fr at *;generalize jW fr=most at *;simp only
 rw[lN,CO (by omega) (by omega),bs,g1,bs];have h2:MInv k {m with aj:=l}:=h.chans g3 g4;have hll:l.length=m.aj.length:=by simpa using congrArg List.length g3
 have hf':∀f∈fr,∀b∈f,b.length<=4096:=fun f hq=>(g7 f hq).2;have hinv:=sK h2 g4 hf';have hle:∀i,i<=most->k+i*fr.length<=k+1600000:=fun i hi=>by
  have:i*fr.length<=100000*16:=Nat.mul_le_mul (by omega) (by omega);omega
 refine⟨?_,(hinv most).1.more (hle most (lR _))⟩;unfold q6z q6x;have k1:=eG (body:=fun s:bO×Int=>XB FF fr (most:Int) s.1 s.2) (fun i=>(wm ⟨m,[]⟩ (fu l fr {m with aj:=l} i),(i:Int))) most (wm ⟨m,[]⟩ (fu l fr {m with aj:=l} most)) (fun i hi=>by
  obtain⟨hI,hC⟩:=hinv i;have:=hle i (by omega);show XB FF fr (most:Int) (wm ⟨m,[]⟩ (fu l fr {m with aj:=l} i)) (i:Int)=_;unfold XB q6y;rw[pG0 (dt (by omega)),SQ (hI.more this) (by omega) (l:=l) hC (by omega) (by omega) g7 _ rfl i (by omega),bs,gH,wN i (by omega)];rfl) (by
  show XB FF fr (most:Int) _ _=_;unfold XB;rw[nG0 (df (by simp))]) FF 0 (by omega) (by rw[ko];omega)
 rw[show((0:Nat):Int)=0 from rfl]at k1;show(iter (fun s:bO×Int=>XB FF fr (most:Int) s.1 s.2) FF (wm ⟨m,[]⟩ (fu l fr {m with aj:=l} 0),0)).bind (fun o=>some o)=_;rw[k1];rfl
def iA(m:aJ):aJ×eY×Bool:=match m.Out with
 | []=>(m,⟨0,[]⟩,false)
 | f::t=>(kK m f t,XJ m f,true)
def uH(m:aJ):aJ:=if m.Out=[]then tC m else m
def sU(m:aJ):aJ×eY×Bool:=iA (uH m)
theorem Ht{k m}(h:MInv k m)(hk:k<=900000000):q5f FF ⟨m,[]⟩=some (iA m)/\MInv k (iA m).1:=by
 have hol:=h.jV;unfold q5f iA;cases ho:m.Out with
 | nil=>
   rw[pG0 (by simp[len])];exact⟨rfl,h⟩
 | cons f t=>
   have hf:=h.out f (by rw[ho];simp);have hse:=h.sent f t ho;have hlr:=H6 m;rw[ho,lC0]at hol;have hcond:¬ ((len (f::t)==0)=true):=by simp[len];omega
   rw[nG0 hcond,show idx (f::t) 0=some f from rfl,bs];have hFO:Fr.FOk f:=⟨by omega,by omega⟩;have henc:Fr.enc f=(Fr.bytesOf f,0):=by
    unfold Fr.enc;rw[f7,f7]
   rw[Fr.acX hFO,henc,bs];have hL:len (Fr.bytesOf f)=(f.am.length:Int)+4:=by rw[lN,Fr.jH];omega
   have a1:imax 0 (cO m.aS ((f.am.length:Int)+4))=m.aS:=by unfold imax cO;split<;>split<;>omega
   have a2:imax 27 (cO m.Length 251)=lim m:=by unfold imax cO lim;split<;>split<;>(try split)<;>(try split)<;>omega
   have a3:cO (imax m.Length 27) 251=lim m:=by unfold imax cO lim;split<;>split<;>(try split)<;>(try split)<;>omega
   have a4:aL ((f.am.length:Int)+4-m.aS)=(f.am.length:Int)+4-m.aS:=bW (by omega) (by omega);have a5:cO ((f.am.length:Int)+4-m.aS) (lim m)=toM m f-m.aS:=by unfold cO toM;split<;>omega
   have a6:aL (m.aS+(toM m f-m.aS))=toM m f:=by unfold toM;rw[i7];omega
   have a7:aL (m.aS+lim m)=m.aS+lim m:=bW (by omega) (by omega);have a8:cO ((f.am.length:Int)+4) (m.aS+lim m)=toM m f:=by unfold cO toM;split<;>omega
   have hto:m.aS<toM m f/\toM m f<=(f.am.length:Int)+4:=by unfold toM;omega
   have hsub:sub (Fr.bytesOf f) m.aS (toM m f)=some (((Fr.bytesOf f).take (toM m f).toNat).drop m.aS.toNat):=by
    have:=lQ (Fr.bytesOf f) m.aS.toNat (toM m f).toNat (by omega) (by rw[Fr.jH];omega);rw[show((m.aS.toNat:Nat):Int)=m.aS by omega,show(((toM m f).toNat:Nat):Int)=toM m f by omega]at this;exact this
   have hcl:(((Fr.bytesOf f).take (toM m f).toNat).drop m.aS.toNat).length<=10000:=by rw[List.length_drop,lT0,Fr.jH];omega
   simp only[a1,a2,a3,a4,a5,a6,a7,hL,a8,hsub,bs];rw[join_one FF _ (by rw[ko];omega) (by omega),bs];have hI:MInv k (kK m f t):=by
    unfold kK;split
    .exact h.outs (fun g hg=>by rw[ho];simp[hg]) (by rw[ho];simp) (fun _=>rfl) (fun g r e=>by omega)
    .rename_i hne;refine(h.outs (o:=m.Out) (s:=toM m f) (fun g hg=>hg) (lR _) (fun e=>by rw[ho]at e;cases e) (fun g r e=>?_));rw[ho]at e;injection e with e1 _;subst e1;omega
   have hprog:∀ll:Int,q5e FF ⟨m,[]⟩ (Fr.bytesOf f,0) (((Fr.bytesOf f).take (toM m f).toNat).drop m.aS.toNat) ll=some (kK m f t,⟨ll,((Fr.bytesOf f).take (toM m f).toNat).drop m.aS.toNat⟩,true):=fun ll=>by
    unfold q5e q60 q71 kK;simp only[a1,a2,a4,a5,a6,hL];by_cases hq:toM m f=(f.am.length:Int)+4
    .have hs1:sub (f::t) 1 (len (f::t))=some t:=by
      have:=lQ (f::t) 1 (f::t).length (by simp) (by simp);rw[List.take_length]at this;exact this
     rw[pG0 (dt (by omega)),pG0 hq,ho,hs1];rfl
    .grind
   refine⟨?_,hI⟩;unfold XJ;by_cases h0:m.aS=0
   .grind
   .grind
theorem PX{k m}(h:MInv k m)(hk:k<=800000000):qz FF m=some (sU m)/\MInv (k+1600000) (sU m).1:=by
 have hol:=h.jV;unfold qz sU uH;rw[wL FF m ff (h.sz (by omega)),bs];by_cases h0:m.Out=[]
 .obtain⟨c1,c3⟩:=Dt h hk;rw[pG0 (c:=(len m.Out==0)=true) (by rw[h0];rfl),pG0 h0,c1,bs];exact Ht c3 (by omega)
 .have hlen:m.Out.length≠0:=fun e=>h0 (List.eq_nil_of_length_eq_zero e);rw[nG0 (c:=(len m.Out==0)=true) (by rw[lN];simpa using h0),nG0 h0];obtain⟨q1,q2⟩:=Ht h (by omega);exact⟨q1,q2.more (by omega)⟩
namespace Po
theorem U6 m psm nV mps cr:gP (jw m psm nV mps cr).1<=gP m+314:=by grind [jw,Nt,ji,zu,pE]
theorem YB m n:gP (xk m n).1<=gP m:=by grind [xk,dD,Ho,eO]
theorem abC c b:DT (LX c b).1<=DT c+5*b.length+94:=by grind [LX,DT,WX]
theorem R9 m n b:gP (jf m n b).1<=gP m+5*b.length+94:=by grind [jf,dD,LX,Al,abC]
theorem XK m u:gP (pQ m u).1<=gP m+98:=by grind [pQ,Nt,pE]
theorem Xq m id r:gP (l5 m id r).1<=gP m+44:=by grind [l5,oo,zu,pE]
theorem YF m s:gP (vB m s).1<=gP m+260:=by
 have hr:∀r,gP (jC m (D7 s r))<=gP m+260:=fun r=>by grind [oo,D7,pE]
 unfold vB;split
 .exact hr 2
 split
 .exact hr 5
 split
 .exact hr 4
 split
 .exact hr 9
 .grind [Nu,kR,ji,oo,ku,qA,pE]
theorem Hl m id r:gP (jC m (JJ id r))<=gP m+44:=by grind [oo,JJ,pE]
theorem UU m s:gP (oI m s).1<=gP m+44:=by
 unfold oI;rcases dD m s.bK with⟨h,_⟩|⟨i,c,h,_,hc,_⟩
 .grind [Hl]
 .rw[h];simp only
  split
  .exact Hl m s.ID 2
  .have h1:=JM m hc;have h2:=oo {m with aj:=pK m.aj i} ⟨7,s.ID,0,s.ab,s.bK,0,0,0,0,zu⟩ (by simp only;omega);have e:pE 7=0:=by decide
   simp only[e]at h2;simp only
   omega
theorem Tq m s:gP (nk m s).1<=gP m+44/\(m.jm=0->(nk m s).1=m):=by grind [nk,Hl]
theorem ac0 c n:DT (zC c n).1=DT c/\(zC c n).1.ap=c.ap:=by
 unfold zC
 (repeat' split)<;>exact⟨rfl,rfl⟩
theorem YD m s:gP (yP m s)<=gP m:=by
 unfold yP;rcases iY m s.ab with⟨h,_⟩|⟨i,c,h,_,hc,_⟩
 .grind
 .grind [ac0,Al,Ho,gI,zC,eO,wJ]
theorem rD m{i r}(hr:m.aB[i]?=some r)l(h:r.ae≠6\/r.ab≠l):bE (gF m i) l=bE m l:=by
 have hlt:=(gS.1 hr).1;have he:m.aB=m.aB.take i++r::m.aB.drop (i+1):=by
  have h1:m.aB.drop i=r::m.aB.drop (i+1):=by
   rw[List.drop_eq_getElem_cons hlt];rw[gE hlt]at hr;injection hr with hr;rw[hr]
  rw[<-h1,List.take_append_drop]
 have hf:((r.ae==6)&&(r.ab==l))=false:=by grind
 unfold bE gF pK
 conv=>rhs;rw[he]
 simp only[List.any_append,List.any_cons,hf,Bool.false_or]
theorem KJ m{i r}(hr:m.aB[i]?=some r)(h:r.ae≠6):gP (gF m i)=gP m:=by
 have e:l8 (gF m i)=l8 m:=funext fun c=>by grind [l8,Wu,rD]
 unfold gP;rw[e];rfl
theorem aev{l}(h:l.Pairwise fun a b=>a.ap<b.ap){i}{c:aM}(hc:l[i]?=some c):∀d∈pK l i,d.ap≠c.ap:=by
 have hlt:=(gS.1 hc).1;have he:l=l.take i++c::l.drop (i+1):=by
  have h1:l.drop i=c::l.drop (i+1):=by
   rw[List.drop_eq_getElem_cons hlt];rw[gE hlt]at hc;injection hc with hc;rw[hc]
  rw[<-h1,List.take_append_drop]
 rw[he,List.pairwise_append,List.pairwise_cons]at h;obtain⟨_,⟨h2,_⟩,h3⟩:=h;intro d hd;unfold pK at hd;rcases List.mem_append.1 hd with hd|hd
 .grind
 .grind
theorem Un{k m}(h:MInv k m){i r}(hr:m.aB[i]?=some r):gP (pW (gF m i) r.ab).1<=gP m:=by
 unfold pW;rcases dD (gF m i) r.ab with⟨hq,_,hn⟩|⟨j,c,hq,_,hc,hl⟩
 .rw[hq];have:((gF m i).aj.map (l8 (gF m i))).sum<=(m.aj.map (l8 m)).sum:=BL _ _ _ fun d hd=>by
   unfold l8 Wu;rw[rD m hr d.ap (.inr fun e=>hn d hd e.symm)];exact lR _
  unfold gP;exact Nat.add_le_add_right this _
 .rw[hq];have hcm:m.aj[j]?=some c:=hc;have h1:=JM m hcm;have hne:=aev h.nQ hcm;have e:((pK m.aj j).map (l8 (gF m i))).sum<=((pK m.aj j).map (l8 m)).sum:=BL _ _ _ fun d hd=>by
   unfold l8 Wu;rw[rD m hr d.ap (.inr fun e=>hne d hd (by rw[hl,e]))];exact lR _
  have e2:gP {gF m i with aj:=pK (gF m i).aj j}<=gP {m with aj:=pK m.aj j}:=by
   unfold gP;exact Nat.add_le_add_right e _
  exact Nat.le_trans e2 (by omega)
theorem YW{k m}(h:MInv k m)s(hs:gX s)(hk:s.ae=1\/s.ae=7\/s.ae=19\/s.ae=21):gP (l9 m s).1<=gP m+27*pE s.ae:=by
 unfold l9;rcases lC m s with⟨h1,_⟩|⟨i,r,h1,_,hr,ha⟩
 .grind
 .rw[h1];simp only
  by_cases h20:r.ae=20
  .have hd:=KJ m hr (by omega);rw[pG0 h20];split
   .simp only;omega
   split
   .simp only;omega
   split
   .simp only;omega
   .rename_i c1 c2 c3;have hkk:s.ae=21:=by grind [fF]
    have e:pE 21=4:=by decide
    have h2:=Nu (gF m i) (newC r s) rfl;rw[hkk,e];have e2:(gF m i).aj=m.aj:=rfl;rw[e2]at h2;simp only
    omega
  .rw[nG0 h20];by_cases h6:r.ae=6
   .grind [Un]
   .rw[nG0 h6];have hd:=KJ m hr h6;simp only
    omega
theorem WR{k m}(h:MInv k m)s(hs:gX s):gP (nR m s).1<=gP m+27*pE s.ae:=by
 have hkn:=(Sg.iB hs.1).1;unfold nR;by_cases k20:s.ae=20
 .grind [YF,pE]
 rw[nG0 k20];by_cases k6:s.ae=6
 .grind [UU,pE]
 rw[nG0 k6];by_cases k18:s.ae=18
 .grind [Tq,pE]
 rw[nG0 k18];by_cases k22:s.ae=22
 .grind [YD]
 rw[nG0 k22];refine YW h s hs ?_;rcases Sg.kinds s.ae with q|q|q|q|q|q|q|q|q
 .exact .inl q
 .exact absurd q k6
 .exact .inr (.inl q)
 .exact absurd q k18
 .grind
 .exact absurd q k20
 .grind
 .exact absurd q k22
 .obtain⟨q1,q2,q3,q4,q5,q6,q7,q8⟩:=q;simp[Sg.aI,q1,q2,q3,q4,q5,q6,q7,q8]at hkn
theorem Yi c b:DT (kC c b).1=DT c/\(kC c b).1.ap=c.ap:=by
 unfold kC;split
 .exact⟨rfl,rfl⟩
 split
 .exact⟨rfl,rfl⟩
 .unfold Sd.grown;split<;>exact⟨rfl,rfl⟩
theorem U1 m{i c}(hc:m.aj[i]?=some c)b:gP (nH m i c b).1<=gP m+44:=by
 obtain⟨e1,e2⟩:=Yi c b;have h1:=Al m hc e2;unfold nH;split
 .grind [Ho,gI,kC,eO,wJ]
 split
 .have h3:=Al m (c':=full (kC c b).1) hc e2;have e3:DT (full (kC c b).1)=DT (kC c b).1:=rfl;have h4:=oo (kH (gI m i (full (kC c b).1))) (Ip m (kC c b).1) (by simp only[Ip];omega);rw[Cr]at h4;have e:pE 22=0:=by decide
  rw[show(Ip m (kC c b).1).ae=22 from rfl,e]at h4;simp only
  omega
 .simp only
  omega
def zK(f:bq):Prop:=f.aY=5->∃s,gX s/\f.am=Sg.iq s
theorem Kt{s}(hs:gX s):(Sg.iq s).headD 0=s.ae:=by
 have hk:=(Sg.iB hs.1).1;have:0<=s.ae/\s.ae<256:=Sg.yI hk;unfold Sg.iq;show lg s.ae=s.ae;exact Gx this.1 this.2
theorem Yo{k m}(h:MInv k m){f}(hg:zK f):gP (dY m f).1<=gP m+27*frX f:=by
 unfold dY frX;by_cases c4:f.aY=4\/f.aY=6
 .grind
 rw[nG0 c4,nG0 c4];by_cases c5:f.aY=5
 .obtain⟨s,hs,hp⟩:=hg c5;rw[pG0 c5,pG0 c5,hp,Kt hs];unfold DZ;rw[Sg.oJ hs.1 hs.2,pG0 rfl];exact WR h s hs
 .grind [dD,U1]
def MH(l:List (List Int)):Nat:=(l.map fun p=>p.length+84).sum
theorem XQ{c s r}(h:Sd.Ok c)(ho:c.Out=s::r):(Sd.partOf c s).length+84+DT (Sd.lH c s r)<=DT c:=by
 have hs:=h.sent;have hm:=h.JN;rw[show Sd.lastOf c=1+s.length by unfold Sd.lastOf;rw[ho]]at hs;have hp:(Sd.partOf c s).length=min c.bJ.toNat (s.length+2-c.aS.toNat):=by
  unfold Sd.partOf;rw[lT0,List.length_drop,Sd.mV]
 rw[hp];unfold Sd.lH DT;by_cases hc:c.aS+c.bJ>=s.length+2
 .grind [WX]
 .grind [WX]
theorem Nz:∀n c,Sd.Ok c->Sd.Sm c->MH (gQ n c).2+DT (gQ n c).1<=DT c
 | 0,c,_,_=>by unfold gQ MH;simp
 | n+1,c,h,hs=>by
   unfold gQ;cases ho:c.Out with
   | nil=>unfold MH;simp
   | cons s r=>
     simp only
     by_cases hc:c.aG>0
     .rw[pG0 hc];obtain⟨k1,k2,_⟩:=Sd.Mf h hs ho hc;have h1:=Nz n (Sd.lH c s r) k1 k2;have h2:=XQ h ho;unfold MH at h1 |-;simp only[mC,List.sum_cons];omega
     .grind [MH]
theorem YG m{c}(h:Sd.Ok c):MH (eT m c)+DT (eX m c)<=DT c:=by
 unfold eT eX;split
 .unfold MH;simp
 .unfold pI;split
  .unfold MH;simp
  .exact Nz 65536 c h h.sm
def later(fr:List (List (List Int)))(rd:Nat):Nat:=(fr.map fun f=>MH (f.drop rd)).sum
def CX(fr:List (List (List Int)))(rd n:Nat):Nat:=((fr.take n).map fun f=>MH (f.drop (rd+1))).sum+((fr.drop n).map fun f=>MH (f.drop rd)).sum
theorem Uq c p(h:64<=c):Lm ⟨c,p⟩=p.length+84:=by grind [Lm,frX]
theorem UR(f:List (List Int))rd:MH (f.drop rd)=(match f[rd]? with | some p=>p.length+84 | none=>0)+MH (f.drop (rd+1)):=by
 cases h:f[rd]? with
 | none=>
   have:f.length<=rd:=by rwa [List.getElem?_eq_none_iff]at h
   rw[List.drop_eq_nil_of_le this,List.drop_eq_nil_of_le (by omega)];rfl
 | some p=>
   have hlt:=(gS.1 h).1;have h1:f.drop rd=p::f.drop (rd+1):=by
    rw[List.drop_eq_getElem_cons hlt];rw[gE hlt]at h;injection h with h;rw[h]
   rw[h1];unfold MH;simp only[mC,List.sum_cons]
theorem Fp l(hl:∀c∈l,Sd.Ok c)fr rd m:∀n,n<=fr.length->gP (eF l fr rd m n)+CX fr rd n<=gP m+later fr rd
 | 0,_=>by grind [CX,later,eF]
 | n+1,hn=>by
   have ih:=Fp l hl fr rd m n (by omega);have hx:fr[n]?=some fr[n]:=gE (by omega);generalize fr[n]'(by omega)=f at hx;have h1:fr.drop n=f::fr.drop (n+1):=by
    have hlt:n<fr.length:=by omega
    rw[List.drop_eq_getElem_cons hlt];rw[gE hlt]at hx;injection hx with hx;rw[hx]
   have h2:fr.take (n+1)=fr.take n++[f]:=(jA hx).symm;rw[gL];have h3:=UR f rd;have hq:gP (Ak l fr rd (eF l fr rd m n) n)<=gP (eF l fr rd m n)+(match f[rd]? with | some p=>p.length+84 | none=>0):=by
    unfold Ak;rw[hx];cases hc:l[n]? with
    | none=>simp only;omega
    | some c=>
      have hi:=jG (hl c (eO hc));simp only
      cases hp:f[rd]? with
      | none=>simp only;omega
      | some p=>
        simp only
        rw[LZ,Uq c.al p (by omega)];omega
   unfold CX at ih |-;rw[h1]at ih;rw[h2];simp only[List.map_append,mC,List.map_nil,List.sum_append,List.sum_cons,List.sum_nil]at ih |-;omega
theorem Cb l(hl:∀c∈l,Sd.Ok c)fr m:∀n,gP (fu l fr m n)+later fr n<=gP m+later fr 0
 | 0=>lR _
 | n+1=>by
   have ih:=Cb l hl fr m n;rw[gH];have h1:=Fp l hl fr n (fu l fr m n) fr.length (lR _);have e:CX fr n fr.length=later fr (n+1):=by grind [CX,later]
   omega
theorem KP{k m}(h:MInv k m):gP (tC m)<=gP m:=by
 have g4:∀c∈m.aj.map (eX m),Sd.Ok c:=fun c hc=>by
  obtain⟨d,hd,rfl⟩:=List.mem_map.1 hc;exact(rC m (h.oZ d hd)).1
 have h1:=Cb (m.aj.map (eX m)) g4 (m.aj.map (eT m)) {m with aj:=m.aj.map (eX m)} (jW (m.aj.map (eT m)));have h2:gP {m with aj:=m.aj.map (eX m)}+later (m.aj.map (eT m)) 0<=gP m:=by
  have e:l8 {m with aj:=m.aj.map (eX m)}=l8 m:=rfl;have hs:((m.aj.map (eX m)).map (l8 m)).sum+later (m.aj.map (eT m)) 0<=(m.aj.map (l8 m)).sum:=by
   unfold later;simp only[List.drop_zero,List.map_map];have hall:=h.oZ;generalize m.aj=cs at hall
   induction cs with
   | nil=>simp
   | cons c cs ih=>
     have:=ih fun d hd=>hall d (by simp[hd]);have hc:=YG m (hall c (by simp));have hloc:=(rC m (hall c (by simp))).2.1;have e1:l8 m (eX m c)+MH (eT m c)<=l8 m c:=by grind [l8,Wu]
     simp only[mC,List.sum_cons,Function.comp_apply]at this |-;omega
  unfold gP;rw[e];show((m.aj.map (eX m)).map (l8 m)).sum+wK m+_<=_;omega
 unfold tC;omega
end Po
namespace St
structure Good(f:bq):Prop where
 mO:1<=f.aY/\f.aY<=65535
 len:f.am.length<=4096
 xQ:∀x∈f.am,Byte x
theorem Good.fok{f}(h:Good f):Fr.FOk f:=by
 have:=h.mO;have:=h.len;exact⟨by omega,by omega⟩
def dS:List bq->Nat->kV
 | f::_,s=>if s=0 then Fr.az else⟨true,(Fr.bytesOf f).take s⟩
 | [],_=>Fr.az
theorem Ow f r{s}(h:s≠0):dS (f::r) s=⟨true,(Fr.bytesOf f).take s⟩:=by
 show(if s=0 then _ else _)=_;rw[nG0 h]
theorem Yk{b t}(h:4<=t):Fr.hd (b.take t)=Fr.hd b:=by
 match b,t,h with
 | [],_,_=>simp
 | [_],t+4,_=>simp
 | [_,_],t+4,_=>simp
 | [_,_,_],t+4,_=>simp
 | x::y::z::u::r,t+4,_=>rfl
theorem Uy{f}(h:Good f){t}(ht:0<t)(hl:t<=f.am.length+4):Fr.Oi ((Fr.bytesOf f).take t) 0=if t=f.am.length+4 then(Fr.az,[f],0)else(⟨true,(Fr.bytesOf f).take t⟩,[],0):=by
 have hlen:((Fr.bytesOf f).take t).length=t:=by rw[lT0,Fr.jH];omega
 have hc:=h.mO;have hp:=h.len;unfold Fr.Oi;by_cases h4:t<4
 .grind
 rw[f7,Yk (by omega),Fr.Mx h.fok (by omega),hlen];rw[nG0 (by simp only;omega),nG0 (by simp only;omega)];by_cases he:t=f.am.length+4
 .rw[nG0 (by simp only;omega),pG0 he,List.take_of_length_le (by rw[Fr.jH];omega)];rfl
 .grind
theorem QA{f}(h:Good f)r{s t}(hs:s<t)(hl:t<=f.am.length+4):Fr.feed (dS (f::r) s) ⟨if s=0 then 2 else 1,((Fr.bytesOf f).take t).drop s⟩=if t=f.am.length+4 then(Fr.az,[f],0)else(dS (f::r) t,[],0):=by
 have hne:((Fr.bytesOf f).take t).drop s≠[]:=fun e=>by
  have:=congrArg List.length e;rw[List.length_drop,lT0,Fr.jH,List.length_nil]at this;omega
 have hres:(if t=f.am.length+4 then(Fr.az,[f],(0:Int))else(dS (f::r) t,[],0))=if t=f.am.length+4 then(Fr.az,[f],0)else(⟨true,(Fr.bytesOf f).take t⟩,[],0):=by grind [Ow]
 rw[hres,<-Uy h (by omega) hl];by_cases h0:s=0
 .subst h0;rw[show dS (f::r) 0=Fr.az from rfl];rw[List.drop_zero]at hne;unfold Fr.feed;simp only[List.drop_zero,if_true];rw[f8,nG0 (by simp[hne])];rfl
 .rw[Ow f r h0];unfold Fr.feed;rw[nG0 h0];have hj:(Fr.bytesOf f).take s++((Fr.bytesOf f).take t).drop s=(Fr.bytesOf f).take t:=by
   have:((Fr.bytesOf f).take t).take s=(Fr.bytesOf f).take s:=by rw[List.take_take];congr 1;omega
   rw[<-this,List.take_append_drop]
  rw[nG0 (by simp[hne]),nG0 (by simp[hne]),f8,f8];simp only[hj]
def Flow:List bq->Nat->List eY->List bq->Nat->Prop
 | L,s,[],O,t=>L=O/\s=t
 | L,s,p::ps,O,t=>match L with
   | []=>False
   | f::r=>∃u,s<u/\u<=f.am.length+4/\p=⟨if s=0 then 2 else 1,((Fr.bytesOf f).take u).drop s⟩/\if u=f.am.length+4 then Flow r 0 ps O t else Flow (f::r) u ps O t
theorem wX:∀ps L s O t l,Flow L s ps O t->Flow (L++l) s ps (O++l) t
 | [],L,s,O,t,l,h=>by
   obtain⟨rfl,rfl⟩:=h;exact⟨rfl,rfl⟩
 | p::ps,L,s,O,t,l,h=>by
   match L,h with
   | f::r,⟨u,h1,h2,h3,h4⟩=>
     refine⟨u,h1,h2,h3,?_⟩;by_cases he:u=f.am.length+4
     .rw[pG0 he]at h4 |-;exact wX ps r 0 O t l h4
     .rw[nG0 he]at h4 |-;exact wX ps (f::r) u O t l h4
theorem yM:∀ps L s f r t u,Flow L s ps (f::r) t->t<u->u<=f.am.length+4->Flow L s (ps++[⟨if t=0 then 2 else 1,((Fr.bytesOf f).take u).drop t⟩]) (if u=f.am.length+4 then r else f::r) (if u=f.am.length+4 then 0 else u)
 | [],L,s,f,r,t,u,h,h1,h2=>by
   obtain⟨rfl,rfl⟩:=h;refine⟨u,h1,h2,rfl,?_⟩;by_cases he:u=f.am.length+4
   .rw[pG0 he,pG0 he,pG0 he];exact⟨rfl,rfl⟩
   .rw[nG0 he,nG0 he,nG0 he];exact⟨rfl,rfl⟩
 | p::ps,L,s,f,r,t,u,h,h1,h2=>by
   match L,h with
   | g::q,⟨v,k1,k2,k3,k4⟩=>
     refine⟨v,k1,k2,k3,?_⟩;by_cases he:v=g.am.length+4
     .rw[pG0 he]at k4 |-;exact yM ps q 0 f r t u k4 h1 h2
     .rw[nG0 he]at k4 |-;exact yM ps (g::q) v f r t u k4 h1 h2
theorem zx{L s p ps O t}(h:Flow L s (p::ps) O t)(hg:∀f∈L,Good f) :
 (∃(f:bq) (r:List bq),L=f::r/\Fr.feed (dS L s) p=(dS r 0,[f],0)/\Flow r 0 ps O t)\/∃u,Fr.feed (dS L s) p=(dS L u,[],0)/\Flow L u ps O t:=by
 match L,h with
 | f::r,⟨u,h1,h2,h3,h4⟩=>
   have hf:=QA (hg f (by simp)) r h1 h2;rw[<-h3]at hf;by_cases he:u=f.am.length+4
   .rw[pG0 he]at h4 hf;refine .inl ⟨f,r,rfl,?_,h4⟩;rw[hf];cases r<;>rfl
   .grind
theorem Us{L s t}(h:Flow L s [] [] t):L=[]:=h.1
structure Zb(f:bq):Prop where
 good:Good f
 sig:Po.zK f
 nfix:f.aY≠4/\f.aY≠6
structure Same(m m':aJ):Prop where
 sent:m'.aS=m.aS
 asm:m'.ay=m.ay
 len:m'.Length=m.Length
 role:m'.jm=m.jm
def Adds(m m':aJ):Prop:=Same m m'/\∃l,m'.Out=m.Out++l/\∀f∈l,Zb f
theorem Adds.refl m:Adds m m:=⟨⟨rfl,rfl,rfl,rfl⟩,[],by simp,by simp⟩
theorem Adds.of{m m'}(h:Same m m')(ho:m'.Out=m.Out):Adds m m':=⟨h,[],by simp[ho],by simp⟩
theorem Adds.trans{a b c}(h:Adds a b)(g:Adds b c):Adds a c:=by
 obtain⟨⟨h1,h2,h3,h4⟩,l,hl,hn⟩:=h;obtain⟨⟨g1,g2,g3,g4⟩,k,hk,hm⟩:=g;refine⟨⟨g1.trans h1,g2.trans h2,g3.trans h3,g4.trans h4⟩,l++k,by rw[hk,hl,List.append_assoc],fun f hf=>?_⟩;rcases List.mem_append.1 hf with hf|hf
 .exact hn f hf
 .exact hm f hf
theorem Oz m{c b}(h:Zb ⟨c,b⟩):Adds m (qd m c b):=⟨⟨rfl,rfl,rfl,rfl⟩,[⟨c,b⟩],rfl,fun f hf=>by rw[mS]at hf;rw[hf];exact h⟩
theorem jl m{s}(h:gX s):Adds m (jC m s):=
 Oz m ⟨⟨by simp only;omega,by have:=Az s;simp only;omega,Sg.QC h.1⟩,fun _=>⟨s,h,rfl⟩,by simp only;omega⟩
theorem Dy m{s}(h:gX (fG s (oU m))):Adds m (tL m s):=
 (Adds.of (m:=m) (m':=kH m) ⟨rfl,rfl,rfl,rfl⟩ rfl).trans ((jl (kH m) h).trans (Adds.of (m:=jC (kH m) (fG s (oU m))) (m':=tL m s) ⟨rfl,rfl,rfl,rfl⟩ rfl))
theorem Dx{k m}(h:MInv k m){c}(hc:c∈m.aj):Adds m (nX m c):=by
 obtain⟨hs,_⟩:=h.nX hc;unfold nX;split
 .exact .refl m
 .exact Dy m hs
theorem QX{k m}(h:MInv k m)psm nV mps cr(hp:0<=psm/\psm<=65535):Adds m (jw m psm nV mps cr).1:=by
 unfold jw;split
 .exact .refl m
 rename_i h0;split
 .exact .refl m
 rename_i h1;split
 .exact .refl m
 rename_i h2;obtain⟨v,_,f2,f3,f4,f5⟩:=j6 (m:=m) (by omega);simp only[Bool.not_eq_false,Bool.and_eq_true]at h1;rw[f2];exact Dy m (GQ (kM h) ⟨show 1<=psm by omega,hp.2⟩ ⟨f4,f5⟩ h1.1 h1.2.1 h1.2.2)
theorem VQ{k m}(h:MInv k m)n:Adds m (xk m n).1:=by
 unfold xk;rcases dD m n with⟨hq,_⟩|⟨i,c,hq,_,hc,_⟩
 .rw[hq];exact .refl m
 .rw[hq];simp only
  split
  .exact .refl m
  split
  .exact .refl m
  .exact Dx h (eO hc)
theorem QS m n b:Adds m (jf m n b).1:=by
 unfold jf;rcases dD m n with⟨hq,_⟩|⟨i,c,hq,_,hc,_⟩
 .rw[hq];exact .refl m
 .rw[hq];simp only
  split
  .exact .refl m
  split
  .exact .of ⟨rfl,rfl,rfl,rfl⟩ rfl
  .exact .refl m
theorem VO{k m}(h:MInv k m)u:Adds m (pQ m u).1:=by
 unfold pQ;split
 .exact .refl m
 split
 .exact .refl m
 rename_i h2;split
 .exact .refl m
 split
 .exact .refl m
 exact Dy m (GL (kM h) (by simpa using h2))
theorem VN m id r:Adds m (l5 m id r).1:=by
 unfold l5;split
 .exact .refl m
 split
 .exact .refl m
 rename_i h2;split
 .exact .refl m
 have h2:=Decidable.not_not.1 h2;exact jl m (qO h2.1 19 (.inl ⟨rfl,h2.2⟩))
theorem VT{k m}(h:MInv k m){s}(hs:gX s):Adds m (vB m s).1:=by
 have hi:=FR hs;unfold vB;rcases FM m s.bT with⟨q1,_⟩|⟨i,L,q1,_,hx⟩
 .rw[q1];exact jl m (mH hi (.inl rfl))
 .have hlm:=h.Qi _ (eO hx);rw[q1];simp only
  split
  .exact jl m (mH hi (by omega))
  split
  .exact jl m (mH hi (by omega))
  rename_i hu;split
  .exact jl m (mH hi (by omega))
  .obtain⟨v,_,f2,f3,f4,f5⟩:=j6 (m:=m) (by omega);rw[f2];exact(Adds.of (m:=m) (m':={m with aj:=ku (kR s v L) m.aj}) ⟨rfl,rfl,rfl,rfl⟩ rfl).trans (jl _ (GR hi ⟨f4,f5⟩ hlm.1 hlm.2.1 hlm.2.2))
theorem GK{id r}(hi:1<=id/\id<=255)(hr:r=0\/r=2):gX (JJ id r):=qO hi 1 (.inr ⟨rfl,hr⟩)
theorem QV{k m}(h:MInv k m){s}(hs:gX s):Adds m (oI m s).1:=by
 have hi:=FR hs;unfold oI;rcases dD m s.bK with⟨hq,_⟩|⟨i,c,hq,_,hc,hl⟩
 .grind [jl,GK]
 .rw[hq];simp only
  split
  .grind [jl,GK]
  .rename_i hr;have hr:=Decidable.not_not.1 hr;have hcs:=jG (h.oZ c (eO hc));exact(Adds.of (m:=m) (m':={m with aj:=pK m.aj i}) ⟨rfl,rfl,rfl,rfl⟩ rfl).trans (jl _ (vU hi (src:=s.ab) (dst:=s.bK) (by omega) (by omega) 7 (.inr rfl)))
theorem QT m{s}(hs:gX s):Adds m (nk m s).1:=by
 unfold nk;split
 .exact .refl m
 .grind [jl,GK,FR]
theorem VR{k m}(h:MInv k m)s:Adds m (yP m s):=by
 unfold yP;rcases iY m s.ab with⟨hq,_⟩|⟨i,c,hq,_,hc,_⟩
 .rw[hq];exact .refl m
 .rw[hq];simp only
  obtain⟨_,e3,e4⟩:=KN c s.aA (h.oZ c (eO hc));have hP:=h.put hc e3 e4;split
  .exact .refl m
  split
  .exact(Adds.of (m:=m) (m':=gI m i (zC c s.aA).1) ⟨rfl,rfl,rfl,rfl⟩ rfl).trans (Dx hP (eO (wJ (c':=(zC c s.aA).1) hc)))
  .exact .of ⟨rfl,rfl,rfl,rfl⟩ rfl
theorem QU m n:Adds m (pW m n).1:=by
 unfold pW;split
 .exact .refl m
 .exact .of ⟨rfl,rfl,rfl,rfl⟩ rfl
theorem VW m s:Adds m (l9 m s).1:=by
 unfold l9;split
 .exact .refl m
 .rename_i i r _;have hd:Adds m (gF m i):=.of ⟨rfl,rfl,rfl,rfl⟩ rfl;split
  .split
   .exact hd
   split
   .exact hd
   split
   .exact hd
   .exact .of ⟨rfl,rfl,rfl,rfl⟩ rfl
  split
  .exact hd.trans (QU _ _)
  .exact hd
theorem VL{k m}(h:MInv k m){s}(hs:gX s):Adds m (nR m s).1:=by grind [nR,VT,QV,QT,VR,VW]
theorem QW{k m}(h:MInv k m){i c}(hc:m.aj[i]?=some c){b}(hb:∀x∈b,Byte x)(hl:b.length<=65536):Adds m (nH m i c b).1:=by
 obtain⟨_,e3,⟨e4,_⟩,_,e7⟩:=Av c b hl hb (h.oZ c (eO hc));have hP:=h.put hc e3 e4;unfold nH;split
 .exact(Adds.of (m:=m) (m':=gI m i (kC c b).1) ⟨rfl,rfl,rfl,rfl⟩ rfl).trans (Dx hP (eO (wJ (c':=(kC c b).1) hc)))
 rename_i hz;split
 .rename_i hg;obtain⟨g1,g2⟩:=hg;obtain⟨_,g3⟩:=N9 (kC c b).1 e3 (e7 (by simpa using hz)) g1;have hP2:=h.put hc g3 e4;have acE:=jG e3;have hgv:=e3.given;have hrx:=e3.rx;have hn:=kM hP;have hcr:gX (Ip m (kC c b).1):=GN (kM h) acE.1 (by omega);exact(Adds.of (m:=m) (m':=kH (gI m i (full (kC c b).1))) ⟨rfl,rfl,rfl,rfl⟩ rfl).trans (jl _ hcr)
 .exact .of ⟨rfl,rfl,rfl,rfl⟩ rfl
theorem VP{k m}(h:MInv k m){f}(hf:Good f)(hg:Po.zK f):Adds m (dY m f).1:=by
 have hlen:=hf.len;unfold dY;split
 .exact .refl m
 split
 .rename_i c5;obtain⟨s,hs,hp⟩:=hg c5;rw[hp];unfold DZ;rw[Sg.oJ hs.1 hs.2,pG0 rfl];exact VL h hs
 rcases dD m f.aY with⟨hn,_⟩|⟨i,c,hn,_,hc,_⟩
 .rw[hn];exact .refl m
 .rw[hn];simp only
  split
  .exact .refl m
  .exact QW h hc hf.xQ (by omega)
def Rows(m m':aJ):Prop:=∀c∈m'.aj,∀s∈c.Out,∃d∈m.aj,s∈d.Out
theorem Rows.refl m:Rows m m:=fun c hc _ hs=>⟨c,hc,hs⟩
theorem Rows.same{m m'}(h:m'.aj=m.aj):Rows m m':=fun c hc _ hs=>⟨c,by rw[<-h];exact hc,hs⟩
theorem Rows.trans{a b c}(h:Rows a b)(g:Rows b c):Rows a c:=fun x hx s hs=>by
 obtain⟨d,hd,hs⟩:=g x hx s hs;exact h d hd s hs
theorem BZ m{i c c'}(hc:m.aj[i]?=some c)(ho:∀s∈c'.Out,s∈c.Out):Rows m (gI m i c'):=fun d hd s hs=>by
 rcases List.mem_or_eq_of_mem_set hd with hd|rfl
 .exact⟨d,hd,hs⟩
 .grind
theorem JF m m' c(ho:c.Out=[])(h:m'.aj=ku c m.aj):Rows m m':=fun d hd s hs=>by
 rw[h]at hd;rcases(nA c _ d).1 hd with rfl|hd
 .grind
 .exact⟨d,hd,hs⟩
theorem Fj m m' i(h:m'.aj=pK m.aj i):Rows m m':=fun d hd s hs=>⟨d,(qR m.aj i).subset (by rw[<-h];exact hd),hs⟩
theorem Ca m c:Rows m (nX m c):=by
 unfold nX;split
 .exact .refl m
 .exact .same rfl
theorem PD m psm nV mps cr:Rows m (jw m psm nV mps cr).1:=by
 unfold jw
 (repeat' split)<;>first|exact .refl m|exact .same rfl
theorem SG m n:Rows m (xk m n).1:=by
 unfold xk
 (repeat' split)<;>first|exact .refl m|exact Ca m _
theorem SE m u:Rows m (pQ m u).1:=by
 unfold pQ
 (repeat' split)<;>first|exact .refl m|exact .same rfl
theorem SB m id r:Rows m (l5 m id r).1:=by
 unfold l5
 (repeat' split)<;>first|exact .refl m|exact .same rfl
theorem SI m s:Rows m (vB m s).1:=by
 unfold vB
 (repeat' split)<;>first|exact .same rfl|exact JF m _ _ rfl rfl
theorem Pz m s:Rows m (oI m s).1:=by
 unfold oI
 (repeat' split)<;>first|exact .same rfl|exact Fj m _ _ rfl
theorem Px m s:Rows m (nk m s).1:=by
 unfold nk
 (repeat' split)<;>exact .same rfl
theorem YE c n:(zC c n).1.Out=c.Out:=by grind [zC]
theorem SH m s:Rows m (yP m s):=by
 unfold yP;rcases iY m s.ab with⟨hq,_⟩|⟨i,c,hq,_,hc,_⟩
 .rw[hq];exact .refl m
 .rw[hq];simp only
  have hp:=BZ m (c':=(zC c s.aA).1) hc (fun t ht=>by rw[YE]at ht;exact ht);split
  .exact .refl m
  split
  .exact hp.trans (Ca _ _)
  .exact hp
theorem Py m n:Rows m (pW m n).1:=by
 unfold pW;split
 .exact .refl m
 .grind [Fj]
theorem SN m s:Rows m (l9 m s).1:=by
 unfold l9;split
 .exact .refl m
 .rename_i i r _;have hd:Rows m (gF m i):=.same rfl;split
  .split
   .exact hd
   split
   .exact hd
   split
   .exact hd
   .exact JF m _ _ rfl rfl
  split
  .exact hd.trans (Py _ _)
  .exact hd
theorem SA m s:Rows m (nR m s).1:=by grind [nR,SI,Pz,Px,SH,SN]
theorem N7 c b:(kC c b).1.Out=c.Out:=by
 unfold kC;split
 .rfl
 split
 .rfl
 .unfold Sd.grown;split<;>rfl
theorem rows_data m{i c}(hc:m.aj[i]?=some c)b:Rows m (nH m i c b).1:=by
 have hp:=BZ m (c':=(kC c b).1) hc (fun t ht=>by rw[N7]at ht;exact ht);have hp2:=BZ m (c':=full (kC c b).1) hc (fun t ht=>by
  rw[show(full (kC c b).1).Out=(kC c b).1.Out from rfl,N7]at ht;exact ht)
 unfold nH;split
 .exact hp.trans (Ca _ _)
 split
 .exact hp2.trans (.same rfl)
 .exact hp
theorem SK m b:Rows m (MX m b).1:=by
 unfold MX
 (repeat' split)<;>exact .same rfl
theorem SF m f:Rows m (dY m f).1:=by
 unfold dY;split
 .exact .refl m
 split
 .grind [DZ,SA,SK]
 rcases dD m f.aY with⟨hn,_⟩|⟨i,c,hn,_,hc,_⟩
 .rw[hn];exact .refl m
 .rw[hn];simp only
  split
  .exact .refl m
  .grind [rows_data]
def Ra(c:aM):Prop:=∀s∈c.Out,∀x∈s,Byte x
theorem JV c s r(ho:c.Out=s::r):∀t∈(Sd.lH c s r).Out,t∈c.Out:=by
 unfold Sd.lH;split
 .grind
 .intro t ht;exact ht
theorem Yr{s}(hs:∀x∈s,Byte x)(hl:s.length<=65535):∀x∈Sd.fm s,Byte x:=by
 intro x hx;unfold Sd.fm at hx;rcases List.mem_append.1 hx with hx|hx
 .grind [Byte]
 .exact hs x hx
theorem JO:∀n c,Sd.Ok c->Sd.Sm c->(∀t∈(gQ n c).1.Out,t∈c.Out)/\(Ra c->∀p∈(gQ n c).2,∀x∈p,Byte x)
 | 0,c,_,_=>⟨fun _ h=>h,fun _ p hp=>by cases hp⟩
 | n+1,c,h,hs=>by
   unfold gQ;cases ho:c.Out with
   | nil=>exact⟨fun t ht=>by rw[ho]at ht;exact ht,fun _ p hp=>by cases hp⟩
   | cons s r=>
     simp only
     by_cases hc:c.aG>0
     .rw[pG0 hc];obtain⟨k1,k2,_⟩:=Sd.Mf h hs ho hc;obtain⟨q1,q2⟩:=JO n (Sd.lH c s r) k1 k2;have hn:=JV c s r ho;refine⟨fun t ht=>by rw[<-ho];exact hn t (q1 t ht),fun hb p hp=>?_⟩;rcases List.mem_cons.1 hp with rfl|hp
      .have hsl:=h.short s (by rw[ho];simp);have hpm:=h.L8;intro x hx;unfold Sd.partOf at hx;exact Yr (hb s (by rw[ho];simp)) (by omega) x (List.mem_of_mem_drop (List.mem_of_mem_take hx))
      .exact q2 (fun t ht=>hb t (hn t ht)) p hp
     .grind
theorem KQ m{c}(h:Sd.Ok c):(∀t∈(eX m c).Out,t∈c.Out)/\(Ra c->∀p∈eT m c,∀x∈p,Byte x):=by
 unfold eX eT;split
 .grind
 .unfold pI;split
  .grind
  .exact JO 65536 c h h.sm
theorem YX{l}(hl:∀c∈l,Sd.Ok c){fr}(hf:∀f∈fr,∀p∈f,p.length<=4096/\∀x∈p,Byte x)rd m i:Adds m (Ak l fr rd m i):=by
 unfold Ak;split
 .rename_i f c h1 h2;split
  .rename_i p h3;have hi:=jG (hl c (eO h2));obtain⟨p1,p2⟩:=hf f (eO h1) p (eO h3);exact Oz m ⟨⟨by simp only;omega,p1,p2⟩,(fun e=>by simp only at e;omega),by simp only;omega⟩
  .exact .refl m
 .exact .refl m
theorem Dw{l}(hl:∀c∈l,Sd.Ok c){fr}(hf:∀f∈fr,∀p∈f,p.length<=4096/\∀x∈p,Byte x)rd m:∀n,Adds m (eF l fr rd m n)
 | 0=>.refl m
 | n+1=>by
   rw[gL];exact(Dw hl hf rd m n).trans (YX hl hf rd _ n)
theorem zI{l}(hl:∀c∈l,Sd.Ok c){fr}(hf:∀f∈fr,∀p∈f,p.length<=4096/\∀x∈p,Byte x)m:∀n,Adds m (fu l fr m n)
 | 0=>.refl m
 | n+1=>by
   rw[gH];exact(zI hl hf m n).trans (Dw hl hf n _ fr.length)
theorem VU{k m}(h:MInv k m)(hb:∀c∈m.aj,Ra c):Adds m (tC m)/\Rows m (tC m):=by
 have g4:∀c∈m.aj.map (eX m),Sd.Ok c:=fun c hc=>by
  obtain⟨d,hd,rfl⟩:=List.mem_map.1 hc;exact(rC m (h.oZ d hd)).1
 have g7:∀f∈m.aj.map (eT m),∀p∈f,p.length<=4096/\∀x∈p,Byte x:=fun f hf p hp=>by
  obtain⟨d,hd,rfl⟩:=List.mem_map.1 hf;exact⟨(Oo m (h.oZ d hd)).2 p hp,(KQ m (h.oZ d hd)).2 (hb d hd) p hp⟩
 have g3:(m.aj.map (eX m)).map (·.ap)=m.aj.map (·.ap):=by
  rw[List.map_map];exact List.map_congr_left fun c hc=>(rC m (h.oZ c hc)).2.1
 unfold tC;refine⟨(Adds.of (m:=m) (m':={m with aj:=m.aj.map (eX m)}) ⟨rfl,rfl,rfl,rfl⟩ rfl).trans (zI g4 g7 _ _),?_⟩;have hf4:∀f∈m.aj.map (eT m),∀b∈f,b.length<=4096:=fun f hf b hb'=>(g7 f hf b hb').1;have hch:=(sK (k:=k) (m:={m with aj:=m.aj.map (eX m)}) (h.chans g3 g4) g4 hf4 (jW (m.aj.map (eT m)))).2;intro c hc s hs;rw[hch]at hc;obtain⟨d,hd,rfl⟩:=List.mem_map.1 hc;exact⟨d,hd,(KQ m (h.oZ d hd)).1 s hs⟩
theorem KA{k m}(h:MInv k m){L s ps}(hf:Flow L s ps m.Out m.aS.toNat) :
 ((iA m).2.2=false->m.Out=[]/\(iA m).1=m)/\((iA m).2.2=true->Flow L s (ps++[(iA m).2.1]) (iA m).1.Out (iA m).1.aS.toNat):=by
 unfold iA;cases ho:m.Out with
 | nil=>exact⟨fun _=>⟨rfl,rfl⟩,fun e=>by cases e⟩
 | cons f t=>
   have hs:=h.sent f t ho;have hl:=H6 m;rw[ho]at hf;refine⟨(fun e=>by cases e),fun _=>?_⟩;have hto:m.aS<toM m f/\toM m f<=(f.am.length:Int)+4:=by unfold toM;omega
   have hp:XJ m f=⟨if m.aS.toNat=0 then 2 else 1,((Fr.bytesOf f).take (toM m f).toNat).drop m.aS.toNat⟩:=by grind [XJ]
   have key:=yM ps L s f t m.aS.toNat (toM m f).toNat hf (by omega) (by omega);simp only[hp];unfold kK;by_cases he:toM m f=(f.am.length:Int)+4
   .grind
   .grind
def rest(m:aJ):Nat:=Po.gP m-m.aS.toNat
theorem Jv{k m}(h:MInv k m):m.aS.toNat<=Po.gP m:=by
 unfold Po.gP Po.wK;cases ho:m.Out with
 | nil=>rw[h.pG ho];simp
 | cons f t=>
   have hs:=h.sent f t ho;simp only[mC,List.sum_cons];unfold Po.Lm;omega
theorem Tw{k m}(h:MInv k m){f t}(ho:m.Out=f::t) :
 (toM m f=(f.am.length:Int)+4->rest (kK m f t)+27+27*Po.frX f<=rest m)/\(toM m f≠(f.am.length:Int)+4->rest (kK m f t)+27<=rest m):=by
 have hs:=h.sent f t ho;have hl:=H6 m;have hto:toM m f=min ((f.am.length:Int)+4) (m.aS+lim m):=rfl;have acA:Po.gP m=(m.aj.map (Po.l8 m)).sum+(Po.Lm f+(t.map Po.Lm).sum):=by
  unfold Po.gP Po.wK;rw[ho];simp only[mC,List.sum_cons]
 have hw:Po.Lm f=f.am.length+30+27*Po.frX f:=rfl;unfold rest kK;constructor
 .intro he;rw[pG0 he];have:Po.gP {m with Out:=t,aS:=0}=(m.aj.map (Po.l8 m)).sum+(t.map Po.Lm).sum:=rfl;rw[this,acA,hw];show _-(0:Int).toNat+27+_<=_;rw[show(0:Int).toNat=0 from rfl];omega
 .intro he;rw[nG0 he];have:Po.gP {m with aS:=toM m f}=Po.gP m:=rfl;rw[this];show Po.gP m-(toM m f).toNat+27<=_;rw[acA,hw];omega
def iN(f:bq):Bool:=f.aY==4||f.aY==6
theorem XU{l:List bq}(h:∀f∈l,Zb f):l.filter iN=[]:=by
 rw[List.filter_eq_nil_iff];intro f hf;have:=(h f hf).nfix;unfold iN;simp[this.1,this.2]
structure Way(L:List bq)(s:Nat)(ps:List eY)(a b:aJ)(fx:List bq):Prop where
 flow:Flow L s ps a.Out a.aS.toNat
 asm:b.ay=dS L s
 good:∀f∈L,Good f/\Po.zK f
 fix:L.filter iN=fx
 emp:L=[]->s=0
theorem Way.adds{L s ps a a' b fx}(h:Way L s ps a b fx)(ha:Adds a a'):∃l,(∀f∈l,Zb f)/\a'.Out=a.Out++l/\Way (L++l) s ps a' b fx:=by
 obtain⟨⟨h1,h2,h3,h4⟩,l,hl,hn⟩:=ha;refine⟨l,hn,hl,?_,?_,fun f hf=>?_,?_,fun e=>h.emp (List.append_eq_nil_iff.1 e).1⟩
 .rw[hl,h1];exact wX ps L s a.Out a.aS.toNat l h.flow
 .rw[h.asm];cases L with
  | cons f r=>rfl
  | nil=>
    rw[h.emp rfl];cases l<;>rfl
 .rcases List.mem_append.1 hf with hf|hf
  .exact h.good f hf
  .exact⟨(hn f hf).good,(hn f hf).sig⟩
 .rw[List.filter_append,h.fix,XU hn,List.append_nil]
theorem Way.right{L s ps a b b' fx}(h:Way L s ps a b fx)(hb:b'.ay=b.ay):Way L s ps a b' fx:=⟨h.flow,hb.trans h.asm,h.good,h.fix,h.emp⟩
end St
namespace Sy
structure Wr where
 s0:aJ
 s1:aJ
 a0:List eY
 a1:List eY
 sd:Nat->List (List Int)
 f0:List bq
 f1:List bq
 cn:Nat->Bool
 par:Int
 dat:Bool
 MI:Bool
 ans:Bool
def Wr.s(w:Wr)(k:Bool):aJ:=if k=true then w.s1 else w.s0
def Wr.a(w:Wr)(k:Bool):List eY:=if k=true then w.a1 else w.a0
def Wr.f(w:Wr)(k:Bool):List bq:=if k=true then w.f1 else w.f0
def Wr.dz(w:Wr)(k:Bool)(m:aJ):Wr:=if k=true then {w with s1:=m}else {w with s0:=m}
def Wr.iQ(w:Wr)(k:Bool)(l:List eY):Wr:=if k=true then {w with a1:=l}else {w with a0:=l}
def Wr.qQ(w:Wr)(k:Bool)(l:List bq):Wr:=if k=true then {w with f1:=l}else {w with f0:=l}
def slot(k:Bool)(mO:Int):Nat:=(if k=true then 64 else 0)+(mO%64).toNat
def Jy(w:Wr)(k:Bool)(mO:Int)(b:List Int):Option aM:=(w.s k).aj.find? fun c=>c.ap==mO&&(match w.sd (slot (!k) c.al)with
 | d::_=>str d==str b
 | []=>false)
def dH(w:Wr)(k:Bool)(x:iw):Wr:=
 if x.ae=2 then {w with sd:=aH w.sd (slot k x.aY) [],cn:=aH w.cn (slot k x.aY) false}
 else if x.ae=5 then {w with ans:=w.ans || !w.cn (slot k x.aY),cn:=aH w.cn (slot k x.aY) false}
 else if x.ae=1 then(match w.f (!k)with
  | f::r=>if f.aY=x.aY/\f.am=x.bk then w.qQ (!k) r else {w with MI:=true}
  | []=>{w with MI:=true})
 else if x.ae=3 then(match Jy w k x.aY x.bk with
  | some c=>{w with sd:=aH w.sd (slot (!k) c.al) (w.sd (slot (!k) c.al)).tail}
  | none=>{w with dat:=true})
 else if x.ae=6 then(if (l5 (w.s k) x.ID (x.ao.aO.tmod 2)).2=0 then w.dz k (l5 (w.s k) x.ID (x.ao.aO.tmod 2)).1 else {w.dz k (l5 (w.s k) x.ID (x.ao.aO.tmod 2)).1 with par:=-1000})
 else if x.ae=7 then {w with par:=w.par-1,ans:=w.ans||(w.par-1 == -1)}
 else w
def jv(w:Wr)(k:Bool):Wr×Bool:=if (sU (w.s k)).2.2=true then((w.dz k (sU (w.s k)).1).iQ k (w.a k++[(sU (w.s k)).2.1]),true)else(w.dz k (sU (w.s k)).1,false)
def dK:Nat->Wr->Bool->Bool->Wr×Bool
 | 0,w,_,y=>(w,y)
 | n+1,w,k,y=>if (jv w k).2=true then dK n (jv w k).1 k true else((jv w k).1,y)
def rG(w:Wr)(k:Bool)(p:eY)(r:List eY):Wr:=(ED (w.s (!k)) p).2.foldl (fun w x=>dH w (!k) x) ((w.iQ k r).dz (!k) (ED (w.s (!k)) p).1)
def cK:Nat->Wr->Bool->Wr
 | 0,w,_=>w
 | n+1,w,k=>match w.a k with
   | []=>w
   | p::r=>cK n (rG w k p r) k
open St
theorem MInv.tight{k m}(h:MInv k m):MInv m.Out.length m:={h with jV:=lR _}
end Sy
namespace St
def aK(r:aQ):bq:=⟨5,Sg.iq r⟩
def DI(m:aJ):Prop:=(m.aB.map (·.ID)).Nodup
structure IW(m m':aJ):Prop where
 out:∃l,m'.Out=m.Out++l/\∀r∈m'.aB,r∈m.aB\/aK r∈l
 ids:m.aB.length<255->1<=m.bV/\m.bV<=255->DI m->DI m'
structure AP(m m':aJ):Prop where
 ask:m'.aB=m.aB
 lH:m'.bV=m.bV
 out:∃l,m'.Out=m.Out++l
theorem AP.refl m:AP m m:=⟨rfl,rfl,[],by simp⟩
theorem AP.trans{a b c}(h:AP a b)(g:AP b c):AP a c:=by
 obtain⟨l,hl⟩:=h.out;obtain⟨k,hk⟩:=g.out;exact⟨g.ask.trans h.ask,g.lH.trans h.lH,l++k,by rw[hk,hl,List.append_assoc]⟩
theorem AP.same{m m'}(h1:m'.aB=m.aB)(h2:m'.bV=m.bV)(h3:m'.Out=m.Out):AP m m':=⟨h1,h2,[],by rw[h3];simp⟩
theorem AP.req{m m'}(h:AP m m'):IW m m':=by
 obtain⟨l,hl⟩:=h.out;exact⟨⟨l,hl,fun r hr=>.inl (h.ask▸hr)⟩,fun _ _ hd=>by unfold DI at hd |-;rw[h.ask];exact hd⟩
theorem IW.ask0{m m'}(h1:m'.aB=m.aB)l(h3:m'.Out=m.Out++l):IW m m':=⟨⟨l,h3,fun r hr=>.inl (h1▸hr)⟩,fun _ _ hd=>by unfold DI at hd |-;rw[h1];exact hd⟩
theorem IW.refl m:IW m m:=(AP.refl m).req
theorem AP.thn{a b c}(h:AP a b)(g:IW b c):IW a c:=by
 obtain⟨l,hl⟩:=h.out;obtain⟨k,hk,hr⟩:=g.out;refine⟨⟨l++k,by rw[hk,hl,List.append_assoc],fun r hm=>?_⟩,fun h1 h2 hd=>g.ids (by rw[h.ask];exact h1) (by rw[h.lH];exact h2) (by unfold DI at hd |-;rw[h.ask];exact hd)⟩;rcases hr r hm with q|q
 .exact .inl (h.ask▸q)
 .grind
theorem Ae m s:AP m (jC m s):=⟨rfl,rfl,[aK s],rfl⟩
theorem TH{m}(h1:m.aB.length<255)(h2:1<=m.bV/\m.bV<=255):∀s∈m.aB,s.ID≠oU m:=fun s hs e=>by
 have:=yF m.aB 255 m.bV (uW m.aB m.bV h2 h1);rw[List.any_eq_false]at this;exact this s hs (by simpa [oU]using e)
theorem He m s:IW m (tL m s):=by
 refine⟨⟨[aK (fG s (oU m))],rfl,fun r hr=>?_⟩,fun h1 h2 hd=>?_⟩
 .grind [tL,mS]
 .unfold DI tL at *;rw[List.map_append,List.nodup_append];refine⟨hd,by simp,fun a ha b hb=>?_⟩;simp only[mC,List.map_nil,mS]at hb;obtain⟨t,ht,rfl⟩:=List.mem_map.1 ha;rw[hb];exact TH h1 h2 t ht
theorem GZ m c:IW m (nX m c):=by
 unfold nX;split
 .exact .refl m
 .exact He m _
theorem SY m psm nV mps cr:IW m (jw m psm nV mps cr).1:=by
 unfold jw
 (repeat' split)<;>first|exact .refl m|exact He m _
theorem Xo m n:IW m (xk m n).1:=by
 unfold xk
 (repeat' split)<;>first|exact .refl m|exact GZ m _
theorem Xn m u:IW m (pQ m u).1:=by
 unfold pQ
 (repeat' split)<;>first|exact .refl m|exact He m _
theorem Af m i c:AP m (gI m i c):=.same rfl rfl rfl
theorem Si m n b:AP m (jf m n b).1:=by
 unfold jf
 (repeat' split)<;>exact .same rfl rfl rfl
theorem WY m id r:AP m (l5 m id r).1:=by
 unfold l5
 (repeat' split)<;>first|exact .same rfl rfl rfl|exact Ae m _
theorem WZ m s:AP m (vB m s).1:=by
 unfold vB
 (repeat' split)<;>first|exact Ae m _|exact⟨rfl,rfl,_,rfl⟩
theorem Sk m s:AP m (oI m s).1:=by
 unfold oI
 (repeat' split)<;>first|exact Ae m _|exact⟨rfl,rfl,_,rfl⟩
theorem Sj m s:AP m (nk m s).1:=by
 unfold nk;split
 .exact .refl m
 .exact Ae m _
theorem Xp m s:IW m (yP m s):=by
 unfold yP;split
 .exact .refl m
 .split
  .exact .refl m
  split
  .exact(Af m _ _).thn (GZ _ _)
  .exact(Af m _ _).req
theorem SX m i c b:IW m (nH m i c b).1:=by
 unfold nH;split
 .exact(Af m _ _).thn (GZ _ _)
 split
 .exact .ask0 rfl _ rfl
 .exact(Af m _ _).req
theorem Fg l fr rd m:∀n,AP m (eF l fr rd m n)
 | 0=>.refl m
 | n+1=>by
   rw[gL];refine(Fg l fr rd m n).trans ?_;unfold Ak
   (repeat' split)<;>first|exact .same rfl rfl rfl|exact⟨rfl,rfl,_,rfl⟩
theorem BU l fr m:∀n,AP m (fu l fr m n)
 | 0=>.refl m
 | n+1=>by
   rw[gH];exact(BU l fr m n).trans (Fg l fr n _ _)
theorem W9 m:AP m (tC m):=by
 unfold tC;exact(AP.same (m:=m) (m':={m with aj:=m.aj.map (eX m)}) rfl rfl rfl).trans (BU _ _ _ _)
theorem kQ{r a}(h:fF r a=true):r.ID=a.ID:=by grind [fF]
theorem TN{m}(hd:DI m){i r}(hr:m.aB[i]?=some r):r∉pK m.aB i:=fun hm=>by
 unfold DI at hd;unfold pK at hm;have hi:=(gS.1 hr).1;have hsp:m.aB=m.aB.take i++r::m.aB.drop (i+1):=by
  have h1:=List.drop_eq_getElem_cons hi;rw[(gS.1 hr).2]at h1;rw[<-h1,List.take_append_drop]
 rw[hsp,List.map_append,mC,List.nodup_append]at hd;obtain⟨_,d2,d3⟩:=hd;rw[List.nodup_cons]at d2;rcases List.mem_append.1 hm with hm|hm
 .exact d3 r.ID (List.mem_map.2 ⟨r,hm,rfl⟩) r.ID (by simp) rfl
 .grind
theorem VB{m}s:(∀r∈m.aB,fF r s=false)/\l9 m s=(m,[])\/∃i r,m.aB[i]?=some r/\fF r s=true/\(l9 m s).1.aB=pK m.aB i/\(l9 m s).1.Out=m.Out:=by
 unfold l9;cases ht:takeC m s with
 | none=>
   refine .inl ⟨fun r hr=>?_,rfl⟩;unfold takeC at ht;cases hf:m.aB.findIdx? (fun r=>fF r s)with
   | none=>
     rw[List.findIdx?_eq_none_iff]at hf;simpa using hf r hr
   | some i=>
     rw[hf]at ht;simp only at ht;obtain⟨hi,_⟩:=List.findIdx?_eq_some_iff_getElem.1 hf;rw[gE hi]at ht;cases ht
 | some q=>
   obtain⟨i,r⟩:=q;have h2:m.aB[i]?=some r/\fF r s=true:=by
    unfold takeC at ht;cases hf:m.aB.findIdx? (fun r=>fF r s)with
    | none=>rw[hf]at ht;cases ht
    | some j=>
      rw[hf]at ht;obtain⟨hj,hp,_⟩:=List.findIdx?_eq_some_iff_getElem.1 hf;simp only[gE hj,Option.some.injEq,Prod.mk.injEq]at ht;obtain⟨rfl,rfl⟩:=ht;exact⟨gE hj,hp⟩
   refine .inr ⟨i,r,h2.1,h2.2,?_⟩;simp only
   unfold pW
   (repeat' split)<;>exact⟨rfl,rfl⟩
structure Inc(m m':aJ)(s:aQ):Prop where
 req:IW m m'
 gone:DI m->∀r∈m'.aB,r∈m.aB->fF r s=true->False
theorem IE{r s}(h:s.ae≠21/\s.ae≠1/\s.ae≠7/\s.ae≠19):fF r s=true->False:=fun e=>by grind [fF]
theorem Yh{m}s:Inc m (nR m s).1 s:=by
 unfold nR;split
 .rename_i h;exact⟨(WZ m s).req,fun _ r _ _ e=>IE (by omega) e⟩
 split
 .rename_i h;exact⟨(Sk m s).req,fun _ r _ _ e=>IE (by omega) e⟩
 split
 .rename_i h;exact⟨(Sj m s).req,fun _ r _ _ e=>IE (by omega) e⟩
 split
 .rename_i h;exact⟨Xp m s,fun _ r _ _ e=>IE (by omega) e⟩
 .rcases VB (m:=m) s with⟨h1,h2⟩|⟨i,r,h1,h2,h3,h4⟩
  .rw[h2];exact⟨.refl m,fun _ r hr _ e=>by rw[h1 r hr]at e;cases e⟩
  .refine⟨⟨⟨[],by rw[h4];simp,fun t ht=>.inl ?_⟩,fun _ _ hd=>?_⟩,fun hd t ht hm e=>?_⟩
   .grind [qR]
   .unfold DI at hd |-;rw[h3];exact hd.sublist ((qR m.aB i).map _)
   .rw[h3]at ht;have hid:t.ID=r.ID:=(kQ e).trans (kQ h2).symm;have htr:t=r:=by
     unfold DI at hd;obtain⟨j,hj⟩:=List.getElem?_of_mem hm;have g1:(m.aB.map (·.ID))[j]?=some t.ID:=by rw[List.getElem?_map,hj];rfl
     have g2:(m.aB.map (·.ID))[i]?=some t.ID:=by rw[List.getElem?_map,h1,hid];rfl
     have hjl:j<(m.aB.map (·.ID)).length:=(gS.1 g1).1;have:=(List.getElem?_inj hjl hd).1 (g1.trans g2.symm);subst this;rw[hj]at h1;injection h1
    subst htr;exact TN hd h1 ht
end St
namespace Sy
open St Po
theorem eU(w:Wr)k m:(w.dz k m).s k=m/\(w.dz k m).s (!k)=w.s (!k):=by cases k<;>exact⟨rfl,rfl⟩
theorem jI(w:Wr)k j m:(w.dz k m).a j=w.a j/\(w.dz k m).f j=w.f j:=by cases k<;>cases j<;>exact⟨rfl,rfl⟩
theorem DF(w:Wr)k l:(w.iQ k l).a k=l/\(w.iQ k l).a (!k)=w.a (!k):=by cases k<;>exact⟨rfl,rfl⟩
theorem jD(w:Wr)k j l:(w.iQ k l).s j=w.s j/\(w.iQ k l).f j=w.f j:=by cases k<;>cases j<;>exact⟨rfl,rfl⟩
theorem UC(w:Wr)k l:(w.qQ k l).f k=l/\(w.qQ k l).f (!k)=w.f (!k):=by cases k<;>exact⟨rfl,rfl⟩
theorem iX(w:Wr)k j l:(w.qQ k l).s j=w.s j/\(w.qQ k l).a j=w.a j:=by cases k<;>cases j<;>exact⟨rfl,rfl⟩
theorem l7(w:Wr)k m l q:(w.dz k m).MI=w.MI/\(w.iQ k l).MI=w.MI/\(w.qQ k q).MI=w.MI:=by cases k<;>exact⟨rfl,rfl,rfl⟩
theorem YP k:¬ (!k)=k:=by cases k<;>simp
theorem dx j k:j=k\/j = !k:=by cases j<;>cases k<;>simp
theorem yg(w:Wr)k m m':(w.dz k m).dz k m'=w.dz k m':=by cases k<;>rfl
theorem ug(w:Wr)k:w.dz k (w.s k)=w:=by cases k<;>rfl
def at_{α:Type}(g:Bool->α)(k:Bool)(x:α):Bool->α:=fun j=>if j=k then x else g j
theorem iC{α}g k(x:α):at_ g k x k=x:=pG0 rfl
theorem gG{α}g k(x:α):at_ g k x (!k)=g (!k):=nG0 (YP k)
theorem Fa(w:Wr)k:w.qQ k (w.f k)=w:=by cases k<;>rfl
end Sy
namespace Cx
open St Po Sy
structure Vw where
 ch:Int->Option aM
 rq:aQ->Prop
 dl:Int->List (List Int)
def upd{α:Type}(g:Int->α)(v:Int)(x:α):Int->α:=fun u=>if u=v then x else g u
def iH(s:Vw)(v:Int):Prop:=∃r,s.rq r/\r.ae=6/\r.ab=v
def Quiet(f:bq):Prop:=iN f=true\/∃x,gX x/\f=aK x/\(x.ae=20\/x.ae=18\/x.ae=19)
def DN(f:bq):Prop:=f.aY≠4/\f.aY≠5/\f.aY≠6
def For(v:Int)(f:bq)(c:aM):Prop:=(DN f/\f.aY=v)\/∃x,gX x/\x.ae=22/\f=aK x/\c.al=x.ab
def Ev(v:Int)(f:bq)(c c':aM)(ds:List (List Int)):Prop:=(DN f/\f.aY=v/\kC c f.am=(c',ds,0))\/∃x,gX x/\x.ae=22/\f=aK x/\c.al=x.ab/\zC c x.aA=(c',0)/\ds=[]
def Ro(s:Vw)(x r:aQ)(o:Option aM):Prop:=(r.ae=6/\x.ae=7/\o=none)\/(r.ae=20/\x.ae=21/\((x.Result≠0/\o=none)\/(x.Result=0/\o=some (newC r x)/\∀v c,s.ch v=some c->c.al≠x.ab)))
inductive Rp:Vw->bq->Vw->Prop
 | skip {s:Vw} {f:bq} (h:Quiet f):Rp s f s
 | KL {s:Vw} {x:aQ} {c:aM} (h:gX x) (k:x.ae=6) (hc:s.ch x.bK=some c) (he:c.al=x.ab):Rp s (aK x) ⟨upd s.ch x.bK none,s.rq,s.dl⟩
 | ans {s:Vw} {x r:aQ} {o:Option aM} (h:gX x) (hr:s.rq r) (ha:fF r x=true) (ho:Ro s x r o):Rp s (aK x) ⟨upd s.ch r.ab o,fun q=>s.rq q/\q.ID≠x.ID,upd s.dl r.ab []⟩
 | MU {s:Vw} {f:bq} {v:Int} {c c':aM} {ds:List (List Int)} (hc:s.ch v=some c) (hn:¬ iH s v) (h:Ev v f c c' ds):Rp s f ⟨upd s.ch v (some c'),s.rq,upd s.dl v (s.dl v++ds)⟩
 | late {s:Vw} {f:bq} {v:Int} {c:aM} (hc:s.ch v=some c) (hn:iH s v) (h:For v f c):Rp s f s
inductive Replay:Vw->List bq->Vw->Prop
 | nil {s:Vw}:Replay s [] s
 | cons {s t u:Vw} {f:bq} {l:List bq} (h:Rp s f t) (hr:Replay t l u):Replay s (f::l) u
theorem Replay.snoc{s t u l f}(h:Replay s l t)(hf:Rp t f u):Replay s (l++[f]) u:=by
 induction h with
 | nil=>exact .cons hf .nil
 | cons h1 _ ih=>exact .cons h1 (ih hf)
theorem sim{R:Vw->Vw->Prop}{P:bq->Prop}(hR:∀s s' f t,R s s'->P f->Rp s f t->∃t',Rp s' f t'/\R t t'){s s' t l}(h:Replay s l t)(hP:∀f∈l,P f)(h0:R s s'):∃t',Replay s' l t'/\R t t':=by
 induction h generalizing s' with
 | nil=>exact⟨s',.nil,h0⟩
 | cons h1 _ ih=>
   obtain⟨q,q1,q2⟩:=hR _ _ _ _ h0 (hP _ (by simp)) h1;obtain⟨t',t1,t2⟩:=ih (fun f hf=>hP f (by simp[hf])) q2;exact⟨t',.cons q1 t1,t2⟩
theorem Rp.le{s t f}(h:Rp s f t){r}(hr:t.rq r):s.rq r:=by
 cases h<;>first|exact hr|exact hr.1
theorem Replay.le{s t l}(h:Replay s l t){r}(hr:t.rq r):s.rq r:=by
 induction h with
 | nil=>exact hr
 | cons h1 _ ih=>exact h1.le (ih hr)
theorem Replay.iH{s t:Vw}{l:List bq}(h:Replay s l t){v:Int}:iH t v->iH s v:=fun⟨r,a,b⟩=>⟨r,h.le a,b⟩
def IV(c:aM):Prop:=0<=c.aC/\c.aC<=200000
theorem aa8{c}(h:Sd.Ok c):IV c:=⟨h.rx.1,by have:=h.rx;omega⟩
structure EM(c c':aM):Prop where
 loc:c'.ap=c.ap
 rem:c'.al=c.al
 out:c'.Out=c.Out
 sent:c'.aS=c.aS
 JN:c'.bJ=c.bJ
 L8:c'.gu=c.gu
 psm:c'.bT=c.bT
 nV:c'.dh=c.dh
 mps:c'.cZ=c.cZ
 tx:c.aG<=c'.aG
 rx:c'.aC<=c.aC
 given:c'.bd=c.bd
 rxs:IV c'
 fld:c'.ba=c.ba
theorem Nj{c b}(hP:IV c)(ho:(kC c b).2.2=0):EM c (kC c b).1/\c.ba=false/\(kC c b).1.aG=c.aG:=by
 unfold kC at ho |-;split at ho
 .cases ho
 rename_i g1;split at ho
 .grind
 rename_i g2;rw[nG0 g1,nG0 g2];have hz:(Sd.tkn c b).2.2=0:=by simpa using g2
 have h0:c.aC≠0:=fun e=>by
  unfold Sd.tkn at hz;rw[pG0 e]at hz;cases hz
 unfold IV at hP;have e5:aL (c.aC-1)=c.aC-1:=Sd.dR (by omega) (by omega);refine⟨?_,by simpa using g1,by unfold Sd.grown;split<;>rfl⟩
 unfold Sd.grown;rw[e5];split<;>constructor<;>first|rfl|(unfold IV;simp only;omega)|(simp only;omega)
theorem crc{c c' n}(h:zC c n=(c',0)):c'={c with aG:=c.aG+n}/\c.ba=false/\1<=n/\n<=65535-c.aG:=by grind [zC]
theorem U3{c n}(hf:c.ba=false)(h1:1<=n)(h2:n<=65535-c.aG):zC c n=({c with aG:=c.aG+n},0):=by
 unfold zC
 grind
theorem oF{v f c c' ds}(hP:IV c)(h:Ev v f c c' ds):EM c c':=by
 rcases h with⟨_,_,h⟩|⟨x,_,_,_,_,h,_⟩
 .grind [Nj]
 .obtain⟨rfl,_,h1,_⟩:=crc h;exact⟨rfl,rfl,rfl,rfl,rfl,rfl,rfl,rfl,rfl,by simp only;omega,Int.le_refl _,rfl,hP,rfl⟩
structure VI(s:Vw):Prop where
 loc:∀v c,s.ch v=some c->c.ap=v
 rem:∀u v c d,s.ch u=some c->s.ch v=some d->c.al=d.al->u=v
 sep:∀r,s.rq r->r.ae=20->s.ch r.ab=none
 src:∀r q,s.rq r->s.rq q->r.ab=q.ab->r=q
 ids:∀r q,s.rq r->s.rq q->r.ID=q.ID->r=q
 ok:∀r,s.rq r->gX r/\(r.ae=20\/r.ae=6)
 rx:∀v c,s.ch v=some c->IV c
theorem kQ{r x}(h:fF r x=true):r.ID=x.ID:=by grind [fF]
theorem cr20{r}(h:gX r)(hk:r.ae=20)x:IV (newC r x):=by
 obtain⟨_,_,_,_,_,h6⟩:=Sg.iB h.1;rcases h6 with h6|⟨h6,_⟩
 .omega
 .unfold Sg.iV at h6;rw[hk]at h6;simp[Sg.aI]at h6;show 0<=r.aA/\r.aA<=200000;omega
theorem VI.step{s t f}(h:VI s)(hf:Rp s f t):VI t:=by
 obtain⟨a1,a2,a3,a4,a5,a6,a7⟩:=h;cases hf with
 | skip _=>exact⟨a1,a2,a3,a4,a5,a6,a7⟩
 | late _ _ _=>exact⟨a1,a2,a3,a4,a5,a6,a7⟩
 | KL _ _ _ _=>constructor<;>simp only[upd]<;>grind
 | MU hc hn h=>
   have:=oF (a7 _ _ hc) h;have h1:=this.loc;have h2:=this.rem;have h3:=this.rxs;clear this;constructor<;>simp only[upd]<;>grind
 | @ans x r o hx hr ha ho=>
   have hi:=kQ ha;have h1:r.ae=20->IV (newC r x):=fun k=>cr20 (a6 r hr).1 k x;have h2:(newC r x).ap=r.ab:=rfl;have h3:(newC r x).al=x.ab:=rfl;unfold Ro at ho;constructor<;>simp only[upd]<;>grind
theorem VI.replay{s t l}(h0:VI s)(h:Replay s l t):VI t:=by
 induction h with
 | nil=>exact h0
 | cons h1 _ ih=>exact ih (h0.step h1)
open St Po Sy
theorem fU{x y}(hx:gX x)(hy:gX y)(h:aK x=aK y):x=y:=by
 have e:Sg.iq x=Sg.iq y:=by grind [aK]
 have h1:=Sg.oJ hx.1 hx.2;rw[e,Sg.oJ hy.1 hy.2]at h1;injection h1 with h1 _;exact h1.symm
theorem fr5 x:(aK x).aY=5:=rfl
theorem fix5{f}(h:iN f=true):f.aY=4\/f.aY=6:=by grind [iN]
theorem For.sig{v f c}(h:For v f c){x}(hx:gX x)(e:aK x=f):x.ae=22:=by grind [fr5,For,DN,fU]
theorem Ev.for{v f c c' ds}(h:Ev v f c c' ds):For v f c:=by grind [Ev,For]
theorem Quiet.sig{f}(h:Quiet f){x}(hx:gX x)(e:aK x=f):x.ae=20\/x.ae=18\/x.ae=19:=by grind [fr5,Quiet,fU,fix5]
theorem Ro.kind{s x r o}(h:Ro s x r o):(r.ae=6/\x.ae=7/\o=none)\/(r.ae=20/\x.ae=21):=by grind [Ro]
theorem persist{s t L}(h:Replay s L t)(hv:VI s){v c}(hc:s.ch v=some c) :
 (∃c',t.ch v=some c'/\EM c c')\/(∃x,gX x/\x.ae=6/\aK x∈L/\x.bK=v/\x.ab=c.al)\/iH s v:=by
 induction h generalizing c with
 | nil=>exact .inl ⟨c,hc,rfl,rfl,rfl,rfl,rfl,rfl,rfl,rfl,rfl,Int.le_refl _,Int.le_refl _,rfl,hv.rx v c hc,rfl⟩
 | @cons s u t f l h1 hr ih=>
   have st:(∃c',u.ch v=some c'/\EM c c')\/(∃x,gX x/\x.ae=6/\aK x=f/\x.bK=v/\x.ab=c.al)\/iH s v:=by
    have h0:EM c c:=⟨rfl,rfl,rfl,rfl,rfl,rfl,rfl,rfl,rfl,Int.le_refl _,Int.le_refl _,rfl,hv.rx v c hc,rfl⟩;cases h1 with
    | skip _=>exact .inl ⟨c,hc,h0⟩
    | late _ _ _=>exact .inl ⟨c,hc,h0⟩
    | KL _ _ _ _=>simp only[upd];grind
    | MU hd _ h=>have:=fun hP=>oF hP h;have:=hv.rx;simp only[upd];grind
    | ans _ hq _ ho=>have:=ho.kind;have:=hv.sep _ hq;unfold iH;simp only[upd];grind
   rcases st with⟨c1,e1,e2⟩|⟨x,x1,x2,x3,x4⟩|e
   .rcases ih (hv.step h1) e1 with⟨c',q1,q2⟩|⟨x,q1,q2,q3,q4,q5⟩|⟨r,q1,q2⟩
    .refine .inl ⟨c',q1,?_⟩;cases e2;cases q2;constructor<;>grind
    .exact .inr (.inl ⟨x,q1,q2,List.mem_cons_of_mem _ q3,q4,by rw[q5,e2.rem]⟩)
    .exact .inr (.inr ⟨r,h1.le q1,q2⟩)
   .grind
   .exact .inr (.inr e)
theorem void{s t L}(h:Replay s L t){v}(hc:s.ch v=none)(hn:∀r,s.rq r->r.ae=20->r.ab≠v) :
 t.ch v=none/\(s.dl v=[]->t.dl v=[])/\∀x,gX x->x.ae=6->aK x∈L->x.bK≠v:=by
 induction h with
 | nil=>exact⟨hc,id,fun _ _ _ hm=>by cases hm⟩
 | @cons s u t f l h1 hr ih=>
   have st:u.ch v=none/\(s.dl v=[]->u.dl v=[])/\∀x,gX x->x.ae=6->aK x=f->x.bK≠v:=by
    cases h1 with
    | skip q=>exact⟨hc,id,fun x a b e=>by have:=q.sig a e;omega⟩
    | late _ _ q=>exact⟨hc,id,fun x a b e=>by have:=q.sig a e;omega⟩
    | KL q k hd he=>simp only[upd];grind [fU]
    | MU hd _ h=>have:=@fun x=>h.for.sig (x:=x);simp only[upd];grind
    | ans q hr' _ ho=>have:=ho.kind;simp only[upd];grind [fU]
   obtain⟨q1,q2,q3⟩:=ih st.1 fun r a b=>hn r (h1.le a) b;exact⟨q1,fun e=>q2 (st.2.1 e),fun x hx hk hm=>(List.mem_cons.1 hm).elim (st.2.2 x hx hk) (q3 x hx hk)⟩
theorem ac3{s t L}(h:Replay s L t)(hv:VI s){v}(hc:iH t v):t.dl v=s.dl v:=by
 induction h with
 | nil=>rfl
 | @cons s u t f l h1 hr ih=>
   obtain⟨r,r1,r2,r3⟩:=hr.iH hc;rw[ih (hv.step h1) hc];have:=h1.le r1;have hi:=hv.src;cases h1 with
   | skip _=>rfl
   | late _ _ _=>rfl
   | KL _ _ _ _=>rfl
   | MU _ hn _=>unfold iH at hn;simp only[upd];grind
   | ans _ hr ha _=>have:=kQ ha;simp only[upd];grind
theorem aew{s t L}(h:Replay s L t)(hv:VI s){v c}(hc:t.ch v=some c):(∃c0,s.ch v=some c0/\c0.al=c.al)\/∃r,s.rq r/\r.ae=20/\r.ab=v:=by
 induction h with
 | nil=>exact .inl ⟨c,hc,rfl⟩
 | @cons s u t f l h1 hr ih=>
   rcases ih (hv.step h1) hc with⟨c0,q1,q2⟩|⟨r,q1,q2⟩
   .cases h1 with
    | skip _=>exact .inl ⟨c0,q1,q2⟩
    | late _ _ _=>exact .inl ⟨c0,q1,q2⟩
    | KL _ _ _ _=>simp only[upd]at q1;grind
    | MU hd _ h=>have:=(oF (hv.rx _ _ hd) h).rem;simp only[upd]at q1;grind
    | ans _ hr _ ho=>have:=ho.kind;simp only[upd]at q1;grind
   .exact .inr ⟨r,h1.le q1,q2⟩
theorem opens{s t L}(h:Replay s L t)(hv:VI s){y}(hy:gX y)(ky:y.ae=21)(hz:y.Result=0)(hm:aK y∈L) :
 ∃r,s.rq r/\r.ae=20/\((∃c,t.ch r.ab=some c/\c.al=y.ab)\/(∃x,gX x/\x.ae=6/\aK x∈L/\x.ab=y.ab)\/iH s r.ab):=by
 induction h with
 | nil=>cases hm
 | @cons s u t f l h1 hr ih=>
   rcases List.mem_cons.1 hm with e|hm
   .have hv1:=hv.step h1;cases h1 with
    | skip q=>have:=q.sig hy e;omega
    | late _ _ q=>have:=q.sig hy e;omega
    | MU _ _ q=>have:=q.for.sig hy e;omega
    | KL q k=>have:=fU hy q e;grind
    | @ans x r o q hr' ha ho=>
      have hxy:=fU hy q e;subst hxy;have ho:r.ae=20/\o=some (newC r y):=by unfold Ro at ho;grind
      refine⟨r,hr',ho.1,?_⟩;rcases persist hr hv1 (v:=r.ab) (c:=newC r y) (by rw[ho.2];exact pG0 rfl)with⟨c',q1,q2⟩|⟨z,z1,z2,z3,_,z5⟩|⟨p,p1,p2⟩
      .exact .inl ⟨c',q1,q2.rem⟩
      .exact .inr (.inl ⟨z,z1,z2,List.mem_cons_of_mem _ z3,z5⟩)
      .exact .inr (.inr ⟨p,p1.1,p2⟩)
   .obtain⟨r,r1,r2,r3⟩:=ih (hv.step h1) hm;refine⟨r,h1.le r1,r2,?_⟩;rcases r3 with r3|⟨x,x1,x2,x3,x4⟩|⟨q,q1,q2⟩
    .exact .inl r3
    .grind
    .exact .inr (.inr ⟨q,h1.le q1,q2⟩)
structure QOk(v:Int)(cl:Prop)(Q:Option aM->List (List Int)->Option aM->List (List Int)->Prop):Prop where
 KL:∀c d o d',Q (some c) d o d'->(∃c',o=some c'/\c'.al=c.al)/\Q none d none d'
 MU:∀f c d o d' c1 ds,Q (some c) d o d'->Ev v f c c1 ds->∃c',o=some c'/\((cl/\Q (some c1) (d++ds) o d')\/(¬ cl/\∃c1',Ev v f c' c1' ds/\Q (some c1) (d++ds) (some c1') (d'++ds)))
structure RQ(v:Int)(N:aQ->Prop)(Q:Option aM->List (List Int)->Option aM->List (List Int)->Prop)(s s':Vw):Prop where
 ch:∀u,u≠v->s'.ch u=s.ch u
 dl:∀u,u≠v->s'.dl u=s.dl u
 pl:Q (s.ch v) (s.dl v) (s'.ch v) (s'.dl v)
 rq:∀q,s'.rq q↔s.rq q\/N q
 new:∀q n,s.rq q->N n->q.ID≠n.ID
 own:∀n,N n->n.ab=v
 no:∀q,s.rq q->q.ab≠v
theorem RQ.iH{v:Int}{N:aQ->Prop}{Q:Option aM->List (List Int)->Option aM->List (List Int)->Prop}{s s':Vw}(h:RQ v N Q s s'):(∀u,u≠v->(iH s' u↔iH s u))/\(Cx.iH s' v↔∃n,N n/\n.ae=6)/\¬ Cx.iH s v:=by
 obtain⟨_,_,_,a,_,b,c⟩:=h;unfold Cx.iH
 grind
def NoA(w:Int)(f:bq):Prop:=∀x,gX x->f=aK x->x.ae=21->x.Result=0->x.ab≠w
theorem sim1{v N Q}(hQ:QOk v (∃n,N n/\n.ae=6) Q){s s' t f}(h:RQ v N Q s s')(hf:∀d c' d',Q none d (some c') d'->NoA c'.al f)(hp:Rp s f t):∃t',Rp s' f t'/\RQ v N Q t t':=by
 obtain⟨k1,k2,k3⟩:=h.iH;obtain⟨h1,h2,h3,h4,h5,h6,h7⟩:=h;cases hp with
 | skip q=>exact⟨s',.skip q,h1,h2,h3,h4,h5,h6,h7⟩
 | @late _ u c hc hn q=>
   have hu:u≠v:=fun e=>k3 (e▸hn);exact⟨s',.late (by rw[h1 u hu];exact hc) ((k1 u hu).2 hn) q,h1,h2,h3,h4,h5,h6,h7⟩
 | @KL x c q k hc he=>
   by_cases hu:x.bK=v
   .rw[hu]at hc;rw[hc]at h3;obtain⟨⟨c',e1,e2⟩,e3⟩:=hQ.KL _ _ _ _ h3;refine⟨_,.KL q k (by rw[hu];exact e1) (by rw[e2];exact he),?_,h2,?_,h4,h5,h6,h7⟩
    .simp only[upd];grind
    .grind [upd]
   .refine⟨_,.KL q k (by rw[h1 _ hu];exact hc) he,?_,h2,?_,h4,h5,h6,h7⟩
    .simp only[upd];grind
    .grind [upd]
 | @ans x r o q hr ha ho=>
   have hu:=h7 r hr;have hi:=kQ ha;refine⟨_,.ans q ((h4 r).2 (.inl hr)) ha (o:=o) ?_,?_,?_,?_,?_,?_,h6,?_⟩
   .have key:∀w c,s'.ch w=some c->(∃d,s.ch w=some d/\d.al=c.al)\/(x.ae=21->x.Result=0->c.al≠x.ab):=fun w c e=>by
     by_cases hw:w=v
     .subst hw;rw[e]at h3;cases hs:s.ch w with
      | none=>rw[hs]at h3;exact .inr fun a b=>(hf _ _ _ h3 x q rfl a b).symm
      | some d=>rw[hs]at h3;obtain⟨⟨c',e1,e2⟩,_⟩:=hQ.KL _ _ _ _ h3;cases e1;exact .inl ⟨d,rfl,e2.symm⟩
     .grind
    clear hf hQ h1 h2 h3 h4 h5 h6 h7 k1 k2 k3;unfold Ro at ho |-
    grind
   .simp only[upd];grind
   .simp only[upd];grind
   .grind [upd]
   .grind
   .grind
   .grind
 | @MU _ u c c' ds hc hn e=>
   by_cases hu:u=v
   .subst hu;rw[hc]at h3
    obtain⟨c1,e1,⟨e2,e3⟩|⟨e2,c2,e3,e4⟩⟩:=hQ.MU _ _ _ _ _ _ _ h3 e
    .have hr:=((hQ.KL _ _ _ _ h3).1);refine⟨s',.late e1 (k2.2 e2) ?_,?_,?_,?_,h4,h5,h6,h7⟩
     .have:=e.for;unfold For at this |-
      grind
     .simp only[upd];grind
     .simp only[upd];grind
     .grind [upd]
    .refine⟨_,.MU e1 (fun z=>e2 (k2.1 z)) e3,?_,?_,?_,h4,h5,h6,h7⟩
     .simp only[upd];grind
     .simp only[upd];grind
     .grind [upd]
   .refine⟨_,.MU (by rw[h1 u hu];exact hc) (fun z=>hn ((k1 u hu).1 z)) e,?_,?_,?_,h4,h5,h6,h7⟩
    .simp only[upd];grind
    .simp only[upd];grind
    .grind [upd]
theorem R3{v N Q}(hQ:QOk v (∃n,N n/\n.ae=6) Q){s s' t l}(hr:Replay s l t)(h:RQ v N Q s s')(hf:∀f∈l,∀d c' d',Q none d (some c') d'->NoA c'.al f):∃t',Replay s' l t'/\RQ v N Q t t':=
 sim (P:=fun f=>∀d c' d',Q none d (some c') d'->NoA c'.al f) (fun _ _ _ _ a b c=>sim1 hQ a b c) hr hf h
open St Po
structure One(c d:aM):Prop where
 nV:c.gu=d.dh
 mps:c.bJ=d.cZ
 cr:c.aG=d.aC
 pos:(d.bi = -1/\c.aS=0)\/∃s r,c.Out=s::r/\d.bi=s.length/\c.aS=2+d.In.length/\d.In=s.take d.In.length
theorem PU{c s}(h0:c.aS=0)(hm:23<=c.bJ):Sd.partOf c s=(s.length:Int)%256::(s.length:Int)/256::s.take (c.bJ.toNat-2):=by
 unfold Sd.partOf Sd.fm;rw[h0];obtain⟨n,hn⟩:∃n,c.bJ.toNat=n+2:=⟨c.bJ.toNat-2,by omega⟩;rw[hn];rfl
theorem PV{c:aM}{s}{k:Nat}(h0:c.aS=2+k):Sd.partOf c s=(s.drop k).take c.bJ.toNat:=by
 unfold Sd.partOf Sd.fm;have:c.aS.toNat=k+2:=by omega
 rw[this];rfl
theorem O4{α:Type}(s:List α)k m:s.take k++(s.drop k).take m=s.take (k+m):=(List.take_add).symm
theorem TA{c d}(h:One c d)(hc:Sd.Ok c)(hd:Sd.Ok d)(hf:d.ba=false){s r}(ho:c.Out=s::r)(ht:c.aG>0) :
 (kC d (Sd.partOf c s)).2.2=0/\One (Sd.lH c s r) (kC d (Sd.partOf c s)).1/\(kC d (Sd.partOf c s)).2.1++(Sd.lH c s r).Out=c.Out:=by
 have hmps:=hc.JN;have hdm:=hd.nV;have hrx:=hd.rx;have hs:(s.length:Int)<=c.gu:=hc.short s (by rw[ho];simp);have hmt:=h.nV;have hmp:=h.mps;have hcr:=h.cr;have e5:aL (d.aC-1)=d.aC-1:=Sd.dR (by omega) (by omega);have hr0:d.aC≠0:=by omega
 have hin:=hd.inn;rcases h.pos with⟨h1,h2⟩|⟨s',r',h1,h2,h3,h4⟩
 .have hI:d.In=[]:=List.length_eq_zero_iff.1 (hin.1 h1);have hp:=PU (s:=s) h2 hmps.1;have hlen:(len (Sd.partOf c s):Int)<=d.cZ:=by
   rw[hp,lN];simp only[lC0,lT0];omega
  have ht0:Sd.tkn d (Sd.partOf c s)=(s.take (c.bJ.toNat-2),(s.length:Int),0):=by
   unfold Sd.tkn;rw[nG0 hr0,f7,pG0 h1,hp];simp only
   have hsum:(s.length:Int)%256+256*((s.length:Int)/256)=s.length:=by omega
   rw[hsum,nG0 (by simp only[lT0];omega)]
  have hi:kC d (Sd.partOf c s)=Sd.grown d (s.take (c.bJ.toNat-2)) s.length:=by grind [kC]
  rw[hi];unfold Sd.grown Sd.lH;rw[hI,List.nil_append,lN,e5];by_cases hfin:c.aS+c.bJ>=s.length+2
  .have hl:s.take (c.bJ.toNat-2)=s:=List.take_of_length_le (by omega);rw[hl,f7,pG0 hfin];refine⟨rfl,⟨hmt,hmp,?_,.inl ⟨rfl,rfl⟩⟩,by rw[ho];rfl⟩;show c.aG-1=d.aC-1;omega
  .have hl:(s.take (c.bJ.toNat-2)).length=c.bJ.toNat-2:=by rw[lT0];omega
   rw[hl,pG0 (by omega),nG0 hfin];refine⟨rfl,⟨hmt,hmp,?_,.inr ⟨s,r,ho,rfl,?_,?_⟩⟩,rfl⟩
   .grind
   .grind
   .grind
 .rw[ho]at h1;injection h1 with h1 h1';subst h1;have hw:(d.In.length:Int)<d.bi:=hin.2 (by omega);have hp:=PV (s:=s) (k:=d.In.length) (c:=c) (by rw[h3]);have hpl:(Sd.partOf c s).length=min c.bJ.toNat (s.length-d.In.length):=by rw[hp,lT0,List.length_drop]
  have ht0:Sd.tkn d (Sd.partOf c s)=(Sd.partOf c s,(s.length:Int),0):=by
   unfold Sd.tkn;rw[nG0 hr0,nG0 (by rw[lN];omega),f7,nG0 (by rw[lN];omega),nG0 (by rw[lN,lN];omega),h2]
  have hi:kC d (Sd.partOf c s)=Sd.grown d (Sd.partOf c s) s.length:=by grind [kC]
  have hj:d.In++Sd.partOf c s=s.take (d.In.length+c.bJ.toNat):=by grind [O4]
  rw[hi];unfold Sd.grown Sd.lH;rw[hj,lN,e5];by_cases hfin:c.aS+c.bJ>=s.length+2
  .have hl:s.take (d.In.length+c.bJ.toNat)=s:=List.take_of_length_le (by omega);rw[hl,f7,pG0 hfin];refine⟨rfl,⟨hmt,hmp,?_,.inl ⟨rfl,rfl⟩⟩,by rw[ho];rfl⟩;show c.aG-1=d.aC-1;omega
  .have hl:(s.take (d.In.length+c.bJ.toNat)).length=d.In.length+c.bJ.toNat:=by rw[lT0];omega
   rw[hl,pG0 (by omega),nG0 hfin];refine⟨rfl,⟨hmt,hmp,?_,.inr ⟨s,r,ho,rfl,?_,?_⟩⟩,rfl⟩
   .grind
   .grind
   .grind
open St Po Sy
abbrev Rows:=List (List Int)
def G(fo:Rows->Rows)(fs:Int->Int)(k n:Int)(c:aM):aM:={c with Out:=fo c.Out,aS:=fs c.aS,aG:=c.aG-k,aC:=c.aC+n}
theorem agB{fo fs k n}(hk:0<=k)(h0:0<=n)(h1:n<=65535){v f c c1}{ds:Rows}(hP:IV c)(h:Ev v f c c1 ds):Ev v f (G fo fs k n c) (G fo fs k n c1) ds:=by
 unfold Ev at h |-;rcases h with⟨a,b,h⟩|⟨x,a,b,e,g,h,z⟩
 .refine .inl ⟨a,b,?_⟩;unfold IV at hP;unfold kC at h |-;have e1:(G fo fs k n c).ba=c.ba:=rfl;rw[e1];by_cases g1:c.ba=true
  .grind
  rw[nG0 g1]at h |-;by_cases g2:(Sd.tkn c f.am).2.2=0
  .rw[nG0 (by simpa using g2)]at h;have h0':c.aC≠0:=fun e=>by
    unfold Sd.tkn at g2;rw[pG0 e]at g2;cases g2
   have et:Sd.tkn (G fo fs k n c) f.am=Sd.tkn c f.am:=by
    unfold Sd.tkn;have e1:(G fo fs k n c).aC=c.aC+n:=rfl;rw[e1,f7,nG0 h0'];rfl
   rw[et,nG0 (by simpa using g2)];have e4:aL (c.aC+n-1)=aL (c.aC-1)+n:=by
    rw[Sd.dR (by omega) (by omega),Sd.dR (by omega) (by omega)];omega
   unfold Sd.grown at h |-;have e2:(G fo fs k n c).In=c.In:=rfl;have e3:(G fo fs k n c).aC=c.aC+n:=rfl;rw[e2,e3,e4];split at h<;>(cases h;rename_i q;first|rw[pG0 q];rfl|rw[nG0 q];rfl)
  .grind
 .obtain⟨rfl,q1,q2,q3⟩:=crc h;refine .inr ⟨x,a,b,e,g,?_,z⟩;rw[U3 (c:=G fo fs k n c) q1 q2 (by show x.aA<=65535-(c.aG-k);omega)];unfold G;simp only[Prod.mk.injEq,and_true];congr 1;omega
theorem acs c b:(kC c b).1.ap=c.ap/\(kC c b).1.al=c.al:=by
 unfold kC Sd.grown
 (repeat' split)<;>exact⟨rfl,rfl⟩
theorem qF{fo fs k n v}(hk:0<=k)(h0:0<=n)(h1:n<=65535):QOk v (∃q:aQ,False/\q.ae=6) fun o d o' d'=>o'=o.map (G fo fs k n)/\d'=d/\∀c,o=some c->IV c:=
 ⟨fun c d o d' h=>⟨⟨_,h.1,rfl⟩,rfl,h.2.1,fun _ e=>by cases e⟩,fun f c d o d' c1 ds h e=>⟨_,h.1,.inr ⟨fun⟨_,q,_⟩=>q,_,agB hk h0 h1 (h.2.2 c rfl) e,rfl,by rw[h.2.1],fun c' e'=>by cases e';exact(oF (h.2.2 c rfl) e).rxs⟩⟩⟩
theorem qL{v}{N:aQ->Prop}(hN:∀q,N q->q.ae=20)(l:Rows):QOk v (∃q,N q/\q.ae=6) fun o d o' d'=>o'=o/\d=l++d':=
 ⟨fun c d o d' h=>⟨⟨_,h.1,rfl⟩,rfl,h.2⟩,fun f c d o d' c1 ds h e=>⟨_,h.1,.inr ⟨fun⟨q,a,b⟩=>by have:=hN q a;omega,_,e,rfl,by rw[h.2,List.append_assoc]⟩⟩⟩
theorem qC{v}c0:QOk v (∃q:aQ,False/\q.ae=6) fun o d o' d'=>o=none/\o'=some c0/\d'=d:=
 ⟨fun c d o d' h=>(nomatch h.1),fun f c d o d' c1 ds h e=>(nomatch h.1)⟩
theorem qD{v}{r:aQ}(hr:r.ae=6):QOk v (∃q,q=r/\q.ae=6) fun o _ o' d'=>(∀c,o=some c->∃c',o'=some c'/\c'.al=c.al)/\(o=none->o'=none)/\d'=[]:=
 ⟨fun c d o d' h=>⟨h.1 c rfl,fun _ e=>(by cases e),fun _=>rfl,h.2.2⟩,fun f c d o d' c1 ds h e=>by
  obtain⟨c',e1,e2⟩:=h.1 c rfl;refine⟨c',e1,.inl ⟨⟨r,rfl,hr⟩,fun c2 h2=>⟨c',e1,?_⟩,(fun h2=>nomatch h2),h.2.2⟩⟩;cases h2;rw[e2];unfold Ev at e;rcases e with⟨_,_,e⟩|⟨x,_,_,_,_,e,_⟩
  .grind [acs]
  .obtain⟨rfl,_⟩:=crc e;rfl⟩
structure Link(c d:aM):Prop where
 back:d.al=c.ap
 psm:c.bT=d.bT
 one:One c d
 two:One d c
 Qb:Sd.Ok c
 okd:Sd.Ok d
 fc:c.ba=false
 fd:d.ba=false
def Gv(c:aM):Prop:=c.bd=0\/2*c.aC>c.bd
def sv(A:Vw)(sa:Int->Rows)(v:Int):Rows:=if (A.ch v).isSome=true then sa v else []
def mo(f:bq):Prop:=∃r,gX r/\(r.ae=20\/r.ae=6)/\f=aK r
structure CS(A A' B B':Vw)(La Lb:List bq)(sa:Int->Rows):Prop where
 rp:Replay A Lb A'
 vi:VI A
 jk:∀r,A'.rq r↔gX r/\(r.ae=20\/r.ae=6)/\aK r∈La
 nd:La.Pairwise fun f g=>mo f->f≠g
 cl:∀r,A'.rq r->r.ae=6->(A'.ch r.ab=none->iH B r.bK)/\∀d,A'.ch r.ab=some d->d.al=r.bK
 lk:∀v c,A'.ch v=some c->¬ iH A' v->∃d,B'.ch c.al=some d/\¬ iH B' c.al/\Link c d/\sv A sa v=B'.dl c.al++c.Out
 sx:∀v c,A.ch v=some c->∃z,sa v=B'.dl c.al++z
section
variable {A A' B B':Vw} {La Lb:List bq} {sa sb:Int->Rows}
theorem CS.vs(h:CS A A' B B' La Lb sa):VI A':=h.vi.replay h.rp
theorem pair(h:CS A A' B B' La Lb sa)(g:CS B B' A A' Lb La sb){v c}(hc:A.ch v=some c)(hn:¬ iH A v) :
 (∃d,B'.ch c.al=some d/\d.al=v)/\(∀e,A'.ch v=some e->EM c e)/\¬ iH A' v/\(iH B' c.al\/∃e d,A'.ch v=some e/\B'.ch c.al=some d/\¬ iH B' c.al/\Link e d/\sv A sa v=B'.dl c.al++e.Out/\sv B sb c.al=A'.dl v++d.Out):=by
 have hl:¬ iH A' v:=fun z=>hn (h.rp.iH z);have hp:=persist h.rp h.vi hc;have hb:=@Link.back;have vs:=h.vs.loc;have vr:=g.vs.rem;have h0:∃d,B'.ch c.al=some d/\d.al=v:=by
  rcases hp with⟨c',q1,q2⟩|⟨x,x1,x2,x3,x4,x5⟩|e
  .obtain⟨d,d1,_,d3,_⟩:=h.lk v c' q1 hl;rw[q2.rem]at d1;exact⟨d,d1,by rw[d3.back];exact vs v c' q1⟩
  .have hx:=(g.jk x).2 ⟨x1,.inr x2,x3⟩;have:=g.cl x hx x2;cases hs:B'.ch c.al<;>grind
  .exact absurd e hn
 obtain⟨d,d1,d2⟩:=h0;have st:∀e,A'.ch v=some e->EM c e:=fun e he=>by
  rcases hp with⟨c',q1,q2⟩|⟨x,x1,x2,x3,x4,x5⟩|q
  .grind
  .have hx:=(g.jk x).2 ⟨x1,.inr x2,x3⟩;obtain⟨d',e1,e2,e3,_⟩:=h.lk v e he hl;have:=vr _ _ _ _ e1 d1 (by rw[e3.back,d2];exact vs v e he);exact absurd ⟨x,hx,x2,by rw[x5,this]⟩ e2
  .exact absurd q hn
 refine⟨⟨d,d1,d2⟩,st,hl,?_⟩;by_cases hq:iH B' c.al
 .exact .inl hq
 .obtain⟨e,e1,_,_,e4⟩:=g.lk _ d d1 hq;rw[d2]at e1 e4;obtain⟨d',f1,_,f3,f4⟩:=h.lk v e e1 hl;rw[(st e e1).rem]at f1 f4;rw[d1]at f1;cases f1;exact .inr ⟨e,d,e1,d1,hq,f3,f4,e4⟩
end
open St Po Sy
theorem VI.put{s}(h:VI s){v c c'}(hc:s.ch v=some c)(hl:c'.ap=c.ap)(hr:c'.al=c.al)(hx:IV c')(dl:Int->Rows):VI ⟨upd s.ch v (some c'),s.rq,dl⟩:=by
 obtain⟨a1,a2,a3,a4,a5,a6,a7⟩:=h;constructor<;>simp only[upd]<;>grind
theorem Va{s t}(h:∀r,s.rq r↔t.rq r)v:iH s v↔iH t v:=by
 unfold iH
 grind
theorem XV{l F}(h:l.Pairwise fun f g=>mo f->f≠g)(hF:F=[]\/∃f,F=[f]/\(mo f->f∉l)):(l++F).Pairwise fun f g=>mo f->f≠g:=by grind
theorem Aj{l F:List bq}(hF:∀f∈F,¬ mo f){r}:(gX r/\(r.ae=20\/r.ae=6)/\aK r∈l++F)↔gX r/\(r.ae=20\/r.ae=6)/\aK r∈l:=by grind [mo]
theorem Ar{l F:List bq}(h:l.Pairwise fun f g=>mo f->f≠g)(hF:∀f∈F,¬ mo f):(l++F).Pairwise fun f g=>mo f->f≠g:=
 List.pairwise_append.2 ⟨h,by
  induction F with
  | nil=>exact .nil
  | cons x F ih=>exact List.pairwise_cons.2 ⟨fun _ _ z=>absurd z (hF x (by simp)),ih fun f hf=>hF f (by simp[hf])⟩,fun a ha b hb z e=>hF b hb (e▸z)⟩
theorem uV{x}(hx:gX x)(hk:x.ae≠20/\x.ae≠6):¬ mo (aK x):=fun⟨r,a,b,e⟩=>by grind [fU]
section
variable {A A' B B':Vw} {La Lb:List bq} {sa sb:Int->Rows}
theorem TJ(h:CS A A' B B' La Lb sa)(g:CS B B' A A' Lb La sb){v c fo fs k n}(hk:0<=k)(h0:0<=n)(h1:n<=65535)(hc:A.ch v=some c)(hn:¬ iH A v)(hx:IV (G fo fs k n c)){F}(hF:∀f∈F,¬ mo f){B1}{sa1:Int->Rows}
 (hB:Replay B (La++F) B1) (hBr:∀r,B1.rq r↔B'.rq r) (hBc:∀u,u≠c.al->B1.ch u=B'.ch u/\B1.dl u=B'.dl u) (hsa:∀u,u≠v->(A.ch u).isSome=true->sa1 u=sa u) (hsx:∃z,sa1 v=sa v++z)
 (hcl:iH B' c.al->B1.ch c.al=B'.ch c.al/\B1.dl c.al=B'.dl c.al)
 (hat:∀e d,A'.ch v=some e->EM c e->B'.ch c.al=some d->¬ iH B' c.al->Link e d->sa v=B'.dl c.al++e.Out->∃d',B1.ch c.al=some d'/\Link (G fo fs k n e) d'/\d'.al=d.al/\d'.ap=d.ap/\d'.Out=d.Out/\(∃ds,B1.dl c.al=B'.dl c.al++ds)/\sa1 v=B1.dl c.al++(G fo fs k n e).Out) :
 ∃j4,CS ⟨upd A.ch v (some (G fo fs k n c)),A.rq,A.dl⟩ j4 B B1 (La++F) Lb sa1/\CS B B1 ⟨upd A.ch v (some (G fo fs k n c)),A.rq,A.dl⟩ j4 Lb (La++F) sb:=by
 obtain⟨⟨d0,p1,p2⟩,p3,p4,p5⟩:=pair h g hc hn;have hsep:∀q,A.rq q->q.ab≠v:=fun q a e=>by
  rcases(h.vi.ok q a).2 with z|z
  .have:=h.vi.sep q a z;rw[e,hc]at this;cases this
  .exact hn ⟨q,a,z,e⟩
 obtain⟨j4,t1,t2⟩:=R3 (qF (fo:=fo) (fs:=fs) (v:=v) hk h0 h1) h.rp (s':=⟨upd A.ch v (some (G fo fs k n c)),A.rq,A.dl⟩) ⟨fun u hu=>nG0 hu,fun _ _=>rfl,⟨by simp only[upd,hc];rfl,rfl,fun e he=>h.vi.rx v e he⟩,fun q=>by simp,fun _ _ _ z=>z.elim,fun _ z=>z.elim,hsep⟩ fun f _ d c' d' e=>(nomatch e.1);have tc:∀u,j4.ch u=if u=v then(A'.ch u).map (G fo fs k n)else A'.ch u:=fun u=>by
  by_cases hu:u=v
  .rw[pG0 hu,hu];exact t2.pl.1
  .rw[nG0 hu];exact t2.ch u hu
 have td:∀u,j4.dl u=A'.dl u:=fun u=>by
  by_cases hu:u=v
  .rw[hu];exact t2.pl.2.1
  .exact t2.dl u hu
 have tr:∀r,j4.rq r↔A'.rq r:=fun r=>by rw[t2.rq];simp
 have tl:=Va tr;have bl:=Va hBr;have gr:∀e,(G fo fs k n e).al=e.al:=fun _=>rfl;have sa0:sv A sa v=sa v:=by unfold sv;rw[hc];rfl
 clear t2 hk h0 h1 hsep;have hvs:=h.vs;have gvs:=g.vs;have key:∀d,B'.ch c.al=some d->d.al=v:=by grind
 have tS:∀u g,j4.ch u=some g->∃e,A'.ch u=some e/\g.al=e.al/\(u≠v->g=e)/\(u=v->g=G fo fs k n e):=fun u g e=>by
  rw[tc]at e;cases hs:A'.ch u<;>simp only[hs]at e<;>grind
 have tN:∀u,j4.ch u=none->A'.ch u=none:=fun u e=>by
  rw[tc]at e;cases hs:A'.ch u<;>simp only[hs]at e<;>grind
 have tE:∀u e,A'.ch u=some e->j4.ch u=some (if u=v then G fo fs k n e else e):=fun u e he=>by grind
 refine⟨j4,⟨t1,h.vi.put hc (c':=G fo fs k n c) rfl rfl hx _,fun r=>by rw[tr,h.jk,Aj hF],Ar h.nd hF,fun r a b=>?_,fun u e a b=>?_,fun u e a=>?_⟩,⟨hB,g.vi,fun r=>by rw[hBr,g.jk],g.nd,fun r a b=>?_,fun u e a b=>?_,fun u e a=>?_⟩⟩
 .have:=h.cl r ((tr r).1 a) b;exact⟨fun z=>this.1 (tN _ z),fun d z=>by obtain⟨e,e1,e2,_⟩:=tS _ d z;rw[e2];exact this.2 e e1⟩
 .rw[tl]at b;obtain⟨e0,e1,e2,e3,e4⟩:=tS u e a;obtain⟨d,d1,d2,d3,d4⟩:=h.lk u e0 e1 b;by_cases hu:u=v
  .subst hu;have st:=p3 e0 e1;rw[st.rem]at d1 d2 d4;obtain⟨d',q1,q2,q3,_,q4,_,q6⟩:=hat e0 d e1 st d1 d2 d3 (by rw[<-sa0];exact d4);rw[e4 rfl,gr,st.rem];refine⟨d',q1,fun z=>d2 ((bl _).1 z),q2,?_⟩;rw[<-q6];simp[sv,upd]
  .have hne:e0.al≠c.al:=fun z=>hu (by rw[<-hvs.loc u e0 e1,<-d3.back];exact key d (by rw[<-z];exact d1));obtain⟨b1,b2⟩:=hBc _ hne;rw[e3 hu,b1,b2,<-d4];refine⟨d,d1,fun z=>d2 ((bl _).1 z),d3,?_⟩;unfold sv;simp only[upd,nG0 hu];cases hs:A.ch u with
   | none=>rfl
   | some q=>exact hsa u hu (by rw[hs];rfl)
 .simp only[upd]at a;by_cases hu:u=v
  .rw[pG0 hu]at a;cases a;rw[hu,gr];obtain⟨z,hz⟩:=hsx;obtain⟨y,hy⟩:=h.sx v c hc;rcases p5 with q|⟨e,d,q1,q2,q3,q4,q5,_⟩
   .grind
   .grind
  .rw[nG0 hu]at a;rw[hsa u hu (by rw[a];rfl)];have hne:e.al≠c.al:=fun z=>hu (h.vi.rem _ _ _ _ a hc z);rw[(hBc _ hne).2];exact h.sx u e a
 .have:=g.cl r ((hBr r).1 a) b;by_cases hu:r.ab=c.al
  .grind
  .rw[(hBc _ hu).1];exact this
 .rw[bl]at b;by_cases hu:u=c.al
  .subst hu;rcases p5 with q|⟨e1,d,q1,q2,q3,q4,q5,q7⟩
   .exact absurd q b
   .obtain⟨d',z1,z2,z3,z0,z4,_,_⟩:=hat e1 d q1 (p3 e1 q1) q2 q3 q4 (by rw[<-sa0];exact q5);rw[z1]at a;cases a;have hd:=key d q2;rw[z3,hd,z4];exact⟨_,(tE v e1 q1).trans (by rw[pG0 rfl]),fun z=>p4 ((tl v).1 z),⟨by rw[z0,gvs.loc _ d q2];exact(p3 e1 q1).rem,z2.psm.symm,z2.two,z2.one,z2.okd,z2.Qb,z2.fd,z2.fc⟩,by rw[td];exact q7⟩
  .rw[(hBc _ hu).1]at a;obtain⟨d,d1,d2,d3,d4⟩:=g.lk u e a b;have hne:e.al≠v:=fun z=>hu (by
    rw[z]at d1;have:=(p3 d d1).rem;rw[<-gvs.loc u e a,<-d3.back,this])
   exact⟨d,(tE _ d d1).trans (by rw[nG0 hne]),fun z=>d2 ((tl _).1 z),d3,by rw[td];exact d4⟩
 .rw[td];exact g.sx u e a
end
open St Po Sy
section
variable {A A' B B':Vw} {La Lb:List bq} {sa sb:Int->Rows}
theorem LW(h:CS A A' B B' La Lb sa)(g:CS B B' A A' Lb La sb){f}(hf:Quiet f)(hr:¬ mo f):CS A A' B B' (La++[f]) Lb sa/\CS B B' A A' Lb (La++[f]) sb:=by
 have hF:∀q∈[f],¬ mo q:=by simpa using hr
 exact⟨⟨h.rp,h.vi,fun r=>by rw[h.jk,Aj hF],Ar h.nd hF,h.cl,h.lk,h.sx⟩,⟨g.rp.snoc (.skip hf),g.vi,g.jk,g.nd,g.cl,g.lk,g.sx⟩⟩
def more(A:Vw)(r0:aQ):Vw:=⟨A.ch,fun q=>A.rq q\/q=r0,A.dl⟩
theorem NN(h:VI A){r0}(h0:gX r0)(hk:r0.ae=20\/r0.ae=6)(hn:∀q,A.rq q->q.ID≠r0.ID/\q.ab≠r0.ab)(hs:r0.ae=20->A.ch r0.ab=none):VI (more A r0):=by
 obtain⟨a1,a2,a3,a4,a5,a6,a7⟩:=h;unfold more;constructor<;>simp only<;>grind
theorem NP(h:CS A A' B B' La Lb sa){r0}(h0:gX r0)(hk:r0.ae=20\/r0.ae=6)(hn:∀q,A.rq q->q.ID≠r0.ID/\q.ab≠r0.ab):(∀r,A'.rq r\/r=r0↔gX r/\(r.ae=20\/r.ae=6)/\aK r∈La++[aK r0])/\(La++[aK r0]).Pairwise fun f g=>mo f->f≠g:=by
 refine⟨fun r=>?_,XV h.nd (.inr ⟨_,rfl,fun _ e=>(hn r0 (h.rp.le ((h.jk r0).2 ⟨h0,hk,e⟩))).1 rfl⟩)⟩;rw[h.jk,List.mem_append,mS];have:=@fU r r0
 grind
theorem askA(h:CS A A' B B' La Lb sa)(g:CS B B' A A' Lb La sb){r0}(h0:gX r0)(hk:r0.ae=20)(hn:∀q,A.rq q->q.ID≠r0.ID/\q.ab≠r0.ab)(hs:A.ch r0.ab=none):∃j4,CS (more A r0) j4 B B' (La++[aK r0]) Lb sa/\CS B B' (more A r0) j4 Lb (La++[aK r0]) sb:=by
 obtain⟨j4,t1,t2⟩:=R3 (qL (v:=r0.ab) (N:=fun q=>q=r0) (fun q e=>e▸hk) []) h.rp (s':=more A r0) ⟨fun _ _=>rfl,fun _ _=>rfl,⟨rfl,rfl⟩,fun _=>Iff.rfl,fun q n a b=>b▸(hn q a).1,fun n b=>b▸rfl,fun q a=>(hn q a).2⟩ fun f _ d c' d' e=>(nomatch e.1);have tc:j4.ch=A'.ch:=funext fun u=>by
  by_cases hu:u=r0.ab
  .rw[hu];exact t2.pl.1
  .exact t2.ch u hu
 have td:j4.dl=A'.dl:=funext fun u=>by
  by_cases hu:u=r0.ab
  .rw[hu];exact t2.pl.2.symm
  .exact t2.dl u hu
 have tl:∀u,iH j4 u↔iH A' u:=by have:=t2.rq;unfold iH;grind
 have ml:∀u,iH (more A r0) u↔iH A u:=by unfold iH more;grind
 obtain⟨j1,j2⟩:=NP h h0 (.inl hk) hn;refine⟨j4,⟨t1,NN h.vi h0 (.inl hk) hn fun _=>hs,fun r=>by rw[t2.rq];exact j1 r,j2,fun r a b=>?_,fun v c a b=>?_,h.sx⟩,⟨g.rp.snoc (.skip (.inr ⟨r0,h0,rfl,.inl hk⟩)),g.vi,g.jk,g.nd,fun r a b=>?_,fun v c a b=>?_,by rw[td];exact g.sx⟩⟩
 .have:=h.cl r (((t2.rq r).1 a).resolve_right fun e=>by rw[e]at b;omega) b;rw[tc];exact this
 .rw[tc]at a;exact h.lk v c a fun z=>b ((tl v).2 z)
 .obtain⟨q1,q2⟩:=g.cl r a b;exact⟨fun z=>(ml _).2 (q1 z),q2⟩
 .obtain⟨d,d1,d2,d3,d4⟩:=g.lk v c a b;rw[tc,tl,td];exact⟨d,d1,d2,d3,d4⟩
theorem disA(h:CS A A' B B' La Lb sa)(g:CS B B' A A' Lb La sb){r0 c}(h0:gX r0)(hk:r0.ae=6)(hn:∀q,A.rq q->q.ID≠r0.ID)(hc:A.ch r0.ab=some c)(hd:r0.bK=c.al)(hnc:¬ iH A r0.ab)(hdl:∀u,A.dl u=[]):∃j4 B1,CS (more A r0) j4 B B1 (La++[aK r0]) Lb sa/\CS B B1 (more A r0) j4 Lb (La++[aK r0]) sb:=by
 have hsrc:∀q,A.rq q->q.ab≠r0.ab:=fun q a e=>by
  rcases(h.vi.ok q a).2 with z|z
  .have:=h.vi.sep q a z;rw[e,hc]at this;cases this
  .exact hnc ⟨q,a,z,e⟩
 have hn':∀q,A.rq q->q.ID≠r0.ID/\q.ab≠r0.ab:=fun q a=>⟨hn q a,hsrc q a⟩;obtain⟨j4,t1,t2⟩:=R3 (qD (v:=r0.ab) hk) h.rp (s':=more A r0) ⟨fun _ _=>rfl,fun _ _=>rfl,⟨fun e he=>⟨e,he,rfl⟩,id,hdl _⟩,fun _=>Iff.rfl,fun q n a b=>b▸hn q a,fun n b=>b▸rfl,fun q a=>hsrc q a⟩ fun f _ d c' d' e=>(nomatch e.2.1 rfl);obtain⟨⟨d,d1,d2⟩,st,XW,_⟩:=pair h g hc hnc;obtain⟨p1,p2,p3⟩:=t2.pl;obtain⟨l1,l2,_⟩:=t2.iH;obtain⟨j1,j2⟩:=NP h h0 (.inr hk) hn';have up:∀v,iH A v->iH (more A r0) v:=fun v ⟨q,z1,z2⟩=>⟨q,.inl z1,z2⟩;refine⟨j4,⟨upd B'.ch c.al none,B'.rq,B'.dl⟩,⟨t1,NN h.vi h0 (.inr hk) hn' fun e=>by omega,fun r=>by rw[t2.rq];exact j1 r,j2,fun r a b=>?_,fun v e a b=>?_,h.sx⟩,⟨g.rp.snoc (hd▸.KL h0 hk (by rw[hd];exact d1) d2),g.vi,g.jk,g.nd,fun r a b=>?_,fun v e a b=>?_,fun v e a=>?_⟩⟩
 .rcases(t2.rq r).1 a with a|rfl
  .have:=hsrc r (h.rp.le a);rw[t2.ch _ this];exact h.cl r a b
  .rw[hd];cases hs:A'.ch r.ab with
   | none=>
     have hp:=persist h.rp h.vi hc;rw[p2 hs];refine⟨fun _=>?_,fun _ e=>nomatch e⟩;rcases hp with⟨c',q1,_⟩|⟨x,x1,x2,x3,x4,x5⟩|e
     .grind
     .exact⟨x,g.rp.le ((g.jk x).2 ⟨x1,.inr x2,x3⟩),x2,x5⟩
     .exact absurd e hnc
   | some e=>
     obtain⟨e',q1,q2⟩:=p1 e hs;rw[q1];exact⟨fun z=>(nomatch z),fun d z=>by cases z;rw[q2,(st e hs).rem]⟩
 .have hne:v≠r0.ab:=fun z=>b (by rw[z];exact l2.2 ⟨r0,rfl,hk⟩);rw[t2.ch v hne]at a;rw[l1 v hne]at b;obtain⟨q,q1,q2,q3,q4⟩:=h.lk v e a b;refine⟨q,?_,q2,q3,q4⟩;show(if e.al=c.al then none else _)=_;rw[nG0 fun z=>hne (by
   rw[z,d1]at q1;cases q1;rw[<-d2,q3.back,h.vs.loc v e a])]
  exact q1
 .obtain⟨q1,q2⟩:=g.cl r a b;simp only[upd];by_cases hr:r.ab=c.al
  .rw[pG0 hr];refine⟨fun _=>?_,fun _ z=>nomatch z⟩;rw[<-q2 d (by rw[hr];exact d1),d2];exact⟨r0,.inr rfl,hk,rfl⟩
  .grind
 .simp only[upd]at a;have hu:v≠c.al:=fun z=>by rw[pG0 z]at a;cases a
  rw[nG0 hu]at a;obtain⟨q,q1,q2,q3,q4⟩:=g.lk v e a b;have hne:e.al≠r0.ab:=fun z=>hu (by
   rw[z]at q1;rw[<-(st q q1).rem,q3.back,g.vs.loc v e a])
  exact⟨q,by rw[t2.ch _ hne];exact q1,fun z=>q2 ((l1 _ hne).1 z),q3,by rw[t2.dl _ hne];exact q4⟩
 .by_cases hne:e.al=r0.ab
  .rw[hne,p3];exact⟨_,rfl⟩
  .rw[t2.dl _ hne];exact g.sx v e a
end
open St Po Sy
section
variable {A A' B B' A1 j4:Vw} {La l:List bq} {f:bq} {sa sb sa1 sb1:Int->Rows}
theorem XI(h:CS A A' B B' La (f::l) sa)(g:CS B B' A A' (f::l) La sb)(hf:¬ mo f)(rQ:Replay A1 l j4)(Qo:VI A1)(hc:j4.ch=A'.ch)(hr:j4.rq=A'.rq)
 (hcl:∀r,B'.rq r->r.ae=6->iH A r.bK->iH A1 r.bK) (hlk:∀v c,A'.ch v=some c->¬ iH A' v->sv A1 sa1 v=sv A sa v)
 (hlb:∀u d,B'.ch u=some d->¬ iH B' u->sv B sb u=A'.dl d.al++d.Out->sv B sb1 u=j4.dl d.al++d.Out)
 (hsa:∀v c,A1.ch v=some c->∃z,sa1 v=B'.dl c.al++z) (hsb:∀u d,B.ch u=some d->∃z,sb1 u=j4.dl d.al++z) :
 CS A1 j4 B B' La l sa1/\CS B B' A1 j4 l La sb1:=by
 have hcc:∀u,iH j4 u↔iH A' u:=fun u=>by unfold iH;rw[hr]
 refine⟨⟨rQ,Qo,by rw[hr];exact h.jk,h.nd,by rw[hr,hc];exact h.cl,fun v c a b=>?_,hsa⟩,⟨g.rp,g.vi,fun r=>?_,(List.pairwise_cons.1 g.nd).2,fun r a b=>?_,fun u d a b=>?_,hsb⟩⟩
 .rw[hc]at a;rw[hcc]at b;rw[hlk v c a b];exact h.lk v c a b
 .rw[g.jk];unfold mo at hf
  grind
 .obtain⟨q1,q2⟩:=g.cl r a b;exact⟨fun z=>hcl r a b (q1 z),q2⟩
 .obtain⟨c,c1,c2,c3,c4⟩:=g.lk u d a b;rw[hc,hcc];exact⟨c,c1,c2,c3,hlb u d a b c4⟩
theorem abO(h:CS A A' B B' La (f::l) sa)(g:CS B B' A A' (f::l) La sb)(hf:¬ mo f)(rQ:Replay A l A'):CS A A' B B' La l sa/\CS B B' A A' l La sb:=
 XI h g hf rQ h.vi rfl rfl (fun _ _ _ z=>z) (fun _ _ _ _=>rfl) (fun _ _ _ _ z=>z) h.sx g.sx
theorem popN(h:CS A A' B B' La (f::l) sa)(g:CS B B' A A' (f::l) La sb)(hf:¬ mo f){x r}(hr:A.rq r)(ha:fF r x=true)(hk:r.ae=6\/A.ch r.ab=none)(hA:VI ⟨upd A.ch r.ab none,fun q=>A.rq q/\q.ID≠x.ID,fun _=>[]⟩)(rQ:Replay ⟨upd A.ch r.ab none,fun q=>A.rq q/\q.ID≠x.ID,fun _=>[]⟩ l A') :
 CS ⟨upd A.ch r.ab none,fun q=>A.rq q/\q.ID≠x.ID,fun _=>[]⟩ A' B B' La l sa/\CS B B' ⟨upd A.ch r.ab none,fun q=>A.rq q/\q.ID≠x.ID,fun _=>[]⟩ A' l La sb:=by
 have hi:=kQ ha;have src:=h.vi.src;have ids:=h.vi.ids;have hn:∀q,A.rq q/\q.ID≠x.ID->q.ab≠r.ab:=fun q a e=>a.2 (by rw[src q r a.1 hr e,hi]);have dn:∀v,v≠r.ab->iH A v->iH ⟨upd A.ch r.ab none,fun q=>A.rq q/\q.ID≠x.ID,fun _=>[]⟩ v:=by unfold iH;grind
 obtain⟨v1,_,v2⟩:=void rQ (v:=r.ab) (pG0 rfl) fun q a _=>hn q a;refine XI h g hf rQ hA rfl rfl (fun q a b z=>dn _ (fun e=>?_) z) (fun v c a b=>?_) (fun _ _ _ _ z=>z) (fun v c a=>?_) g.sx
 .obtain⟨q1,q2,q3⟩:=(g.jk q).1 a;have:aK q∈l:=(List.mem_cons.1 q3).resolve_left fun e=>hf ⟨q,q1,q2,e.symm⟩;exact v2 q q1 b this e
 .grind [sv,upd]
 .simp only[upd]at a;have:v≠r.ab:=fun e=>by rw[pG0 e]at a;cases a
  rw[nG0 this]at a;exact h.sx v c a
theorem popA(h:CS A A' B B' La (f::l) sa)(g:CS B B' A A' (f::l) La sb)(hf:¬ mo f){x r}(hr:A.rq r)(kr:r.ae=20)(ha:fF r x=true)(hA:VI ⟨upd A.ch r.ab (some (newC r x)),fun q=>A.rq q/\q.ID≠x.ID,fun _=>[]⟩)(rQ:Replay ⟨upd A.ch r.ab (some (newC r x)),fun q=>A.rq q/\q.ID≠x.ID,fun _=>[]⟩ l A')
 (hdl:∀u,B.dl u=[]) (hs:sa1 r.ab=[]/\∀u,u≠r.ab->(A.ch u).isSome=true->sa1 u=sa u) :
 CS ⟨upd A.ch r.ab (some (newC r x)),fun q=>A.rq q/\q.ID≠x.ID,fun _=>[]⟩ A' B B' La l sa1/\CS B B' ⟨upd A.ch r.ab (some (newC r x)),fun q=>A.rq q/\q.ID≠x.ID,fun _=>[]⟩ A' l La sb:=by
 have hi:=kQ ha;have src:=h.vi.src;have ids:=h.vi.ids;have h0:=h.vi.sep r hr kr;have XW:∀q,A.rq q->q.ae=6->q.ab≠r.ab:=fun q a b e=>by rw[src q r a hr e]at b;omega
 have dn:∀v,iH A v->iH ⟨upd A.ch r.ab (some (newC r x)),fun q=>A.rq q/\q.ID≠x.ID,fun _=>[]⟩ v:=by unfold iH;grind
 have dl0:B'.dl x.ab=[]:=by
  rcases persist rQ hA (v:=r.ab) (pG0 rfl)with⟨c',q1,q2⟩|⟨y,y1,y2,y3,y4,y5⟩|⟨q,q1,q2,q3⟩
  .obtain⟨d,_,_,_,d4⟩:=h.lk r.ab c' q1 fun⟨q,a,b,e⟩=>XW q (rQ.le a).1 b e;rw[q2.rem]at d4;unfold sv at d4;rw[h0]at d4;exact(List.append_eq_nil_iff.1 d4.symm).1
  .have hy:=(g.jk y).2 ⟨y1,.inr y2,List.mem_cons_of_mem _ y3⟩;rw[ac3 g.rp g.vi (v:=x.ab) ⟨y,hy,y2,y5⟩,hdl]
  .grind
 refine XI h g hf rQ hA rfl rfl (fun q _ _ z=>dn _ z) (fun v c a b=>?_) (fun _ _ _ _ z=>z) (fun v c a=>?_) g.sx
 .grind [sv,upd]
 .simp only[upd]at a;by_cases hv:v=r.ab
  .rw[pG0 hv]at a;cases a;rw[hv,hs.1];exact⟨[],by rw[show(newC r x).al=x.ab from rfl,dl0];rfl⟩
  .rw[nG0 hv]at a;rw[hs.2 v hv (by rw[a];rfl)];exact h.sx v c a
theorem popE(h:CS A A' B B' La (f::l) sa)(g:CS B B' A A' (f::l) La sb)(hf:¬ mo f){v c c1}{ds:Rows}(hc:A.ch v=some c)(hn:¬ iH A v)(he:Ev v f c c1 ds)(hdl:∀u,A.dl u=[])(rQ:Replay ⟨upd A.ch v (some c1),A.rq,upd A.dl v (A.dl v++ds)⟩ l A')
 (hs:(ds=[]/\sb1=sb)\/(sb1 c.al=(sb c.al).drop ds.length/\∀u,u≠c.al->(B.ch u).isSome=true->sb1 u=sb u)) :
 (ds≠[]->∃z,sb c.al=ds++z)/\∃j4,CS ⟨upd A.ch v (some c1),A.rq,A.dl⟩ j4 B B' La l sa/\CS B B' ⟨upd A.ch v (some c1),A.rq,A.dl⟩ j4 l La sb1:=by
 have st:=oF (h.vi.rx v c hc) he;have hsep:∀q,A.rq q->q.ab≠v:=fun q a e=>by
  rcases(h.vi.ok q a).2 with z|z
  .have:=h.vi.sep q a z;rw[e,hc]at this;cases this
  .exact hn ⟨q,a,z,e⟩
 obtain⟨j4,t1,t2⟩:=R3 (qL (v:=v) (N:=fun _=>False) (fun _ e=>e.elim) ds) rQ (s':=⟨upd A.ch v (some c1),A.rq,A.dl⟩) ⟨fun u hu=>rfl,fun u hu=>(nG0 hu).symm,⟨rfl,by simp[upd,hdl]⟩,fun q=>by simp,fun _ _ _ z=>z.elim,fun _ z=>z.elim,hsep⟩ fun f _ d c' d' e=>(nomatch e.1);have tc:j4.ch=A'.ch:=funext fun u=>by
  by_cases hu:u=v
  .rw[hu];exact t2.pl.1
  .exact t2.ch u hu
 have tr:j4.rq=A'.rq:=funext fun r=>propext (by rw[t2.rq];simp);have tv:=t2.pl.2;have td:=t2.dl;obtain⟨⟨d0,p1,p2⟩,_,_,_⟩:=pair h g hc hn;have own:ds≠[]->∃e,B.ch c.al=some e/\e.al=v:=fun hds=>by
  rcases aew g.rp g.vi p1 with⟨e0,q1,q2⟩|⟨r,r1,r2,r3⟩
  .grind
  .exfalso;have h0:=g.vi.sep r r1 r2;by_cases hl:iH B' c.al
   .obtain⟨y,y1,y2,y3⟩:=hl;rw[g.vi.src y r (g.rp.le y1) r1 (by rw[y3,r3])]at y2;omega
   .obtain⟨d,_,_,_,d4⟩:=g.lk _ d0 p1 hl;rw[r3]at h0;unfold sv at d4;rw[h0,p2,tv]at d4;exact hds (List.append_eq_nil_iff.1 (List.append_eq_nil_iff.1 d4.symm).1).1
 have hsx:ds≠[]->∃z,sb c.al=ds++(j4.dl v++z):=fun hds=>by
  obtain⟨e,e1,e2⟩:=own hds;obtain⟨z,hz⟩:=g.sx _ e e1;rw[e2,tv,List.append_assoc]at hz;exact⟨z,hz⟩
 refine⟨fun hds=>let ⟨z,hz⟩:=hsx hds;⟨_,hz⟩,j4,XI h g hf t1 (h.vi.put hc st.loc st.rem st.rxs _) tc tr (fun _ _ _ z=>z) (fun u e _ _=>?_) (fun u d a b z=>?_) (fun u e a=>?_) fun u d a=>?_⟩
 .grind [sv,upd]
 .by_cases hu:d.al=v
  .have:u=c.al:=g.vs.rem _ _ _ _ a p1 (by rw[hu,p2]);rw[hu,tv,this]at z;rw[hu,this];unfold sv at z |-;rcases hs with⟨e1,e2⟩|⟨e1,_⟩
   .rw[e2,z,e1];rfl
   .by_cases hb:(B.ch c.al).isSome=true
    .grind
    .rw[nG0 hb]at z |-;have:=List.append_eq_nil_iff.1 z.symm;have h2:=List.append_eq_nil_iff.1 this.1;rw[h2.2,this.2];rfl
  .rw[td _ hu,<-z];unfold sv;have hv:u≠c.al:=fun e=>hu (by rw[e,p1]at a;cases a;exact p2);rcases hs with⟨_,e2⟩|⟨_,e2⟩
   .rw[e2]
   .grind
 .simp only[upd]at a;by_cases hu:u=v
  .rw[pG0 hu]at a;cases a;rw[hu,st.rem];exact h.sx v c hc
  .rw[nG0 hu]at a;exact h.sx u e a
 .obtain⟨z,hz⟩:=g.sx u d a;by_cases hds:ds=[]
  .grind
  .obtain⟨e,e1,e2⟩:=own hds;rcases hs with⟨q,_⟩|⟨q1,q2⟩
   .exact absurd q hds
   .by_cases hv:u=c.al
    .grind
    .rw[q2 u hv (by rw[a];rfl),hz,td _ fun w=>hv (g.vi.rem _ _ _ _ a e1 (by rw[w,e2]))];exact⟨z,rfl⟩
end
open St Po Sy
section
variable {A A' B B' A1:Vw} {La l:List bq} {x:aQ} {sa sb sa1:Int->Rows}
theorem left(h:CS A A' B B' La (aK x::l) sa)(g:CS B B' A A' (aK x::l) La sb)(hx:gX x)(hk:x.ae=20\/x.ae=6):B'.rq x/\(∀r,B'.rq r/\r.ID≠x.ID↔gX r/\(r.ae=20\/r.ae=6)/\aK r∈l)/\∀r,B'.rq r->r.ab=x.ab->r=x:=by
 have hr:B'.rq x:=(g.jk x).2 ⟨hx,hk,by simp⟩;have hn:aK x∉l:=fun e=>(List.pairwise_cons.1 g.nd).1 _ e ⟨x,hx,hk,rfl⟩ rfl;refine⟨hr,fun r=>?_,fun r a e=>g.vs.src r x a hr e⟩;have hi:=g.vs.ids r x;have hj:=g.jk r;have hf:=@fU r x;clear h g
 grind
theorem ansG(h:CS A A' B B' La (aK x::l) sa)(g:CS B B' A A' (aK x::l) La sb)(hx:gX x)(hk:x.ae=20\/x.ae=6){a}(ha:gX a)(han:fF x a=true)(ho:Ro B' a x none)(rQ:Replay A1 l A')(Qo:VI A1)(hr:A1.rq=A.rq)(hsub:∀v c,A1.ch v=some c->A.ch v=some c)(hsv:∀v c,A'.ch v=some c->A1.ch v=A.ch v):∃B1,CS A1 A' B B1 (La++[aK a]) l sa/\CS B B1 A1 A' l (La++[aK a]) sb:=by
 obtain⟨r1,r2,r3⟩:=left h g hx hk;have hi:=kQ han;have hF:∀q∈[aK a],¬ mo q:=by
  have:=ho.kind;simp only[mS,forall_eq];exact uV ha (by omega)
 have hcl:∀u,iH A1 u↔iH A u:=fun u=>by unfold iH;rw[hr]
 have ids:=g.vs.ids;refine⟨⟨upd B'.ch x.ab none,fun q=>B'.rq q/\q.ID≠a.ID,upd B'.dl x.ab []⟩,⟨rQ,Qo,fun r=>by rw[h.jk,Aj hF],Ar h.nd hF,h.cl,fun v c p q=>?_,fun v c p=>?_⟩,⟨g.rp.snoc (.ans ha r1 han ho),g.vi,fun r=>by rw[<-hi];exact r2 r,(List.pairwise_cons.1 g.nd).2,fun r p q=>?_,fun u d p q=>?_,g.sx⟩⟩
 .obtain⟨d,d1,d2,d3,d4⟩:=h.lk v c p q;have hne:c.al≠x.ab:=fun z=>by
   rcases hk with hk|hk
   .rw[z,g.vs.sep x r1 hk]at d1;cases d1
   .exact d2 ⟨x,r1,hk,z.symm⟩
  simp only[upd,nG0 hne];exact⟨d,d1,fun⟨r,z1,z2⟩=>d2 ⟨r,z1.1,z2⟩,d3,by rw[<-d4];unfold sv;rw[hsv v c p]⟩
 .simp only[upd];split
  .exact⟨_,rfl⟩
  .exact h.sx v c (hsub v c p)
 .have hne:r.ab≠x.ab:=fun z=>p.2 (by rw[r3 r p.1 z,hi]);simp only[upd,nG0 hne,hcl];exact g.cl r p.1 q
 .simp only[upd]at p;have hne:u≠x.ab:=fun z=>by rw[pG0 z]at p;cases p
  rw[nG0 hne]at p;exact g.lk u d p fun⟨r,z1,z2,z3⟩=>q ⟨r,⟨z1,fun e=>hne (by rw[<-z3,ids r x z1 r1 (by rw[e,hi])])⟩,z2,z3⟩
theorem accA(h:CS A A' B B' La (aK x::l) sa)(g:CS B B' A A' (aK x::l) La sb)(hx:gX x)(hk:x.ae=20){v0 Ls}(ha:gX (qA x v0 Ls))(hok:Sd.Ok (kR x v0 Ls))(h0:A.ch v0=none)(hn0:∀r,A.rq r->r.ab≠v0)(hnr:∀v c,A.ch v=some c->c.al≠x.ab)(hdl:∀u,A.dl u=[])(rQ:Replay A l A')(hs:sa1 v0=[]/\∀u,u≠v0->(A.ch u).isSome=true->sa1 u=sa u) :
 ∃j4 B1,CS ⟨upd A.ch v0 (some (kR x v0 Ls)),A.rq,A.dl⟩ j4 B B1 (La++[aK (qA x v0 Ls)]) l sa1/\CS B B1 ⟨upd A.ch v0 (some (kR x v0 Ls)),A.rq,A.dl⟩ j4 l (La++[aK (qA x v0 Ls)]) sb:=by
 obtain⟨r1,r2,r3⟩:=left h g hx (.inl hk);have hs0:=g.vs.sep x r1 hk;have hr0:=g.vi.sep x (g.rp.le r1) hk;obtain⟨w1,w2,w3⟩:=void rQ h0 fun r a _=>hn0 r a;have w2:=w2 (hdl v0);have XW:∀v,iH A' v->v≠v0:=fun v ⟨q,a,_,b⟩ e=>hn0 q (rQ.le a) (b.trans e);have hNo:∀f∈l,NoA x.ab f:=fun f hf y hy e ky hz es=>by
  obtain⟨r,q1,q2,q3⟩:=opens rQ h.vi hy ky hz (e▸hf);have nc:¬ iH A r.ab:=fun⟨q,a,b,c⟩=>by
   rw[h.vi.src q r a q1 c]at b;omega
  rcases q3 with⟨c,c1,c2⟩|⟨z,z1,z2,z3,z4⟩|q
  .obtain⟨d,d1,_⟩:=h.lk r.ab c c1 fun z=>nc (rQ.iH z);rw[c2,es,hs0]at d1;cases d1
  .grind
  .exact nc q
 obtain⟨j4,t1,t2⟩:=R3 (qC (v:=v0) (kR x v0 Ls)) rQ (s':=⟨upd A.ch v0 (some (kR x v0 Ls)),A.rq,A.dl⟩) ⟨fun u hu=>nG0 hu,fun _ _=>rfl,⟨h0,pG0 rfl,rfl⟩,fun q=>by simp,fun _ _ _ z=>z.elim,fun _ z=>z.elim,hn0⟩ fun f hf d c' d' e=>by grind [kR]
 have tc:j4.ch=upd A'.ch v0 (some (kR x v0 Ls)):=funext fun u=>by
  unfold upd;by_cases hu:u=v0
  .rw[pG0 hu,hu];exact t2.pl.2.1
  .rw[nG0 hu];exact t2.ch u hu
 have td:j4.dl=A'.dl:=funext fun u=>by
  by_cases hu:u=v0
  .rw[hu];exact t2.pl.2.2
  .exact t2.dl u hu
 have tr:j4.rq=A'.rq:=funext fun r=>propext (by rw[t2.rq];simp);have tl:∀u,iH j4 u↔iH A' u:=fun u=>by unfold iH;rw[tr]
 have hnS:∀v c,B'.ch v=some c->c.al≠v0:=fun v c a e=>by
  by_cases hl:iH B' v
  .obtain⟨q,q1,q2,q3⟩:=hl;obtain⟨q4,_,q6⟩:=(g.jk q).1 q1;rcases List.mem_cons.1 q6 with hm|hm
   .grind [fU]
   .exact w3 q q4 q2 hm (by rw[<-(g.cl q q1 q2).2 c (by rw[q3];exact a),e])
  .obtain⟨d,d1,_⟩:=g.lk v c a hl;rw[e,w1]at d1;cases d1
 have han:fF x (qA x v0 Ls)=true:=by grind [fF,qA]
 have ho:Ro B' (qA x v0 Ls) x (some (newC x (qA x v0 Ls))):=.inr ⟨hk,rfl,.inr ⟨rfl,rfl,hnS⟩⟩;have hF:∀q∈[aK (qA x v0 Ls)],¬ mo q:=by
  simp only[mS,forall_eq];exact uV ha (by show(21:Int)≠20/\(21:Int)≠6;omega)
 have acC:Sd.Ok (newC x (qA x v0 Ls)):=by
  obtain⟨a1,a2,b1,b2,b3,b4,b5,b6,b7,a4,a5,c1,c2,c3⟩:=hok;unfold kR at a1 a2 b1 b2 b3 b4 b5 b6 b7 a4 a5 c1 c2 c3;unfold newC qA;simp only at a1 a2 b1 b2 b3 b4 b5 b6 b7 a4 a5 c1 c2 c3;exact⟨by simp only;omega,a2,b3,b4,b1,b2,b6,b5,b5,a4,(fun s hs=>by cases hs),by unfold Sd.lastOf;simp,by simp only;omega,⟨fun _=>rfl,fun e=>absurd e (by simp)⟩⟩
 have O1:One (kR x v0 Ls) (newC x (qA x v0 Ls)):=⟨rfl,rfl,rfl,.inl ⟨rfl,rfl⟩⟩;have O2:One (newC x (qA x v0 Ls)) (kR x v0 Ls):=⟨rfl,rfl,rfl,.inl ⟨rfl,rfl⟩⟩;have hrx:=aa8 hok;have Qo:VI ⟨upd A.ch v0 (some (kR x v0 Ls)),A.rq,A.dl⟩:=by
  obtain⟨a1,a2,a3,a4,a5,a6,a7⟩:=h.vi;have e1:(kR x v0 Ls).ap=v0:=rfl;have e2:(kR x v0 Ls).al=x.ab:=rfl;clear h g hok acC O1 O2;constructor<;>simp only[upd]<;>grind
 refine⟨j4,⟨upd B'.ch x.ab (some (newC x (qA x v0 Ls))),fun q=>B'.rq q/\q.ID≠x.ID,upd B'.dl x.ab []⟩,⟨t1,Qo,fun r=>by rw[tr,h.jk,Aj hF],Ar h.nd hF,fun r p q=>?_,fun v c p q=>?_,fun v c p=>?_⟩,⟨g.rp.snoc (.ans ha r1 han ho),g.vi,r2,(List.pairwise_cons.1 g.nd).2,fun r p q=>?_,fun u d p q=>?_,by rw[td];exact g.sx⟩⟩
 .rw[tr]at p;simp only[tc,upd,nG0 (XW _ ⟨r,p,q,rfl⟩)];exact h.cl r p q
 .rw[tc]at p;rw[tl]at q;simp only[upd]at p |-;by_cases hv:v=v0
  .rw[pG0 hv]at p;cases p;refine⟨_,pG0 rfl,fun⟨r,z1,z2,z3⟩=>z1.2 (by rw[r3 r z1.1 z3]),⟨rfl,rfl,O1,O2,hok,acC,rfl,rfl⟩,?_⟩;rw[hv];show sv _ sa1 v0=(if x.ab=x.ab then []else _)++[];simp[sv,upd,hs.1]
  .rw[nG0 hv]at p;obtain⟨d,d1,d2,d3,d4⟩:=h.lk v c p q;have hne:c.al≠x.ab:=fun z=>by rw[z,hs0]at d1;cases d1
   rw[nG0 hne,nG0 hne,<-d4];refine⟨d,d1,fun⟨r,z1,z2⟩=>d2 ⟨r,z1.1,z2⟩,d3,?_⟩;have:=hs.2 v hv;clear h g;simp only[sv,upd]
   grind
 .simp only[upd]at p |-;by_cases hv:v=v0
  .rw[pG0 hv]at p;cases p;rw[hv,hs.1,pG0 (by rfl)];exact⟨[],rfl⟩
  .rw[nG0 hv]at p;rw[nG0 (hnr v c p),hs.2 v hv (by rw[p];rfl)];exact h.sx v c p
 .have hne:r.ab≠x.ab:=fun z=>p.2 (by rw[r3 r p.1 z]);simp only[upd,nG0 hne];exact g.cl r p.1 q
 .simp only[upd]at p;rw[tc,td];by_cases hu:u=x.ab
  .rw[pG0 hu]at p;cases p;refine⟨kR x v0 Ls,pG0 rfl,fun z=>XW _ ((tl _).1 z) rfl,⟨rfl,rfl,O2,O1,acC,hok,rfl,rfl⟩,?_⟩;show sv B sb u=A'.dl v0++[];rw[w2,hu];unfold sv;rw[hr0];rfl
  .rw[nG0 hu]at p;obtain⟨c,c1,c2,c3,c4⟩:=g.lk u d p fun⟨r,z1,z2,z3⟩=>q ⟨r,⟨z1,fun e=>by
    rw[g.vs.ids r x z1 r1 e]at z2;omega⟩,z2,z3⟩
   have hne:d.al≠v0:=fun z=>by rw[z,w1]at c1;cases c1
   exact⟨c,by simp only[upd,nG0 hne];exact c1,fun z=>c2 ((tl _).1 z),c3,c4⟩
end
open St Po Sy
def Ky(l:List aM)(v:Int):Option aM:=l.find? fun c=>c.ap==v
def vw(m:aJ):Vw:=⟨Ky m.aj,fun r=>r∈m.aB/\(r.ae=20\/r.ae=6),fun _=>[]⟩
abbrev IU(l:List aM):Prop:=l.Pairwise fun a b=>a.ap<b.ap
theorem Ab{l}(h:IU l){c d}(hc:c∈l)(hd:d∈l)(e:c.ap=d.ap):c=d:=by
 induction l with
 | nil=>cases hc
 | cons x l ih=>
   obtain⟨h1,h2⟩:=List.pairwise_cons.1 h;have:=h1 c;have:=h1 d
   grind
theorem fZ{l}(h:IU l){v c}:Ky l v=some c↔c∈l/\c.ap=v:=by
 unfold Ky;constructor
 .grind
 .rintro⟨h1,h2⟩;cases e:l.find? fun c=>c.ap==v with
  | none=>
    rw[List.find?_eq_none]at e;exact absurd (by simp[h2]) (e c h1)
  | some d=>
    have hd:=List.mem_of_find?_eq_some e;have hv:d.ap=v:=by simpa using List.find?_some e
    rw[Ab h hd h1 (by rw[hv,h2])]
theorem Dk{l}(h:IU l){v}:Ky l v=none↔∀c∈l,c.ap≠v:=by grind [fZ,Ky]
theorem Ig{l k}(hl:IU l)(hk:IU k){v o}(h:∀d,d∈k↔o=some d\/(d∈l/\d.ap≠v))(ho:∀c,o=some c->c.ap=v):Ky k=upd (Ky l) v o:=by
 funext u;have h1:=@fZ l hl u;have h2:=@fZ k hk u;unfold upd;apply Option.ext;intro d;rw[h2,h d];by_cases hu:u=v
 .grind
 .grind
theorem WW{l:List aM}{i c c'}(hc:l[i]?=some c)(he:c'.ap=c.ap):(l.set i c').map (·.ap)=l.map (·.ap):=by
 rw[List.map_set,he];have:(l.map (·.ap))[i]?=some c.ap:=by rw[List.getElem?_map,hc];rfl
 obtain⟨h1,h2⟩:=gS.1 this;rw[<-h2,List.set_getElem_self]
theorem Nk{l k}(h:IU l)(e:k.map (·.ap)=l.map (·.ap)):IU k:=by
 have h':(l.map (·.ap)).Pairwise (· < ·):=List.pairwise_map.2 h;rw[<-e]at h';exact List.pairwise_map.1 h'
theorem NS{l}(h:IU l){i c}(hc:l[i]?=some c)d:(d∈l.take i\/d∈l.drop (i+1))↔d∈l/\d.ap≠c.ap:=by
 obtain⟨hi,hci⟩:=gS.1 hc;have hl:l=l.take i++c::l.drop (i+1):=by
  rw[<-hci,<-List.drop_eq_getElem_cons hi,List.take_append_drop]
 have hs:=h;rw[hl]at hs;obtain⟨_,s2,s3⟩:=List.pairwise_append.1 hs;have s4:=(List.pairwise_cons.1 s2).1 d;have s5:=fun q=>s3 d q c (by simp);have h3:d∈l↔d∈l.take i\/d=c\/d∈l.drop (i+1):=by grind
 rw[h3]
 grind
theorem Ob{l}(h:IU l){i c c'}(hc:l[i]?=some c)(he:c'.ap=c.ap):Ky (l.set i c')=upd (Ky l) c.ap (some c'):=by
 refine Ig h (Nk h (WW hc he)) (fun d=>?_) fun q e=>by cases e;exact he
 have hi:=(gS.1 hc).1;rw[<-NS h hc,List.set_eq_take_append_cons_drop,pG0 hi];simp only[List.mem_append,List.mem_cons]
 grind
theorem Ur{l}(h:IU l){i c}(hc:l[i]?=some c):Ky (pK l i)=upd (Ky l) c.ap none:=
 Ig h (h.sublist (qR l i)) (fun d=>by rw[<-NS h hc];unfold pK;simp) fun q e=>(nomatch e)
theorem Oc{l}(h:IU l){c}(hn:∀d∈l,d.ap≠c.ap):Ky (ku c l)=upd (Ky l) c.ap (some c):=
 Ig h (Dh c l h hn) (fun d=>by rw[nA];have:=hn d;grind) fun q e=>by cases e;rfl
open St Po Sy
theorem vN{m s}(h1:Ky m.aj=s.ch)(h2:∀r,(r∈m.aB/\(r.ae=20\/r.ae=6))↔s.rq r)(h3:s.dl=fun _=>[]):vw m=s:=by
 obtain⟨a,b,c⟩:=s;unfold vw;rw[h1,show(fun r=>r∈m.aB/\(r.ae=20\/r.ae=6))=b from funext fun r=>propext (h2 r)];rw[show c=fun _=>[]from h3]
theorem ru{m x}(hx:gX x):dY m (aK x)=nR m x:=by
 unfold dY DZ;rw[fr5,show(aK x).am=Sg.iq x from rfl,f7,pG0 rfl,Sg.oJ hx.1 hx.2];exact pG0 rfl
theorem X4{l}(h:(l.map (·.ID)).Nodup){i}{r:aQ}(hr:l[i]?=some r)q:q∈pK l i↔q∈l/\q.ID≠r.ID:=by
 obtain⟨hi,hri⟩:=gS.1 hr;have hl:l=l.take i++r::l.drop (i+1):=by
  rw[<-hri,<-List.drop_eq_getElem_cons hi,List.take_append_drop]
 have hs:=h;unfold pK;rw[hl,List.map_append,mC,List.nodup_append]at hs;obtain⟨_,hs2,hs3⟩:=hs;have hs4:=(List.nodup_cons.1 hs2).1;have h1:∀q∈l.take i,q.ID≠r.ID:=fun q hq=>hs3 q.ID (List.mem_map.2 ⟨q,hq,rfl⟩) r.ID (by simp);have h2:∀q∈l.drop (i+1),q.ID≠r.ID:=fun q hq e=>hs4 (e▸List.mem_map.2 ⟨q,hq,rfl⟩);have h3:q∈l↔q∈l.take i\/q=r\/q∈l.drop (i+1):=by grind
 rw[h3,List.mem_append]
 grind
theorem UY{m}(h:DI m){r q}(hr:r∈m.aB)(hq:q∈m.aB)(e:r.ID=q.ID):r=q:=by
 unfold DI at h
 revert h hr hq
 induction m.aB with
 | nil=>exact fun _ h=>nomatch h
 | cons x l ih=>
   intro h hr hq;obtain⟨h1,h2⟩:=List.nodup_cons.1 h;simp only[List.mem_map,not_exists,not_and]at h1
   grind
theorem take_at{m}(h:DI m){r x}(hr:r∈m.aB)(ha:fF r x=true):∃i,takeC m x=some (i,r)/\m.aB[i]?=some r:=by
 rcases lC m x with⟨_,h2⟩|⟨i,q,h1,_,h3,h4⟩
 .grind
 .have:=UY h (eO h3) hr (by rw[kQ h4,kQ ha]);subst this;exact⟨i,h1,h3⟩
theorem vO{m}(h:DI m){i r x}(hr:m.aB[i]?=some r)(ha:fF r x=true){C g}(hC:Ky C=g):vw {gF m i with aj:=C}=⟨g,fun q=>(vw m).rq q/\q.ID≠x.ID,fun _=>[]⟩:=
 vN hC (fun q=>by
  show q∈pK m.aB i/\_↔(q∈m.aB/\_)/\_;rw[X4 h hr,kQ ha]
  grind) rfl
theorem Mj{k m}(h:MInv k m){v c}(hc:(vw m).ch v=some c):c.ap=v/\∃i,HZ m v=some (i,c)/\m.aj[i]?=some c:=by
 obtain⟨h1,h2⟩:=(fZ h.nQ).1 hc;refine⟨h2,?_⟩;rcases dD m v with⟨_,_,q⟩|⟨i,d,q1,_,q3,q4⟩
 .grind
 .have:=Ab h.nQ (eO q3) h1 (by rw[q4,h2]);subst this;exact⟨i,q1,q3⟩
theorem Ta{k m}(h:MInv k m)(hv:VI (vw m)){v w c}(hc:(vw m).ch v=some c)(he:c.al=w):∃i,Hg m w=some (i,c)/\m.aj[i]?=some c:=by
 obtain⟨h1,h2⟩:=(fZ h.nQ).1 hc;rcases iY m w with⟨_,_,q⟩|⟨i,d,q1,_,q3,q4⟩
 .grind
 .have hd:(vw m).ch d.ap=some d:=(fZ h.nQ).2 ⟨eO q3,rfl⟩;have:=hv.rem _ _ _ _ hd hc (by rw[q4,he]);rw[this,hc]at hd;cases hd;exact⟨i,q1,q3⟩
theorem mK{m v}:iH (vw m) v↔bE m v=true:=by
 unfold iH bE vw;rw[List.any_eq_true];simp only[Bool.and_eq_true,beq_iff_eq]
 grind
def UW(x:aQ):aQ:=⟨7,x.ID,0,x.ab,x.bK,0,0,0,0,zu⟩
theorem Tc{k m}(h:MInv k m){x c}(hx:gX x)(hk:x.ae=6)(hc:(vw m).ch x.bK=some c)(he:c.al=x.ab) :
 vw (dY m (aK x)).1=⟨upd (vw m).ch x.bK none,(vw m).rq,fun _=>[]⟩/\(dY m (aK x)).1.Out=m.Out++[aK (UW x)]/\(dY m (aK x)).2=[zA 4 x.bK 0 0]:=by
 obtain⟨h0,i,h1,h2⟩:=Mj h hc;have e:dY m (aK x)=(jC {m with aj:=pK m.aj i} (UW x),[zA 4 x.bK 0 0]):=by
  rw[ru hx];unfold nR oI;rw[f7,pG0 hk,h1];simp only
  rw[nG0 (by simp[he])];rfl
 rw[e];exact⟨vN (h0▸Ur h.nQ h2) (fun _=>Iff.rfl) rfl,rfl,rfl⟩
theorem Tf{k m}(h:MInv k m)(hd:DI m)(hv:VI (vw m)){x r o}(hx:gX x)(hr:(vw m).rq r)(ha:fF r x=true)(ho:Ro (vw m) x r o) :
 vw (dY m (aK x)).1=⟨upd (vw m).ch r.ab o,fun q=>(vw m).rq q/\q.ID≠x.ID,fun _=>[]⟩/\(dY m (aK x)).1.Out=m.Out/\(o=none->(dY m (aK x)).2=[]\/(dY m (aK x)).2=[zA 4 r.ab 0 0]\/∃n,(dY m (aK x)).2=[zA 5 r.ab n 0])/\(o≠none->(dY m (aK x)).2=[zA 2 r.ab 0 0]):=by
 obtain⟨i,h1,h2⟩:=take_at hd hr.1 ha;have e0:dY m (aK x)=l9 m x:=by
  have:=ho.kind;rw[ru hx];unfold nR;rw[f7,f7,f7,f7]
 rw[e0];unfold l9;rw[h1];simp only
 rcases ho with⟨k1,k2,k3⟩|⟨k1,k2,⟨k3,k4⟩|⟨k3,k4,k5⟩⟩
 .rw[f7,pG0 k1,k3];unfold pW;rcases dD (gF m i) r.ab with⟨q1,_,q2⟩|⟨j,c,q1,_,q3,q4⟩
  .rw[q1];refine⟨(show vw (gF m i)=_ from vO hd h2 ha (C:=m.aj) (funext fun u=>?_)),rfl,fun _=>.inl rfl,fun z=>absurd rfl z⟩;unfold upd;split
   .rename_i e;rw[e];exact(Dk h.nQ).2 q2
   .rfl
  .rw[q1];exact⟨vO hd h2 ha (by rw[<-q4];exact Ur h.nQ q3),rfl,fun _=>.inr (.inl rfl),fun z=>absurd rfl z⟩
 .rw[pG0 k1,f7,pG0 k3,k4];refine⟨vO hd h2 ha (C:=m.aj) (funext fun u=>?_),rfl,fun _=>.inr (.inr ⟨_,rfl⟩),fun z=>absurd rfl z⟩;have:=hv.sep r hr k1;unfold upd;split
  .rename_i e;rw[e];exact this
  .rfl
 .have Uf:Hg m x.ab=none:=by
   rcases iY m x.ab with⟨q,_⟩|⟨j,c,_,_,q3,q4⟩
   .exact q
   .exact absurd q4 (k5 _ c ((fZ h.nQ).2 ⟨eO q3,rfl⟩))
  rw[pG0 k1,f7,nG0 (by simp[k3]),Uf,k4];exact⟨vO hd h2 ha (C:=ku (newC r x) m.aj) (Oc h.nQ (c:=newC r x) ((Dk h.nQ).1 (hv.sep r hr k1))),rfl,fun z=>(nomatch z),fun _=>rfl⟩
theorem Gz{k m}(h:MInv k m){i c c'}(hc:m.aj[i]?=some c)(he:c'.ap=c.ap):vw (gI m i c')=⟨upd (vw m).ch c.ap (some c'),(vw m).rq,fun _=>[]⟩:=
 vN (Ob h.nQ hc he) (fun _=>Iff.rfl) rfl
theorem PI{k m}(h:MInv k m)(hv:VI (vw m)){f v c}(hc:(vw m).ch v=some c)(hn:iH (vw m) v)(hf:For v f c):dY m f=(m,[]):=by
 have hl:=hv.loc v c hc;rcases hf with⟨⟨f4,f5,f6⟩,rfl⟩|⟨x,hx,hk,rfl,he⟩
 .obtain⟨_,i,h1,_⟩:=Mj h hc;unfold dY;rw[f7,nG0 f5,h1];simp only
  rw[pG0 (mK.1 hn)]
 .obtain⟨i,h1,_⟩:=Ta h hv hc he;rw[ru hx];unfold nR yP;rw[f7,f7,f7,pG0 hk,h1];simp only
  rw[pG0 (by rw[hl];exact mK.1 hn)]
theorem Te{k m}(h:MInv k m)(hv:VI (vw m)){f v c c1 ds}(hc:(vw m).ch v=some c)(hn:¬ iH (vw m) v)(he:Ev v f c c1 ds) :
 (dY m f).2=vY c1 ds/\
 ((vw (dY m f).1=⟨upd (vw m).ch v (some c1),(vw m).rq,fun _=>[]⟩/\(dY m f).1.Out=m.Out/\(needs c1->¬ DN f))\/
   (DN f/\needs c1/\vw (dY m f).1=⟨upd (vw m).ch v (some (full c1)),(vw m).rq,fun _=>[]⟩/\(dY m f).1.Out=m.Out++[aK ⟨22,oU m,0,v,0,0,0,c1.bd-c1.aC,0,zu⟩])):=by
 have hl:=hv.loc v c hc;have st:=oF (hv.rx v c hc) he;rcases he with⟨⟨f4,f5,f6⟩,rfl,he⟩|⟨x,hx,hk,rfl,hr,he,rfl⟩
 .obtain⟨_,i,h1,h2⟩:=Mj h hc;have e:dY m f=nH m i c f.am:=by
   unfold dY;rw[f7,nG0 f5,h1];simp only
   rw[nG0 (fun z=>hn (mK.2 z))]
  rw[e];unfold nH;rw[he,f8];by_cases hq:needs c1
  .rw[pG0 hq];refine⟨rfl,.inr ⟨⟨f4,f5,f6⟩,hq,?_,?_⟩⟩
   .have:=Gz h h2 (c':=full c1) st.loc;rw[hl]at this;exact this
   .show m.Out++[aK (Ip _ _)]=_;unfold Ip;rw[st.loc,hl]
  .rw[nG0 hq];refine⟨rfl,.inl ⟨?_,rfl,fun z=>absurd z hq⟩⟩;have:=Gz h h2 (c':=c1) st.loc;rw[hl]at this;exact this
 .obtain⟨i,h1,h2⟩:=Ta h hv hc hr;have e:dY m (aK x)=(gI m i c1,[]):=by grind [ru,nR,yP,mK]
  rw[e];refine⟨rfl,.inl ⟨?_,rfl,fun _ z=>z.2.1 rfl⟩⟩;rw[Gz h h2 st.loc,hl]
theorem Td{k m}(h:MInv k m){x}(hx:gX x)(hk:x.ae=20) :
 (∃r,(r=2\/r=4\/r=5\/r=9)/\dY m (aK x)=(jC m (D7 x r),[]))\/
 ∃L,(∀c∈m.aj,c.al≠x.ab)/\gB m (ji m)=false/\(64<=ji m/\ji m<=127)/\
  vw (dY m (aK x)).1=⟨upd (vw m).ch (ji m) (some (kR x (ji m) L)),(vw m).rq,fun _=>[]⟩/\(dY m (aK x)).1.Out=m.Out++[aK (qA x (ji m) L)]/\(dY m (aK x)).2=[zA 2 (ji m) 0 0]:=by
 have e:dY m (aK x)=vB m x:=by grind [ru,nR]
 rw[e];unfold vB;cases hl:TS m x.bT with
 | none=>exact .inl ⟨2,by omega,rfl⟩
 | some L=>
   simp only
   by_cases g1:m.bh<L.bh
   .grind
   rw[nG0 g1];by_cases g2:16<=gK m
   .grind
   rw[nG0 g2];by_cases g3:(Hg m x.ab).isSome=true
   .grind
   rw[nG0 g3];have Uf:∀c∈m.aj,c.al≠x.ab:=by grind [iY]
   obtain⟨v,_,f2,f3,f4,f5⟩:=j6 (m:=m) (by omega);rw[f2];exact .inr ⟨L,Uf,f3,⟨f4,f5⟩,vN (Oc h.nQ (c:=kR x v L) fun d hd he=>by
    rw[(eH m v).2 (.inl ⟨d,hd,he⟩)]at f3;cases f3) (fun _=>Iff.rfl) rfl,rfl,rfl⟩
open St Po Sy
def Zd(A:Vw):Prop:=∀v c,A.ch v=some c->¬ iH A v->Gv c
structure CI(L:Bool->List bq)(w:Wr)(S:Bool->Vw):Prop where
 cs:∀k,CS (vw (w.s k)) (S k) (vw (w.s (!k))) (S (!k)) (L k) (L (!k)) fun v=>w.sd (slot k v)
 gv:∀k,Zd (vw (w.s k))
 pr:∀j x,gX x->x.ae=18->aK x∈L j->j=true
 dat:w.dat=false
def Cj(L:Bool->List bq)(w:Wr):Prop:=∃S,CI L w S
theorem Vb k{L'}{w':Wr}{A A' B B' La Lb sa sb}(hg:CS A A' B B' La Lb sa/\CS B B' A A' Lb La sb)(vk:vw (w'.s k)=A)(vn:vw (w'.s (!k))=B)(lk:L' k=La)(ln:L' (!k)=Lb)(sk:(fun v=>w'.sd (slot k v))=sa)(sn:(fun v=>w'.sd (slot (!k) v))=sb)(gk:Zd A)(gn:Zd B)(hp:∀j x,gX x->x.ae=18->aK x∈L' j->j=true)(hd:w'.dat=false):Cj L' w':=by
 subst vk vn lk ln sk sn;refine⟨fun j=>if j=k then A' else B',fun j=>?_,fun j=>?_,hp,hd⟩
 .rcases dx j k with rfl|rfl
  .grind
  .grind
 .rcases dx j k with rfl|rfl
  .exact gk
  .exact gn
theorem CI.two{L w S}(h:CI L w S)k:CS (vw (w.s k)) (S k) (vw (w.s (!k))) (S (!k)) (L k) (L (!k)) (fun v=>w.sd (slot k v))/\CS (vw (w.s (!k))) (S (!k)) (vw (w.s k)) (S k) (L (!k)) (L k) fun v=>w.sd (slot (!k) v):=by
 have:=h.cs (!k);rw[Bool.not_not]at this;exact⟨h.cs k,this⟩
theorem oD{A}(h:Zd A){v c}(hc:∀q,c=some q->Gv q){r}{d:Int->Rows}(hr:∀u,u≠v->iH A u->iH ⟨upd A.ch v c,r,d⟩ u):Zd ⟨upd A.ch v c,r,d⟩:=fun u q a b=>by
 simp only[upd]at a;by_cases hu:u=v
 .grind
 .rw[nG0 hu]at a;exact h u q a fun z=>b (hr u hu z)
theorem O7{k u v}:slot k u≠slot (!k) v:=by grind [slot]
theorem slot_ne{k u v}(hu:64<=u/\u<=127)(hv:64<=v/\v<=127)(h:u≠v):slot k u≠slot k v:=by
 unfold slot;omega
theorem GV sd k v(l:Rows):(fun u=>aH sd (slot k v) l (slot (!k) u))=fun u=>sd (slot (!k) u):=funext fun u=>nG0 fun e=>O7 e.symm
theorem GX sd k{v}(l:Rows)(hv:64<=v/\v<=127):aH sd (slot k v) l (slot k v)=l/\∀u,64<=u/\u<=127->u≠v->aH sd (slot k v) l (slot k u)=sd (slot k u):=⟨pG0 rfl,fun u hu h=>nG0 (slot_ne hu hv h)⟩
theorem aei w k v:dH w k (zA 2 v 0 0)={w with sd:=aH w.sd (slot k v) [],cn:=aH w.cn (slot k v) false}:=by grind [dH,zA]
theorem Nc w k{x}(h:x.ae=4\/x.ae=5\/x.ae=7):(∀j,(dH w k x).s j=w.s j)/\(dH w k x).sd=w.sd/\(dH w k x).dat=w.dat:=by
 unfold dH;rw[f7];split
 .exact⟨fun _=>rfl,rfl,rfl⟩
 rw[f7,f7,f7];split<;>exact⟨fun _=>rfl,rfl,rfl⟩
theorem S9 m id r:((l5 m id r).2=0/\(1<=id/\id<=255)/\(r=0\/r=1)/\(l5 m id r).1=jC m ⟨19,id,0,0,0,0,0,0,r,zu⟩)\/((l5 m id r).2≠0/\(l5 m id r).1=m):=by
 unfold l5
 grind
theorem aeg w k u id:((∃r,gX ⟨19,id,0,0,0,0,0,0,r,zu⟩/\(dH w k ⟨6,0,[],0,u,id⟩).s k=jC (w.s k) ⟨19,id,0,0,0,0,0,0,r,zu⟩)\/(dH w k ⟨6,0,[],0,u,id⟩).s k=w.s k)/\(dH w k ⟨6,0,[],0,u,id⟩).s (!k)=w.s (!k)/\(dH w k ⟨6,0,[],0,u,id⟩).sd=w.sd/\(dH w k ⟨6,0,[],0,u,id⟩).dat=w.dat:=by
 have e:dH w k ⟨6,0,[],0,u,id⟩=if (l5 (w.s k) id (u.aO.tmod 2)).2=0 then w.dz k (l5 (w.s k) id (u.aO.tmod 2)).1 else {w.dz k (l5 (w.s k) id (u.aO.tmod 2)).1 with par:=-1000}:=by grind [dH]
 rw[e];rcases S9 (w.s k) id (u.aO.tmod 2)with⟨h0,h1,h2,h3⟩|⟨h0,h3⟩
 .rw[pG0 h0,h3];obtain⟨s1,s2⟩:=eU w k (jC (w.s k) ⟨19,id,0,0,0,0,0,0,u.aO.tmod 2,zu⟩);exact⟨.inl ⟨_,qO h1 19 (.inl ⟨rfl,h2⟩),s1⟩,s2,by cases k<;>rfl,by cases k<;>rfl⟩
 .rw[nG0 h0,h3,ug];exact⟨.inr rfl,rfl,rfl,rfl⟩
theorem Uv{α:Type}{l:List α}{p c}(hc:c∈l)(hp:p c=true)(h:∀d∈l,p d=true->d=c):l.find? p=some c:=by
 cases e:l.find? p with
 | none=>
   rw[List.find?_eq_none]at e;exact absurd hp (e c hc)
 | some d=>rw[h d (List.mem_of_find?_eq_some e) (List.find?_some e)]
theorem aeh{n w k}(hI:MInv n (w.s k)){u d0 c}(hc:(vw (w.s k)).ch u=some c){z}(hz:w.sd (slot (!k) c.al)=d0::z) :
 dH w k ⟨3,u,d0,0,zu,0⟩={w with sd:=aH w.sd (slot (!k) c.al) (w.sd (slot (!k) c.al)).tail}:=by
 obtain⟨h1,h2⟩:=(fZ hI.nQ).1 hc;have e:Jy w k u d0=some c:=by
  unfold Jy;refine Uv h1 ?_ fun d hd hp=>?_
  .rw[hz];simp[h2]
  .simp only[Bool.and_eq_true,beq_iff_eq]at hp;exact Ab hI.nQ hd h1 (by rw[hp.1,h2])
 unfold dH;simp only
 rw[f7,f7,f7,pG0 trivial,e]
theorem Ov{α}g k(x y:α):at_ (at_ g k x) k y=at_ g k y:=by grind [at_]
theorem AL(L:Bool->List bq)k:at_ L k (L k++[])=L:=by grind [at_]
theorem MZ{α}g k(x y:α):at_ (at_ g (!k) x) k y k=y/\at_ (at_ g (!k) x) k y (!k)=x:=⟨iC _ _ _,by rw[gG,iC]⟩
structure Rb(L:Bool->List bq)(w:Wr)(k:Bool)(f:bq)(l:List bq)(m:aJ)(w1:Wr):Prop where
 hL:L (!k)=f::l
 nf:iN f=false
 hm:vw m=vw (w.s k)
 inv:∃n,MInv n m
 inv':∃n,MInv n (dY m f).1
 di:DI m
 role:m.jm=if k=true then 1 else 0
 xQ:∀x∈f.am,Byte x
 len:f.am.length<=65531
 rg:∀j v c,(vw (w.s j)).ch v=some c->64<=v/\v<=127
 s1:w1.s k=(dY m f).1
 s2:w1.s (!k)=w.s (!k)
 sd:w1.sd=w.sd
 dat:w1.dat=w.dat
def nL(k:Bool)(m:aJ)(f:bq)(w1:Wr):Wr:=(dY m f).2.foldl (fun w x=>dH w k x) w1
section
variable {L:Bool->List bq} {w:Wr} {S:Bool->Vw} {k:Bool} {f:bq} {l:List bq} {m:aJ} {w1:Wr}
theorem rF(a:Rb L w k f l m w1)(hC:CI L w S){w2:Wr}{A A' B':Vw}{La new:List bq}{sa sb:Int->Rows}(hg:CS A A' (vw (w.s (!k))) B' La l sa/\CS (vw (w.s (!k))) B' A A' l La sb)(vk:vw (w2.s k)=A)(vn:w2.s (!k)=w.s (!k))(lk:L k++new=La)(sk:(fun v=>w2.sd (slot k v))=sa)(sn:(fun v=>w2.sd (slot (!k) v))=sb)(gk:Zd A)(hd:w2.dat=w.dat)(hq:∀x,gX x->x.ae=18->aK x∉new:=by exact fun _ _ _ z=>nomatch z):Cj (at_ (at_ L (!k) l) k (L k++new)) w2:=
 Vb k hg vk (by rw[vn]) ((MZ _ _ _ _).1.trans lk) (MZ _ _ _ _).2 sk sn gk (hC.gv _) (fun j x p q z=>by
  rcases dx j k with rfl|rfl
  .rw[iC]at z;exact(List.mem_append.1 z).elim (hC.pr j x p q) fun z=>absurd z (hq x p q)
  .rw[(MZ _ _ _ _).2]at z;exact hC.pr _ x p q (by rw[a.hL];exact List.mem_cons_of_mem _ z)) (hd.trans hC.dat)
theorem Mh{a}(ha:gX a)(hk:a.ae≠18):∀x,gX x->x.ae=18->aK x∉[aK a]:=fun x p q z=>hk (by rw[<-fU p ha (List.mem_singleton.1 z)];exact q)
theorem agI{r x}(h:fF r x=true)(k:x.ae=19):r.ae=18:=by
 unfold fF at h;by_cases a:r.ae=20
 .simp[a,k]at h
 by_cases b:r.ae=6
 .simp[b,k]at h
 by_cases c:r.ae=18
 .exact c
 .simp[a,b,c]at h
theorem wM{a b:List bq}(h:a=a++b):b=[]:=List.append_cancel_left (by rw[<-h,List.append_nil])
def Goal(L:Bool->List bq)(k:Bool)(l:List bq)(m:aJ)(w2:Wr):Prop:=∀new,(w2.s k).Out=m.Out++new->Cj (at_ (at_ L (!k) l) k (L k++new)) w2
theorem xE(a:Rb L w k f l m w1)(hC:CI L w S){S' T'}(hg:CS (vw (w.s k)) S' (vw (w.s (!k))) T' (L k) l (fun v=>w.sd (slot k v))/\CS (vw (w.s (!k))) T' (vw (w.s k)) S' l (L k) fun v=>w.sd (slot (!k) v)){w2}(hs:∀j,w2.s j=w1.s j)(hd:w2.sd=w.sd/\w2.dat=w.dat)(e:vw (dY m f).1=vw m/\(dY m f).1.Out=m.Out):Goal L k l m w2:=fun new hn=>by
 rw[hs,a.s1,e.2]at hn;rw[wM hn];exact rF a hC hg (by rw[hs,a.s1,e.1,a.hm]) (by rw[hs,a.s2]) (List.append_nil _) (by rw[hd.1]) (by rw[hd.1]) (hC.gv k) hd.2
theorem QO{x}(a:Rb L w k (aK x) l m w1)(hC:CI L w S)(hx:gX x)(hk:x.ae=18\/x.ae=19)(rQ:Replay (vw (w.s k)) l (S k)):Goal L k l m (nL k m (aK x) w1):=by
 obtain⟨h,g⟩:=hC.two k;rw[a.hL]at h g;have hp:=abO h g (uV hx (by omega)) rQ;rcases hk with hk|hk
 .have Ue:m.jm=0:=by
   have:=hC.pr (!k) x hx hk (by rw[a.hL];simp);rw[a.role];cases k
   .rfl
   .cases this
  have e:dY m (aK x)=(m,[⟨6,0,[],0,x.ao,x.ID⟩]):=by grind [ru,nR,nk]
  have hs:=a.s1;unfold nL;rw[e]at hs |-;obtain⟨t1,t2,t3,t4⟩:=aeg w1 k x.ao x.ID;show Goal L k l m (dH w1 k ⟨6,0,[],0,x.ao,x.ID⟩);rcases t1 with⟨r,r1,r2⟩|r2
  .intro new hn;rw[r2,hs]at hn;have hn:new=[aK ⟨19,x.ID,0,0,0,0,0,0,r,zu⟩]:=(List.append_cancel_left (show m.Out++_=m.Out++new from hn)).symm;rw[hn];exact rF a hC (LW hp.1 hp.2 (.inr ⟨_,r1,rfl,.inr (.inr rfl)⟩) (uV r1 ⟨by show(19:Int)≠20;omega,by show(19:Int)≠6;omega⟩)) (by rw[r2,hs,<-a.hm];rfl) (by rw[t2,a.s2]) rfl (by rw[t3,a.sd]) (by rw[t3,a.sd]) (hC.gv k) (by rw[t4,a.dat]) (Mh r1 (by show(19:Int)≠18;omega))
  .exact xE a hC hp (fun j=>by
    rcases dx j k with rfl|rfl
    .exact r2
    .exact t2) ⟨by rw[t3,a.sd],by rw[t4,a.dat]⟩ (by rw[e];exact⟨rfl,rfl⟩)
 .have e0:dY m (aK x)=l9 m x:=by
   rw[ru hx];unfold nR;rw[f7,f7,f7,f7]
  have e:(vw (l9 m x).1=vw m/\(l9 m x).1.Out=m.Out)/\((l9 m x).2=[]\/∃y,y.ae=7/\(l9 m x).2=[y]):=by
   unfold l9;rcases lC m x with⟨q,_⟩|⟨i,r,q1,_,q3,q4⟩
   .grind
   .have hr:=agI q4 hk;rw[q1];simp only
    rw[f7,f7,f7];refine⟨⟨(vO a.di q3 q4 (C:=m.aj) rfl).trans ?_,rfl⟩,.inr ⟨_,rfl,rfl⟩⟩;refine(vN (s:=⟨_,_,fun _=>[]⟩) rfl (fun q=>?_) rfl).symm;show q∈m.aB/\_↔(q∈m.aB/\_)/\_;have:=@UY m a.di q r;have:=eO q3;have:=kQ q4
    grind
  unfold nL;rw[<-e0]at e;rcases e.2 with q|⟨y,y1,q⟩
  .rw[q];exact xE a hC hp (fun _=>rfl) ⟨a.sd,a.dat⟩ e.1
  .rw[q];obtain⟨t1,t2,t3⟩:=Nc w1 k (x:=y) (by omega);exact xE a hC hp (w2:=dH w1 k y) t1 ⟨t2.trans a.sd,t3.trans a.dat⟩ e.1
end
open St Po Sy
theorem JW{n m}(hI:MInv n m){v}(h:gB m v=false):(vw m).ch v=none/\∀q,(vw m).rq q->q.ab≠v:=by
 have hf:¬ ((∃c∈m.aj,c.ap=v)\/∃s∈m.aB,(s.ae=20\/s.ae=6)/\s.ab=v):=fun q=>by grind [eH]
 exact⟨(Dk hI.nQ).2 fun c hc e=>hf (.inl ⟨c,hc,e⟩),fun q a e=>hf (.inr ⟨q,a.1,a.2,e⟩)⟩
theorem Um{c}(h:Sd.Ok c)(e:c.bd=c.aC):Gv c:=by
 have:=h.rx;unfold Gv;omega
theorem WG{n}{w1:Wr}{k}(hI:MInv n (w1.s k)){v c1 c2}{ds:Rows}(hl:ds.length<=1)(hc:(vw (w1.s k)).ch v=some c2)(h1:c1.ap=v)(hh:ds≠[]->∃z,w1.sd (slot (!k) c2.al)=ds++z):(∀j,((vY c1 ds).foldl (fun w x=>dH w k x) w1).s j=w1.s j)/\((ds=[]/\((vY c1 ds).foldl (fun w x=>dH w k x) w1).sd=w1.sd)\/((vY c1 ds).foldl (fun w x=>dH w k x) w1).sd=aH w1.sd (slot (!k) c2.al) ((w1.sd (slot (!k) c2.al)).drop ds.length))/\((vY c1 ds).foldl (fun w x=>dH w k x) w1).dat=w1.dat:=by
 match ds,hl,hh with
 | [],_,_=>exact⟨fun _=>rfl,.inl ⟨rfl,rfl⟩,rfl⟩
 | [d0],_,hh=>
   obtain⟨z,hz⟩:=hh (by simp);have e5:List.foldl (fun w x=>dH w k x) w1 (vY c1 [d0])=dH w1 k ⟨3,v,d0,0,zu,0⟩:=by
    show dH w1 k ⟨3,c1.ap,d0,0,zu,0⟩=_;rw[h1]
   rw[e5,aeh (w:=w1) (k:=k) (u:=v) (d0:=d0) (c:=c2) (z:=z) hI hc hz];exact⟨fun _=>rfl,.inr (by simp),rfl⟩
section
variable {L:Bool->List bq} {w:Wr} {S:Bool->Vw} {k:Bool} {f:bq} {x:aQ} {l:List bq} {m:aJ} {w1:Wr}
theorem Rb.ok(a:Rb L w k f l m w1){v c}(h:(vw (dY m f).1).ch v=some c):Sd.Ok c:=by
 obtain⟨n,hI⟩:=a.inv';exact hI.oZ _ ((fZ hI.nQ).1 h).1
theorem Rb.opened(a:Rb L w k f l m w1){v}(e:(dY m f).2=[zA 2 v 0 0]):nL k m f w1={w1 with sd:=aH w.sd (slot k v) [],cn:=aH w1.cn (slot k v) false}:=by
 unfold nL;rw[e,<-a.sd];exact aei w1 k v
theorem YT(a:Rb L w k (aK x) l m w1)(hC:CI L w S)(hx:gX x)(hk:x.ae=20)(rQ:Replay (vw (w.s k)) l (S k)):Goal L k l m (nL k m (aK x) w1):=by
 obtain⟨h,g⟩:=hC.two k;rw[a.hL]at h g;obtain⟨n,hI⟩:=a.inv;have hid:=Sg.iB hx.1;have hm:=a.hm;rcases Td hI hx hk with⟨r,r1,e⟩|⟨Ls,g2,g3,g4,e1,e2,e3⟩
 .have hok:gX (D7 x r):=mH ⟨hid.2.1,hid.2.2.1⟩ r1;have hs:=a.s1;intro new hn;unfold nL at hn |-;rw[e]at hs hn |-;have hn:(w1.s k).Out=m.Out++new:=hn;rw[hs]at hn;have hn:new=[aK (D7 x r)]:=(List.append_cancel_left (show m.Out++_=m.Out++new from hn)).symm;rw[hn];obtain⟨B1,q⟩:=ansG h g hx (.inl hk) hok (by unfold fF D7;rw[hk];simp) (.inr ⟨hk,rfl,.inl ⟨by show r≠0;omega,rfl⟩⟩) rQ h.vi rfl (fun _ _ z=>z) fun _ _ _=>rfl;exact rF a hC q (by rw[List.foldl_nil,hs,<-hm];rfl) a.s2 rfl (by rw[List.foldl_nil,a.sd]) (by rw[List.foldl_nil,a.sd]) (hC.gv k) a.dat (Mh hok (by show(21:Int)≠18;omega))
 .have hok:Sd.Ok (kR x (ji m) Ls):=a.ok (v:=ji m) (by rw[e1];exact pG0 rfl);have Qp:gX (qA x (ji m) Ls):=by
   have m1:=hok.nV;have m2:=hok.mps;have m3:=hok.rx;unfold kR at m1 m2 m3;simp only at m1 m2 m3;exact GR ⟨hid.2.1,hid.2.2.1⟩ g4 (by unfold je;simp;omega) (by unfold je;simp;omega) (by unfold countB;simp;omega)
  obtain⟨f1,f2⟩:=JW hI g3;rw[hm]at f1 f2 e1;have hw:=a.opened e3;have hset:=GX w.sd k (v:=ji m) [] g4;obtain⟨j4,B1,q⟩:=accA (sa1:=fun u=>aH w.sd (slot k (ji m)) [] (slot k u)) h g hx hk Qp hok f1 f2 (fun v c p=>by
   rw[<-hm]at p;exact g2 c ((fZ hI.nQ).1 p).1) (fun _=>rfl) rQ ⟨hset.1,fun u hu hs=>by
    obtain⟨c,hc⟩:=Option.isSome_iff_exists.1 hs;exact hset.2 u (a.rg k u c hc) hu⟩
  intro new hn;rw[hw]at hn |-;have hn:new=[aK (qA x (ji m) Ls)]:=by
   have hn:(w1.s k).Out=m.Out++new:=hn;rw[a.s1,e2]at hn;exact(List.append_cancel_left hn).symm
  rw[hn];exact rF a hC q ((congrArg vw a.s1).trans e1) a.s2 rfl rfl (GV _ _ _ _) (oD (hC.gv k) (fun q e=>by cases e;exact Um hok rfl) fun _ _ z=>z) a.dat (Mh Qp (by show(21:Int)≠18;omega))
theorem YS(a:Rb L w k (aK x) l m w1)(hC:CI L w S)(hx:gX x)(hk:x.ae=6){c}(hc:(vw (w.s k)).ch x.bK=some c)(he:c.al=x.ab)(rQ:Replay ⟨upd (vw (w.s k)).ch x.bK none,(vw (w.s k)).rq,(vw (w.s k)).dl⟩ l (S k)):Goal L k l m (nL k m (aK x) w1):=by
 obtain⟨h,g⟩:=hC.two k;rw[a.hL]at h g;obtain⟨n,hI⟩:=a.inv;have hm:=a.hm;obtain⟨e1,e2,e3⟩:=Tc hI hx hk (by rw[hm];exact hc) he;rw[hm]at e1;have hid:=Sg.iB hx.1;have hs:gX (UW x):=vU ⟨hid.2.1,hid.2.2.1⟩ (GJ hx (.inr hk)) (a.rg k _ c hc) 7 (.inr rfl);obtain⟨v1,_⟩:=void rQ (v:=x.bK) (pG0 rfl) fun q p b e=>by
  rw[<-e,h.vi.sep q p b]at hc;cases hc
 have Qo:=h.vi.step (.KL hx hk hc he);obtain⟨B1,q⟩:=ansG h g hx (.inr hk) hs (by unfold fF UW;rw[hk];simp) (.inl ⟨hk,rfl,rfl⟩) rQ Qo rfl (fun v d p=>by simp only[upd]at p;grind) fun v d p=>nG0 fun z=>by rw[z,v1]at p;cases p
 obtain⟨t1,t2,t3⟩:=Nc w1 k (x:=zA 4 x.bK 0 0) (.inl rfl);intro new hn;unfold nL at hn |-;rw[e3]at hn |-;have hn:new=[aK (UW x)]:=by
  have hn:((dH w1 k (zA 4 x.bK 0 0)).s k).Out=m.Out++new:=hn;rw[t1,a.s1,e2]at hn;exact(List.append_cancel_left hn).symm
 rw[hn];show Cj _ (dH w1 k (zA 4 x.bK 0 0));exact rF a hC q (by rw[t1,a.s1,e1];rfl) (by rw[t1,a.s2]) rfl (by rw[t2,a.sd]) (by rw[t2,a.sd]) (oD (c:=none) (hC.gv k) (fun _ e=>nomatch e) fun _ _ z=>z) (by rw[t3,a.dat]) (Mh hs (by show(7:Int)≠18;omega))
theorem YV(a:Rb L w k (aK x) l m w1)(hC:CI L w S)(hx:gX x){r o}(hr:(vw (w.s k)).rq r)(ha:fF r x=true)(ho:Ro (vw (w.s k)) x r o)(rQ:Replay ⟨upd (vw (w.s k)).ch r.ab o,fun q=>(vw (w.s k)).rq q/\q.ID≠x.ID,upd (vw (w.s k)).dl r.ab []⟩ l (S k)):Goal L k l m (nL k m (aK x) w1):=by
 obtain⟨h,g⟩:=hC.two k;rw[a.hL]at h g;obtain⟨n,hI⟩:=a.inv;have hm:=a.hm;obtain⟨e1,e2,e3,e4⟩:=Tf hI a.di (by rw[hm];exact h.vi) hx (by rw[hm];exact hr) ha (by rw[hm];exact ho);rw[hm]at e1;have Qo:=h.vi.step (.ans hx hr ha ho);have e0:upd (vw (w.s k)).dl r.ab []=fun _=>[]:=funext fun u=>by unfold upd vw;simp
 rw[e0]at rQ Qo;have hko:=ho.kind;have hnr:=uV hx (by omega);have hgr:∀u,u≠r.ab->iH (vw (w.s k)) u->iH ⟨upd (vw (w.s k)).ch r.ab o,fun q=>(vw (w.s k)).rq q/\q.ID≠x.ID,fun _=>[]⟩ u:=fun u hu ⟨q,q1,q2,q3⟩=>⟨q,⟨q1,fun e=>hu (by rw[<-q3,h.vi.ids q r q1 hr (by rw[e,kQ ha])])⟩,q2,q3⟩;have hno:∀{w2:Wr},w2.s k=w1.s k->∀new,(w2.s k).Out=m.Out++new->new=[]:=fun e new hn=>by
  rw[e,a.s1,e2]at hn;exact wM hn
 cases o with
 | none=>
   have hq:=popN h g hnr hr ha (hko.elim (fun z=>.inl z.1) fun z=>.inr (h.vi.sep r hr z.1)) Qo rQ;have fin:∀w2,(∀j,w2.s j=w1.s j)->w2.sd=w1.sd->w2.dat=w1.dat->Goal L k l m w2:=fun w2 s1 s2 s3 new hn=>by
    rw[hno (s1 k) new hn];exact rF a hC hq (by rw[s1,a.s1,e1]) (by rw[s1,a.s2]) (List.append_nil _) (by rw[s2,a.sd]) (by rw[s2,a.sd]) (oD (c:=none) (hC.gv k) (fun _ e=>nomatch e) hgr) (by rw[s3,a.dat])
   unfold nL;rcases e3 rfl with e|e|⟨n,e⟩
   .grind
   .grind [Nc,zA]
   .grind [Nc,zA]
 | some c=>
   have hoc:r.ae=20/\c=newC r x:=by unfold Ro at ho;grind
   obtain⟨kr,rfl⟩:=hoc;have hok:Sd.Ok (newC r x):=a.ok (v:=r.ab) (by rw[e1];exact pG0 rfl);have hsr:=GJ (h.vi.ok r hr).1 (.inl kr);have hset:=GX w.sd k (v:=r.ab) [] hsr;have hq:=popA (sa1:=fun u=>aH w.sd (slot k r.ab) [] (slot k u)) h g hnr hr kr ha Qo rQ (fun _=>rfl) ⟨hset.1,fun u hu hs=>by
    obtain⟨c,hc⟩:=Option.isSome_iff_exists.1 hs;exact hset.2 u (a.rg k u c hc) hu⟩
   have hw:=a.opened (e4 (by simp));intro new hn;rw[hw]at hn |-;rw[hno (w2:={w1 with sd:=aH w.sd (slot k r.ab) [],cn:=aH w1.cn (slot k r.ab) false}) rfl new hn];exact rF a hC hq ((congrArg vw a.s1).trans e1) a.s2 (List.append_nil _) rfl (GV _ _ _ _) (oD (hC.gv k) (fun q e=>by cases e;exact Um hok rfl) hgr) a.dat
theorem YU(a:Rb L w k f l m w1)(hC:CI L w S){v c c1}{ds:Rows}(hc:(vw (w.s k)).ch v=some c)(hn:¬ iH (vw (w.s k)) v)(he:Ev v f c c1 ds)(rQ:Replay ⟨upd (vw (w.s k)).ch v (some c1),(vw (w.s k)).rq,upd (vw (w.s k)).dl v ((vw (w.s k)).dl v++ds)⟩ l (S k)):Goal L k l m (nL k m f w1):=by
 obtain⟨h,g⟩:=hC.two k;rw[a.hL]at h g;obtain⟨n,hI⟩:=a.inv;obtain⟨n',hI'⟩:=a.inv';have hm:=a.hm;obtain⟨e3,hr⟩:=Te hI (by rw[hm];exact h.vi) (by rw[hm];exact hc) (by rw[hm];exact hn) he;rw[hm]at hr;have hcm:=((fZ hI.nQ).1 (show(vw m).ch v=some c by rw[hm];exact hc)).1;have MB:=hI.oZ c hcm;have Uf:64<=c.al/\c.al<=127:=(jG MB).2;have hrx:=h.vi.rx v c hc;have st:=oF hrx he;have hl0:c.ap=v:=h.vi.loc _ c hc;have hnr:¬ mo f:=fun⟨r,r1,r2,r3⟩=>by have:=he.for.sig r1 r3.symm;omega
 have hok1:Sd.Ok c1/\ds.length<=1:=by
  rcases he with⟨_,_,he⟩|⟨y,_,_,_,_,he,rfl⟩
  .obtain⟨_,h1,_,h2,_⟩:=Av c f.am (by have:=a.len;omega) a.xQ MB;rw[he]at h1 h2;exact⟨h1,h2⟩
  .obtain⟨rfl,q1,q2,q3⟩:=crc he;obtain⟨a1,a2,b1,b2,b3,b4,b5,b6,b7,a4,a5,c1,c2,c3⟩:=MB;exact⟨⟨a1,a2,b1,b2,b3,b4,by simp only;omega,b6,b7,a4,a5,c1,c2,c3⟩,by simp⟩
 have hg1:=hok1.1.given;have hx1:=hok1.1.rx;have key:(ds≠[]->∃z,w.sd (slot (!k) c.al)=ds++z)->∀c2,(vw (dY m f).1).ch v=some c2->c2.al=c.al->(∀j,(nL k m f w1).s j=w1.s j)/\((ds=[]/\(nL k m f w1).sd=w.sd)\/(nL k m f w1).sd=aH w.sd (slot (!k) c.al) ((w.sd (slot (!k) c.al)).drop ds.length))/\(nL k m f w1).dat=w.dat:=fun hh c2 h2 h3=>by
  have:=WG (w1:=w1) (k:=k) (v:=v) (c2:=c2) (by rw[a.s1];exact hI') hok1.2 (by rw[a.s1];exact h2) (st.loc.trans hl0) (by rw[a.sd,h3];exact hh);unfold nL;rw[e3];rw[a.sd,a.dat,h3]at this;exact this
 have hsb:∀sd':Nat->Rows,((ds=[]/\sd'=w.sd)\/sd'=aH w.sd (slot (!k) c.al) ((w.sd (slot (!k) c.al)).drop ds.length))->((ds=[]/\(fun u=>sd' (slot (!k) u))=fun u=>w.sd (slot (!k) u))\/(sd' (slot (!k) c.al)=(w.sd (slot (!k) c.al)).drop ds.length/\∀u,u≠c.al->((vw (w.s (!k))).ch u).isSome=true->sd' (slot (!k) u)=w.sd (slot (!k) u)))/\(fun u=>sd' (slot k u))=fun u=>w.sd (slot k u):=fun sd' hsd=>by
  rcases hsd with⟨q,rfl⟩|rfl
  .grind
  .have hset:=GX w.sd (!k) (v:=c.al) ((w.sd (slot (!k) c.al)).drop ds.length) Uf;have:=GV w.sd (!k) c.al ((w.sd (slot (!k) c.al)).drop ds.length);rw[Bool.not_not]at this;exact⟨.inr ⟨hset.1,fun u hu hs=>by
    obtain⟨d,hd⟩:=Option.isSome_iff_exists.1 hs;exact hset.2 u (a.rg _ u d hd) hu⟩,this⟩
 have acB:=fun sb1 hs=>popE (sb1:=sb1) h g hnr hc hn he (fun _=>rfl) rQ hs;have hh:=(acB (fun u=>aH w.sd (slot (!k) c.al) ((w.sd (slot (!k) c.al)).drop ds.length) (slot (!k) u)) (hsb _ (.inr rfl)).1).1;rcases hr with⟨r1,r2,nq⟩|⟨hdf,nq,r1,r2⟩
 .obtain⟨k1,k2,k3⟩:=key hh c1 (by rw[r1];exact pG0 rfl) st.rem;obtain⟨s1,s2⟩:=hsb _ k2;obtain⟨j4,q⟩:=(acB _ s1).2;intro new hnew;rw[k1,a.s1,r2]at hnew;rw[wM hnew];refine rF a hC q (by rw[k1,a.s1,r1];rfl) (by rw[k1,a.s2]) (List.append_nil _) s2 rfl (oD (hC.gv k) (fun q e=>?_) fun _ _ z=>z) k3;cases e;have hold:=hC.gv k v c hc hn;rcases he with⟨hdf,_,_⟩|⟨y,_,_,_,_,he,_⟩
  .grind [needs,Gv]
  .obtain⟨rfl,_⟩:=crc he;exact hold
 .obtain⟨k1,k2,k3⟩:=key hh (full c1) (by rw[r1];exact pG0 rfl) st.rem;obtain⟨s1,s2⟩:=hsb _ k2;obtain⟨j4,q1,q2⟩:=(acB _ s1).2;unfold needs at nq;have Qp:gX ⟨22,oU m,0,v,0,0,0,c1.bd-c1.aC,0,zu⟩:=GN (sW _ _ _ hI.next) (a.rg k _ c hc) ⟨by omega,by omega⟩;have hfull:G id id 0 (c1.bd-c1.aC) c1=full c1:=by grind [G,full]
  obtain⟨⟨d0,p1,p2⟩,p3,p4,p5⟩:=pair q1 q2 (v:=v) (c:=c1) (pG0 rfl) hn;have hrB:Rp (S (!k)) (aK ⟨22,oU m,0,v,0,0,0,c1.bd-c1.aC,0,zu⟩) (S (!k))/\iH (S (!k)) c1.al\/¬ iH (S (!k)) c1.al/\∃e d d',j4.ch v=some e/\(S (!k)).ch c1.al=some d/\Link e d/\d'={d with aG:=d.aG+(c1.bd-c1.aC)}/\d.aG+(c1.bd-c1.aC)<=65535/\Rp (S (!k)) (aK ⟨22,oU m,0,v,0,0,0,c1.bd-c1.aC,0,zu⟩) ⟨upd (S (!k)).ch c1.al (some d'),(S (!k)).rq,upd (S (!k)).dl c1.al ((S (!k)).dl c1.al++[])⟩:=by
   rcases p5 with z|⟨e,d,z1,z2,z3,z4,_⟩
   .exact .inl ⟨.late p1 z (.inr ⟨_,Qp,rfl,rfl,p2⟩),z⟩
   .have hcr:=z4.two.cr;have hst:=p3 e z1;have:=hst.rx;have hle:d.aG+(c1.bd-c1.aC)<=65535:=by omega
    refine .inr ⟨z3,e,d,_,z1,z2,z4,rfl,hle,.MU z2 z3 (.inr ⟨_,Qp,rfl,rfl,?_,U3 z4.fd (by simp only;omega) (by simp only;omega),rfl⟩)⟩;rw[z2]at p1;cases p1;exact p2
  have hF:∀q∈[aK (⟨22,oU m,0,v,0,0,0,c1.bd-c1.aC,0,zu⟩:aQ)],¬ mo q:=by grind [mS,uV]
  have fin:∀{A2:Vw} {B1:Vw},CS ⟨upd (upd (vw (w.s k)).ch v (some c1)) v (some (full c1)),(vw (w.s k)).rq,(vw (w.s k)).dl⟩ A2 (vw (w.s (!k))) B1 (L k++[aK (⟨22,oU m,0,v,0,0,0,c1.bd-c1.aC,0,zu⟩:aQ)]) l (fun u=>w.sd (slot k u))/\CS (vw (w.s (!k))) B1 ⟨upd (upd (vw (w.s k)).ch v (some c1)) v (some (full c1)),(vw (w.s k)).rq,(vw (w.s k)).dl⟩ A2 l (L k++[aK (⟨22,oU m,0,v,0,0,0,c1.bd-c1.aC,0,zu⟩:aQ)]) (fun u=>(nL k m f w1).sd (slot (!k) u))->Goal L k l m (nL k m f w1):=fun q new hnew=>by
   rw[k1,a.s1,r2]at hnew;rw[<-List.append_cancel_left hnew];have hu:upd (upd (vw (w.s k)).ch v (some c1)) v (some (full c1))=upd (vw (w.s k)).ch v (some (full c1)):=funext fun u=>by unfold upd;split<;>rfl
   rw[hu]at q;exact rF a hC q (by rw[k1,a.s1,r1];rfl) (by rw[k1,a.s2]) rfl s2 rfl (oD (hC.gv k) (fun q e=>by
    cases e;unfold Gv full;simp only
    omega) fun _ _ z=>z) k3 (Mh Qp (by show(22:Int)≠18;omega))
  have hxG:IV (G id id 0 (c1.bd-c1.aC) c1):=by grind [IV,full]
  rcases hrB with⟨z1,z2⟩|⟨z0,e,d,d',z1,z2,z3,z4,z5,z6⟩
  .obtain⟨A2,q⟩:=TJ q1 q2 (fo:=id) (fs:=id) (k:=0) (n:=c1.bd-c1.aC) (by omega) (by omega) (by omega) (pG0 rfl) hn hxG hF (B1:=S (!k)) (sa1:=fun u=>w.sd (slot k u)) (q2.rp.snoc z1) (fun _=>Iff.rfl) (fun _ _=>⟨rfl,rfl⟩) (fun _ _ _=>rfl) ⟨[],(List.append_nil _).symm⟩ (fun _=>⟨rfl,rfl⟩) fun _ _ _ _ _ y=>absurd z2 y;rw[hfull]at q;exact fin q
  .obtain⟨A2,q⟩:=TJ q1 q2 (fo:=id) (fs:=id) (k:=0) (n:=c1.bd-c1.aC) (by omega) (by omega) (by omega) (pG0 rfl) hn hxG hF (B1:=⟨upd (S (!k)).ch c1.al (some d'),(S (!k)).rq,upd (S (!k)).dl c1.al ((S (!k)).dl c1.al++[])⟩) (sa1:=fun u=>w.sd (slot k u)) (q2.rp.snoc z6) (fun _=>Iff.rfl) (fun u hu=>⟨nG0 hu,nG0 hu⟩) (fun _ _ _=>rfl) ⟨[],(List.append_nil _).symm⟩ (fun y=>absurd y z0) fun e0 d1 y1 y2 y3 _ _ y4=>by
    rw[z1]at y1;rw[z2]at y3;cases y1;cases y3;refine⟨d',pG0 rfl,?_,by rw[z4],by rw[z4],by rw[z4],⟨[],pG0 rfl⟩,?_⟩
    .obtain⟨b1,b2,b3,b4,b5,b6,b7,b8⟩:=z3;have hcr:=b4.cr;have hle:=y2.rx;rw[z4];refine⟨b1,b2,⟨b3.nV,b3.mps,b3.cr.trans (by rfl) |> fun y=>by show e.aG-0=d.aC;omega,b3.pos⟩,⟨b4.nV,b4.mps,by show d.aG+_=e.aC+_;omega,b4.pos⟩,?_,?_,b7,b8⟩
     .obtain⟨a1,a2,b1,b2,b3,b4,b5,b6,b7,a4,a5,c1,c2,c3⟩:=b5;exact⟨a1,a2,b1,b2,b3,b4,by show 0<=e.aG-0/\e.aG-0<=65535;omega,by show 0<=e.aC+_/\e.aC+_<=65535;omega,b7,a4,a5,c1,c2,c3⟩
     .obtain⟨a1,a2,b1,b2,b3,b4,b5,b6,b7,a4,a5,c1,c2,c3⟩:=b6;exact⟨a1,a2,b1,b2,b3,b4,by simp only;omega,b6,b7,a4,a5,c1,c2,c3⟩
    .rw[y4];show _=(if c1.al=c1.al then _ else _)++e.Out;rw[pG0 rfl,List.append_nil]
   rw[hfull]at q;exact fin q
theorem Cj.arr(hC:Cj L w)(a:Rb L w k f l m w1):Goal L k l m (nL k m f w1):=by
 obtain⟨S,hC⟩:=hC;obtain⟨h,g⟩:=hC.two k;rw[a.hL]at h g;have rQ:=h.rp;cases rQ with
 | @cons _ s1 _ _ _ h1 h2=>
 cases h1 with
 | skip q=>
   rcases q with q|⟨x,hx,rfl,hk⟩
   .rw[a.nf]at q;cases q
   .grind [YT,QO]
 | KL hx hk hc he=>exact YS a hC hx hk hc he h2
 | ans hx hr ha ho=>exact YV a hC hx hr ha ho h2
 | MU hc hn he=>exact YU a hC hc hn he h2
 | late hc hn hf=>
   obtain⟨n,hI⟩:=a.inv;have e:=PI hI (by rw[a.hm];exact h.vi) (by rw[a.hm];exact hc) (by rw[a.hm];exact hn) hf;unfold nL;rw[e];exact xE a hC (abO h g (fun⟨r,r1,r2,r3⟩=>by have:=hf.sig r1 r3.symm;omega) h2) (fun _=>rfl) ⟨a.sd,a.dat⟩ (by rw[e];exact⟨rfl,rfl⟩)
end
open St Po Sy
theorem TB{c s}{r:Rows}(h:Sd.Ok c)(ho:c.Out=s::r)(ht:c.aG>0):Sd.Ok (Sd.lH c s r):=by
 obtain⟨a1,a2,b1,b2,b3,b4,b5,b6,b7,a4,a5,c1,c2,c3⟩:=h;rw[show Sd.lastOf c=1+s.length by unfold Sd.lastOf;rw[ho]]at c1;rw[ho]at a4 a5;simp only[lC0]at a4;unfold Sd.lH;by_cases hc:c.aS+c.bJ>=s.length+2
 .rw[pG0 hc];refine⟨a1,a2,b1,b2,b3,b4,by simp only;omega,b6,b7,by simp only;omega,fun x hx=>a5 x (List.mem_cons_of_mem _ hx),?_,c2,c3⟩;unfold Sd.lastOf;simp only
  cases r with
  | nil=>simp
  | cons x t=>simp only;omega
 .rw[nG0 hc];refine⟨a1,a2,b1,b2,b3,b4,by simp only;omega,b6,b7,by simp only[ho,lC0];omega,fun x hx=>a5 x (by simp only[ho]at hx;exact hx),?_,c2,c3⟩;unfold Sd.lastOf;simp only[ho];omega
theorem L9{c s}(hs:∀x∈s,Byte x)(hl:s.length<=4096)(hm:c.bJ<=4096):(Sd.partOf c s).length<=65536/\∀x∈Sd.partOf c s,Byte x:=by
 unfold Sd.partOf Sd.fm;refine⟨by rw[lT0];omega,fun x hx=>?_⟩;have hx:=List.mem_of_mem_drop (List.mem_of_mem_take hx);simp only[List.mem_append,List.mem_cons,List.not_mem_nil,or_false]at hx;unfold Byte at hs |-;rcases hx with(e|e)|hx
 .omega
 .omega
 .exact hs x hx
def gN(c:aM)(s:List Int)(r:Rows):aM->aM:=G (fun _=>(Sd.lH c s r).Out) (fun _=>(Sd.lH c s r).aS) 1 0
theorem ZW{c e}(h:EM c e)s(r:Rows):Sd.lH e s r=gN c s r e/\Sd.partOf e s=Sd.partOf c s:=by
 unfold Sd.lH Sd.partOf gN G Sd.lH;rw[h.sent,h.JN];refine⟨?_,rfl⟩;split
 .simp
 .rw[<-h.out];simp
theorem one_mod{c d}(h:One c d){fo fs k}:One c (G fo fs k 0 d):=⟨h.nV,h.mps,by show c.aG=d.aC+0;rw[h.cr];omega,h.pos⟩
section
variable {A A' B B':Vw} {La Lb:List bq} {sa sb:Int->Rows}
theorem agv(h:CS A A' B B' La Lb sa)(g:CS B B' A A' Lb La sb){v c s}{r:Rows}(hc:A.ch v=some c)(hn:¬ iH A v)(ho:c.Out=s::r)(ht:c.aG>0)(hB:∀x∈s,Byte x)(hok:Sd.Ok c):∃j4 B1,CS ⟨upd A.ch v (some (Sd.lH c s r)),A.rq,A.dl⟩ j4 B B1 (La++[⟨c.al,Sd.partOf c s⟩]) Lb sa/\CS B B1 ⟨upd A.ch v (some (Sd.lH c s r)),A.rq,A.dl⟩ j4 Lb (La++[⟨c.al,Sd.partOf c s⟩]) sb:=by
 obtain⟨⟨d0,p1,p2⟩,p3,p4,p5⟩:=pair h g hc hn;have hrx:=h.vi.rx v c hc;have hcc:EM c c:=⟨rfl,rfl,rfl,rfl,rfl,rfl,rfl,rfl,rfl,Int.le_refl _,Int.le_refl _,rfl,hrx,rfl⟩;have hr:=(jG hok).2.1;have hf:DN ⟨c.al,Sd.partOf c s⟩:=⟨by show c.al≠4;omega,by show c.al≠5;omega,by show c.al≠6;omega⟩;have hF:∀q∈[(⟨c.al,Sd.partOf c s⟩:bq)],¬ mo q:=by
  simp only[mS,forall_eq];exact fun⟨q,_,_,e⟩=>hf.2.1 (by rw[e];rfl)
 have hx:IV (gN c s r c):=by
  unfold IV at hrx |-;show 0<=c.aC+0/\c.aC+0<=200000;omega
 rw[(ZW hcc s r).1];rcases p5 with q|⟨e,d,q1,q2,q3,q4,q5,_⟩
 .obtain⟨A2,z⟩:=TJ h g (fo:=fun _=>(Sd.lH c s r).Out) (fs:=fun _=>(Sd.lH c s r).aS) (k:=1) (n:=0) (by omega) (by omega) (by omega) hc hn hx hF (B1:=B') (sa1:=sa) (g.rp.snoc (.late p1 q (.inl ⟨hf,rfl⟩))) (fun _=>Iff.rfl) (fun _ _=>⟨rfl,rfl⟩) (fun _ _ _=>rfl) ⟨[],(List.append_nil _).symm⟩ (fun _=>⟨rfl,rfl⟩) fun _ _ _ _ _ y=>absurd q y;exact⟨A2,B',z⟩
 .have st:=p3 e q1;obtain⟨hg,hp⟩:=ZW st s r;have hpb:=L9 (c:=c) hB (by have:=hok.short s (by rw[ho];simp);have:=hok.L8;omega) hok.JN.2;have heo:e.Out=s::r:=by rw[st.out];exact ho
  have hte:e.aG>0:=by have:=st.tx;omega
  obtain⟨z1,z2,z3⟩:=TA q4.one q4.Qb q4.okd q4.fd heo hte;have hin:=Av d (Sd.partOf c s) hpb.1 hpb.2 q4.okd;rw[hp]at z1 z2 z3;rw[hg]at z2 z3;have hev:Ev c.al ⟨c.al,Sd.partOf c s⟩ d (kC d (Sd.partOf c s)).1 (kC d (Sd.partOf c s)).2.1:=.inl ⟨hf,rfl,by rw[<-z1]⟩;have sd:=oF (g.vs.rx _ d q2) hev;have Ug:=(Nj (g.vs.rx _ d q2) z1);obtain⟨A2,z⟩:=TJ h g (fo:=fun _=>(Sd.lH c s r).Out) (fs:=fun _=>(Sd.lH c s r).aS) (k:=1) (n:=0) (by omega) (by omega) (by omega) hc hn hx hF (B1:=⟨upd B'.ch c.al (some (kC d (Sd.partOf c s)).1),B'.rq,upd B'.dl c.al (B'.dl c.al++(kC d (Sd.partOf c s)).2.1)⟩) (sa1:=sa) (g.rp.snoc (.MU q2 q3 hev)) (fun _=>Iff.rfl) (fun u hu=>⟨nG0 hu,nG0 hu⟩) (fun _ _ _=>rfl) ⟨[],(List.append_nil _).symm⟩ (fun y=>absurd y q3) fun e0 d1 y1 _ y3 _ _ y4=>by
   rw[q1]at y1;rw[q2]at y3;cases y1;cases y3;refine⟨_,pG0 rfl,⟨sd.rem.trans q4.back,q4.psm.trans sd.psm.symm,z2,⟨sd.L8.trans q4.two.nV,sd.JN.trans q4.two.mps,?_,?_⟩,(show Sd.Ok (gN c s r e)from hg▸TB q4.Qb heo hte),hin.2.1,q4.fc,sd.fld.trans q4.fd⟩,sd.rem,sd.loc,sd.out,⟨_,pG0 rfl⟩,?_⟩
   .show _=e.aC+0;rw[Ug.2.2,q4.two.cr];omega
   .have:=q4.two.pos;rw[sd.out,sd.sent];exact this
   .rw[y4,<-z3];show _=(if c.al=c.al then _ else _)++_;rw[pG0 rfl,List.append_assoc];rfl
  exact⟨A2,_,z⟩
theorem aes(h:CS A A' B B' La Lb sa)(g:CS B B' A A' Lb La sb){v c b}(hc:A.ch v=some c)(hn:¬ iH A v)(h1:c.Out.length<64)(h2:(b.length:Int)<=c.gu){sa1}(hs:sa1 v=sa v++[b]/\∀u,u≠v->(A.ch u).isSome=true->sa1 u=sa u):∃j4,CS ⟨upd A.ch v (some {c with Out:=c.Out++[b]}),A.rq,A.dl⟩ j4 B B' La Lb sa1/\CS B B' ⟨upd A.ch v (some {c with Out:=c.Out++[b]}),A.rq,A.dl⟩ j4 Lb La sb:=by
 have hrx:=h.vi.rx v c hc;have e0:G (· ++ [b]) id 0 0 c={c with Out:=c.Out++[b]}:=by unfold G;simp
 have:=TJ h g (fo:=(· ++ [b])) (fs:=id) (k:=0) (n:=0) (by omega) (by omega) (by omega) hc hn (by rw[e0];exact hrx) (F:=[]) (fun _ z=>nomatch z) (B1:=B') (sa1:=sa1) (by rw[List.append_nil];exact g.rp) (fun _=>Iff.rfl) (fun _ _=>⟨rfl,rfl⟩) hs.2 ⟨[b],hs.1⟩ (fun _=>⟨rfl,rfl⟩) fun e d q1 st q2 q3 q4 q5=>by
  refine⟨d,q2,⟨q4.back,q4.psm,⟨q4.one.nV,q4.one.mps,by show e.aG-0=d.aC;rw[<-q4.one.cr];omega,?_⟩,one_mod q4.two,?_,q4.okd,q4.fc,q4.fd⟩,rfl,rfl,rfl,⟨[],(List.append_nil _).symm⟩,by rw[hs.1,q5,List.append_assoc];rfl⟩
  .rcases q4.one.pos with z|⟨s,r,z1,z2⟩
   .exact .inl z
   .exact .inr ⟨s,r++[b],by show e.Out++[b]=_;rw[z1];rfl,z2⟩
  .obtain⟨a1,a2,b1,b2,b3,b4,b5,b6,b7,a4,a5,c1,c2,c3⟩:=q4.Qb;refine⟨a1,a2,b1,b2,b3,b4,by show 0<=e.aG-0/\e.aG-0<=65535;omega,by show 0<=e.aC+0/\e.aC+0<=65535;omega,b7,?_,fun s hs=>?_,?_,c2,c3⟩
   .show(e.Out++[b]).length<=64;rw[st.out];simp;omega
   .have hs:s∈e.Out++[b]:=hs;rcases List.mem_append.1 hs with hs|hs
    .exact a5 s hs
    .rw[List.mem_singleton.1 hs];show(b.length:Int)<=e.gu;rw[st.L8];exact h2
   .unfold Sd.lastOf at c1 |-;show 0<=e.aS/\e.aS<=(match e.Out++[b]with | []=>(0:Int) | s::_=>1+s.length)
    cases ho:e.Out with
    | nil=>
      rw[ho]at c1;have c1:0<=e.aS/\e.aS<=0:=c1;show 0<=e.aS/\e.aS<=1+(b.length:Int);omega
    | cons s r=>rw[ho]at c1;exact c1
 rw[e0,List.append_nil]at this;exact this
end
open St Po Sy
def xO(L:Bool->List bq)(k:Bool)(m:aJ)(w':Wr):Prop:=∀new,(w'.s k).Out=m.Out++new->Cj (at_ L k (L k++new)) w'
section
variable {L:Bool->List bq} {w:Wr} {S:Bool->Vw} {k:Bool} {w':Wr} {n:Nat}
theorem yY(hC:CI L w S){A A' B':Vw}{La new:List bq}{sa:Int->Rows}(hg:CS A A' (vw (w.s (!k))) B' La (L (!k)) sa/\CS (vw (w.s (!k))) B' A A' (L (!k)) La fun v=>w.sd (slot (!k) v))(vk:vw (w'.s k)=A)(vn:w'.s (!k)=w.s (!k))(lk:L k++new=La)(sk:(fun v=>w'.sd (slot k v))=sa)(sn:(fun v=>w'.sd (slot (!k) v))=fun v=>w.sd (slot (!k) v))(gk:Zd A)(hd:w'.dat=w.dat)(hq:∀x,gX x->x.ae=18->aK x∈new->k=true:=by exact fun _ _ _ z=>nomatch z):Cj (at_ L k (L k++new)) w':=
 Vb k hg vk (by rw[vn]) ((iC _ _ _).trans lk) (gG _ _ _) sk sn gk (hC.gv _) (fun j x p q z=>by
  rcases dx j k with rfl|rfl
  .rw[iC]at z;exact(List.mem_append.1 z).elim (hC.pr j x p q) (hq x p q)
  .rw[gG]at z;exact hC.pr _ x p q z) (hd.trans hC.dat)
theorem Cj.same(h:Cj L w)(hv:∀j,vw (w'.s j)=vw (w.s j))(hsd:w'.sd=w.sd)(hd:w'.dat=w.dat):Cj L w':=by
 obtain⟨S,h⟩:=h;exact⟨S,fun k=>by rw[hv,hv,hsd];exact h.cs k,fun k=>by rw[hv];exact h.gv k,h.pr,hd.trans h.dat⟩
theorem iO(h:Cj L w)(h1:vw (w'.s k)=vw (w.s k)/\(w'.s k).Out=(w.s k).Out)(h2:w'.s (!k)=w.s (!k))(hsd:w'.sd=w.sd)(hd:w'.dat=w.dat):xO L k (w.s k) w':=fun new hn=>by
 rw[h1.2]at hn;rw[wM hn,AL];exact h.same (fun j=>by
  rcases dx j k with rfl|rfl
  .exact h1.1
  .rw[h2]) hsd hd
theorem NG{m}(h:MInv n m):∀q,(vw m).rq q->q.ID≠oU m:=fun q hq e=>by
 have:=yF m.aB 255 m.bV (uW m.aB m.bV h.next (by have:=h.rH;omega));rw[List.any_eq_false]at this;exact this q hq.1 (by simp only[beq_iff_eq];exact e)
theorem Vz{m s}(hk:s.ae=20\/s.ae=6):vw (tL m s)=more (vw m) (fG s (oU m)):=
 vN rfl (fun r=>by
  show(r∈m.aB++[fG s (oU m)]/\_)↔(r∈m.aB/\_)\/_;have:(fG s (oU m)).ae=s.ae:=rfl;rw[List.mem_append,mS]
  grind) rfl
theorem Kv{A}(h:Zd A)r:Zd (more A r):=fun v c a b=>h v c a fun⟨q,q1,q2⟩=>b ⟨q,.inl q1,q2⟩
theorem K3(hC:Cj L w)(hI:MInv n (w.s k)){psm nV mps cr}(hp:0<=psm/\psm<=65535)(h1:w'.s k=(jw (w.s k) psm nV mps cr).1)(h2:w'.s (!k)=w.s (!k))(hsd:w'.sd=w.sd)(hd:w'.dat=w.dat):xO L k (w.s k) w':=by
 unfold jw at h1;split at h1
 .exact iO hC (by rw[h1];exact⟨rfl,rfl⟩) h2 hsd hd
 rename_i g0;split at h1
 .exact iO hC (by rw[h1];exact⟨rfl,rfl⟩) h2 hsd hd
 rename_i g1;split at h1
 .exact iO hC (by rw[h1];exact⟨rfl,rfl⟩) h2 hsd hd
 obtain⟨v,_,f2,f3,f4,f5⟩:=j6 (m:=w.s k) (by omega);simp only[Bool.not_eq_false,Bool.and_eq_true]at g1;rw[f2]at h1;have hs:=GQ (kM hI) ⟨show 1<=psm by omega,hp.2⟩ ⟨f4,f5⟩ g1.1 g1.2.1 g1.2.2;obtain⟨S,hC⟩:=hC;obtain⟨h,g⟩:=hC.two k;obtain⟨u1,u2⟩:=JW hI f3;obtain⟨j4,q⟩:=askA h g hs rfl (fun q hq=>⟨NG hI q hq,u2 q hq⟩) u1;intro new hn;rw[h1]at hn;rw[<-List.append_cancel_left (show(w.s k).Out++_=(w.s k).Out++new from hn)];exact yY hC q (by rw[h1];exact Vz (.inl rfl)) h2 rfl (by rw[hsd]) (by rw[hsd]) (Kv (hC.gv k) _) hd fun x a b z=>absurd z (Mh hs (by show(20:Int)≠18;omega) x a b)
theorem OB(hC:Cj L w)(hI:MInv n (w.s k))(Ue:(w.s k).jm=if k=true then 1 else 0){u}(h1:w'.s k=(pQ (w.s k) u).1)(h2:w'.s (!k)=w.s (!k))(hsd:w'.sd=w.sd)(hd:w'.dat=w.dat):xO L k (w.s k) w':=by
 unfold pQ at h1;split at h1
 .exact iO hC (by rw[h1];exact⟨rfl,rfl⟩) h2 hsd hd
 rename_i g0;split at h1
 .exact iO hC (by rw[h1];exact⟨rfl,rfl⟩) h2 hsd hd
 rename_i g1;split at h1
 .exact iO hC (by rw[h1];exact⟨rfl,rfl⟩) h2 hsd hd
 split at h1
 .exact iO hC (by rw[h1];exact⟨rfl,rfl⟩) h2 hsd hd
 have hk:k=true:=by grind
 have hs:gX (fG ⟨18,0,0,0,0,0,0,0,0,u⟩ (oU (w.s k))):=GL (kM hI) (by simpa using g1);obtain⟨S,hC⟩:=hC;obtain⟨h,g⟩:=hC.two k;intro new hn;rw[h1]at hn;rw[<-List.append_cancel_left (show(w.s k).Out++_=(w.s k).Out++new from hn)];refine yY hC (LW h g (.inr ⟨_,hs,rfl,.inr (.inl rfl)⟩) (uV hs ⟨by show(18:Int)≠20;omega,by show(18:Int)≠6;omega⟩)) ?_ h2 rfl (by rw[hsd]) (by rw[hsd]) (hC.gv k) hd fun _ _ _ _=>hk;rw[h1];refine vN rfl (fun r=>?_) rfl;show(r∈(w.s k).aB++[_]/\_)↔r∈(w.s k).aB/\_;have:(fG ⟨18,0,0,0,0,0,0,0,0,u⟩ (oU (w.s k))).ae=18:=rfl;rw[List.mem_append,mS]
 grind
theorem Y2(hC:Cj L w)(hI:MInv n (w.s k)){v}(h1:w'.s k=(xk (w.s k) v).1)(h2:w'.s (!k)=w.s (!k))(hsd:w'.sd=w.sd)(hd:w'.dat=w.dat):xO L k (w.s k) w':=by
 unfold xk at h1;rcases dD (w.s k) v with⟨hq,_⟩|⟨i,c,hq,_,hc,hl⟩
 .rw[hq]at h1;exact iO hC (by rw[h1];exact⟨rfl,rfl⟩) h2 hsd hd
 .rw[hq]at h1;simp only at h1;split at h1
  .exact iO hC (by rw[h1];exact⟨rfl,rfl⟩) h2 hsd hd
  rename_i g1;split at h1
  .exact iO hC (by rw[h1];exact⟨rfl,rfl⟩) h2 hsd hd
  unfold nX at h1;rw[hl]at h1;rw[nG0 g1]at h1;have hcs:=jG (hI.oZ c (eO hc));rw[hl]at hcs;have hs:=vU (kM hI) hcs.1 hcs.2 6 (.inl rfl);obtain⟨S,hC⟩:=hC;obtain⟨h,g⟩:=hC.two k;obtain⟨j4,B1,q⟩:=disA h g hs rfl (fun q hq=>NG hI q hq) ((fZ hI.nQ).2 ⟨eO hc,hl⟩) rfl (fun z=>g1 (mK.1 z)) fun _=>rfl;intro new hn;rw[h1]at hn;rw[<-List.append_cancel_left (show(w.s k).Out++_=(w.s k).Out++new from hn)];exact yY hC q (by rw[h1];exact Vz (.inr rfl)) h2 rfl (by rw[hsd]) (by rw[hsd]) (Kv (hC.gv k) _) hd fun x a b z=>absurd z (Mh hs (by show(6:Int)≠18;omega) x a b)
theorem VY(hC:Cj L w)(hI:MInv n (w.s k)){v b}(hz:(jf (w.s k) v b).2=0)(h1:w'.s k=(jf (w.s k) v b).1)(h2:w'.s (!k)=w.s (!k))(hsd:w'.sd=aH w.sd (slot k v) (w.sd (slot k v)++[b]))(hd:w'.dat=w.dat)(hrg:∀j v c,(vw (w.s j)).ch v=some c->64<=v/\v<=127):xO L k (w.s k) w':=by
 unfold jf at h1 hz;rcases dD (w.s k) v with⟨hq,_⟩|⟨i,c,hq,_,hc,hl⟩
 .grind
 .rw[hq]at h1 hz;simp only at h1 hz;split at hz
  .cases hz
  rename_i g1;rw[nG0 g1]at h1;split at hz
  .rename_i g2;rw[pG0 g2]at h1;have hv:(vw (w.s k)).ch v=some c:=(fZ hI.nQ).2 ⟨eO hc,hl⟩;have hq:(LX c b).1={c with Out:=c.Out++[b]}/\c.Out.length<64/\(b.length:Int)<=c.gu:=by grind [LX]
   obtain⟨q1,q2,q3⟩:=hq;rw[q1]at h1;obtain⟨S,hC⟩:=hC;obtain⟨h,g⟩:=hC.two k;have hset:=GX w.sd k (v:=v) (w.sd (slot k v)++[b]) (hrg k v c hv);obtain⟨j4,q⟩:=aes h g hv (fun z=>g1 (mK.1 z)) q2 q3 (sa1:=fun u=>aH w.sd (slot k v) (w.sd (slot k v)++[b]) (slot k u)) ⟨hset.1,fun u hu hs=>by
    obtain⟨d,hd⟩:=Option.isSome_iff_exists.1 hs;exact hset.2 u (hrg k u d hd) hu⟩
   intro new hn;rw[h1]at hn;rw[wM (show(w.s k).Out=(w.s k).Out++new from hn)];refine yY hC q (by rw[h1,Gz hI hc (by rfl),hl];rfl) h2 (List.append_nil _) (by rw[hsd]) (by rw[hsd];exact GV _ _ _ _) (oD (hC.gv k) (fun e he=>?_) fun _ _ z=>z) hd;cases he;exact hC.gv k v c hv fun z=>g1 (mK.1 z)
  .grind
theorem QZ(hC:Cj L w){v b}(hz:(jf (w.s k) v b).2≠0)(h1:w'.s k=(jf (w.s k) v b).1)(h2:w'.s (!k)=w.s (!k))(hsd:w'.sd=w.sd)(hd:w'.dat=w.dat):xO L k (w.s k) w':=by
 have:(jf (w.s k) v b).1=w.s k:=by grind [jf]
 exact iO hC (by rw[h1,this];exact⟨rfl,rfl⟩) h2 hsd hd
theorem Y1(hC:Cj L w){f}(hf:iN f=true)(h1:w'.s k=qd (w.s k) f.aY f.am)(h2:w'.s (!k)=w.s (!k))(hsd:w'.sd=w.sd)(hd:w'.dat=w.dat):Cj (at_ L k (L k++[f])) w':=by
 obtain⟨S,hC⟩:=hC;obtain⟨h,g⟩:=hC.two k;have h5:∀x,aK x=f->False:=fun x e=>by have:=fix5 hf;rw[<-e,fr5]at this;omega
 exact yY hC (LW h g (.inl hf) fun⟨r,_,_,e⟩=>h5 r e.symm) (by rw[h1];rfl) h2 rfl (by rw[hsd]) (by rw[hsd]) (hC.gv k) hd fun x _ _ z=>(h5 x (List.mem_singleton.1 z)).elim
end
open St Po Sy
theorem FC:∀(rd N:Nat) (c:aM),rd<N->(match (gQ N c).2[rd]? with
 | some f=>∃s r,(gQ rd c).1.Out=s::r/\(gQ rd c).1.aG>0/\f=Sd.partOf (gQ rd c).1 s/\(gQ (rd+1) c).1=Sd.lH (gQ rd c).1 s r
 | none=>(gQ (rd+1) c).1=(gQ rd c).1)
 | rd,0,_,h=>absurd h (Nat.not_lt_zero rd)
 | 0,N+1,c,_=>by grind [gQ]
 | rd+1,N+1,c,h=>by
   rw[gQ,gQ,gQ];cases ho:c.Out with
   | nil=>simp
   | cons s r=>
     simp only
     by_cases ht:c.aG>0
     .rw[pG0 ht,pG0 ht,pG0 ht];have:=FC rd N (Sd.lH c s r) (by omega);rw[List.getElem?_cons_succ];exact this
     .grind
theorem JR:∀n c,Sd.Ok c->Ra c->Sd.Ok (gQ n c).1/\Ra (gQ n c).1/\(gQ n c).1.ap=c.ap/\(gQ n c).1.al=c.al
 | 0,c,h,hb=>⟨h,hb,rfl,rfl⟩
 | n+1,c,h,hb=>by
   unfold gQ;cases ho:c.Out with
   | nil=>exact⟨h,hb,rfl,rfl⟩
   | cons s r=>
     simp only
     by_cases ht:c.aG>0
     .rw[pG0 ht];obtain⟨q1,q2,q3,q4⟩:=JR n (Sd.lH c s r) (TB h ho ht) fun t ht'=>hb t (JV c s r ho t ht');obtain⟨n1,n2⟩:=Cz c s r;exact⟨q1,q2,by rw[q3,n1],by rw[q4,n2]⟩
     .grind
theorem NA:∀n c,(gQ n c).2.length<=n
 | 0,_=>lR _
 | n+1,c=>by
   unfold gQ;split
   .simp
   .split
    .have:=NA n (Sd.lH c (by assumption) (by assumption));simp only[lC0];omega
    .simp
theorem JU:∀n N c,(gQ N c).2.length<=n->n<=N->(gQ n c).1=(gQ N c).1
 | n,0,c,_,h=>by rw[show n=0 by omega]
 | 0,N+1,c,h,_=>by grind [gQ]
 | n+1,N+1,c,h,hn=>by
   rw[gQ]at h |-;rw[gQ];cases ho:c.Out with
   | nil=>rfl
   | cons s r=>
     rw[ho]at h;simp only at h |-;by_cases ht:c.aG>0
     .rw[pG0 ht]at h;rw[pG0 ht,pG0 ht];simp only[lC0]at h;exact JU n N (Sd.lH c s r) (by omega) (by omega)
     .grind
def xH(m:aJ)(n:Nat)(c:aM):aM:=if bE m c.ap=true\/c.ba=true then c else(gQ n c).1
theorem VK m c:xH m 0 c=c:=by
 unfold xH;split<;>rfl
theorem KX m n{c}(h:Sd.Ok c)(hb:Ra c):Sd.Ok (xH m n c)/\Ra (xH m n c)/\(xH m n c).ap=c.ap/\(xH m n c).al=c.al:=by grind [xH,JR]
theorem QI m rd(hr:rd<65536)c:match (eT m c)[rd]? with
 | some f=>¬ bE m c.ap=true/\∃s r,(xH m rd c).Out=s::r/\(xH m rd c).aG>0/\f=Sd.partOf (xH m rd c) s/\xH m (rd+1) c=Sd.lH (xH m rd c) s r
 | none=>xH m (rd+1) c=xH m rd c:=by
 unfold eT pI xH;by_cases h1:bE m c.ap=true
 .grind
 .grind [FC,gQ]
theorem U9 m n c(h:(eT m c).length<=n)(hn:n<=65536):xH m n c=eX m c:=by grind [eT,pI,xH,eX,bE,JU]
theorem YH m c:(eT m c).length<=65536:=by grind [eT,pI,NA]
theorem CK:∀(fr:List (List (List Int))) a,a<=fr.foldl (fun a f=>max a f.length) a/\∀f∈fr,f.length<=fr.foldl (fun a f=>max a f.length) a
 | [],a=>⟨lR _,fun _ h=>by cases h⟩
 | g::fr,a=>by
   obtain⟨h1,h2⟩:=CK fr (max a g.length);simp only[List.foldl_cons];refine⟨by omega,fun f hf=>?_⟩;rcases List.mem_cons.1 hf with e|hf
   .rw[e];omega
   .exact h2 f hf
theorem NK n:∀(fr:List (List (List Int))) a,a<=n->(∀f∈fr,f.length<=n)->fr.foldl (fun a f=>max a f.length) a<=n
 | [],_,h,_=>h
 | g::fr,a,h,hf=>by
   simp only[List.foldl_cons];exact NK n fr _ (by have:=hf g (by simp);omega) fun f hg=>hf f (by simp[hg])
open St Po Sy
section
variable {L:Bool->List bq} {w:Wr} {k:Bool}
def rJ(m:aJ)(C:List aM):aJ:={m with aj:=C}
def aS(L:Bool->List bq)(w:Wr)(k:Bool)(C:List aM)(F:List bq):Prop:=Cj (at_ L k (L k++F)) (w.dz k (rJ (w.s k) C))
theorem O9{A B c s r F}(h:aS L w k (A++c::B) F)(hs:IU (A++c::B))(hok:Sd.Ok c)(hb:Ra c)(hn:¬ bE (w.s k) c.ap=true)(ho:c.Out=s::r)(ht:c.aG>0):aS L w k (A++Sd.lH c s r::B) (F++[⟨c.al,Sd.partOf c s⟩]):=by
 obtain⟨S',h⟩:=h;obtain⟨s1,s2⟩:=eU w k (rJ (w.s k) (A++c::B));obtain⟨p1,p2⟩:=eU w k (rJ (w.s k) (A++Sd.lH c s r::B));have hi:(A++c::B)[A.length]?=some c:=by simp
 have hset:(A++c::B).set A.length (Sd.lH c s r)=A++Sd.lH c s r::B:=by simp
 have hc:(vw ((w.dz k (rJ (w.s k) (A++c::B))).s k)).ch c.ap=some c:=by
  rw[s1];exact(fZ hs).2 ⟨by simp,rfl⟩
 have hcl:¬ iH (vw ((w.dz k (rJ (w.s k) (A++c::B))).s k)) c.ap:=by
  rw[s1];exact fun z=>hn (mK (m:=w.s k).1 z)
 obtain⟨h1,h2⟩:=h.two k;obtain⟨j4,B1,q⟩:=agv h1 h2 hc hcl ho ht (hb s (by rw[ho];simp)) hok;have:=yY h q (w':=w.dz k (rJ (w.s k) (A++Sd.lH c s r::B))) (by
  rw[s1,p1];refine vN ?_ (fun _=>Iff.rfl) rfl;show Ky (A++Sd.lH c s r::B)=upd (Ky (A++c::B)) c.ap (some (Sd.lH c s r));rw[<-hset];exact Ob hs hi (Cz c s r).1) (by rw[s2,p2]) rfl (by cases k<;>rfl) (by cases k<;>rfl) (oD (h.gv k) (fun e z=>by
   cases z;have:=h.gv k c.ap c hc hcl;unfold Gv at this |-;unfold Sd.lH;split<;>exact this) fun _ _ z=>z) (by cases k<;>rfl) fun x _ _ z=>by
    have:=congrArg (·.aY) (List.mem_singleton.1 z);have:=(jG hok).2.1;simp only[fr5]at *;omega
 rw[Ov,iC,List.append_assoc]at this;exact this
def mid(m:aJ)(rd i:Nat):List aM:=(m.aj.take i).map (xH m (rd+1))++(m.aj.drop i).map (xH m rd)
theorem XZ{m}(hs:IU m.aj)(hok:∀c∈m.aj,Sd.Ok c)(hb:∀c∈m.aj,Ra c)rd i:IU (mid m rd i):=by
 refine Nk hs ?_;have e:(mid m rd i).map (·.ap)=m.aj.map (·.ap):=by
  unfold mid;rw[List.map_append,List.map_map,List.map_map];have h1:∀n,∀l:List aM,(∀c∈l,c∈m.aj)->l.map ((·.ap) ∘ xH m n)=l.map (·.ap):=fun n l hl=>List.map_congr_left fun c hc=>(KX m n (hok c (hl c hc)) (hb c (hl c hc))).2.2.1;rw[h1 _ _ fun c hc=>List.mem_of_mem_take hc,h1 _ _ fun c hc=>List.mem_of_mem_drop hc,<-List.map_append,List.take_append_drop]
 exact e
theorem TL m rd i(h:m.aj.length<=i):mid m rd i=mid m (rd+1) 0:=by
 unfold mid;rw[List.take_of_length_le h,List.drop_eq_nil_of_le h];simp
theorem abR{m rd i c}(h:m.aj[i]?=some c):mid m rd i=(m.aj.take i).map (xH m (rd+1))++xH m rd c::(m.aj.drop (i+1)).map (xH m rd)/\mid m rd (i+1)=(m.aj.take i).map (xH m (rd+1))++xH m (rd+1) c::(m.aj.drop (i+1)).map (xH m rd):=by
 obtain⟨hi,hci⟩:=gS.1 h;have e1:m.aj.drop i=c::m.aj.drop (i+1):=by
  rw[<-hci];exact List.drop_eq_getElem_cons hi
 have e2:m.aj.take (i+1)=m.aj.take i++[c]:=by rw[List.take_add_one,h];rfl
 unfold mid;rw[e1,e2];simp
theorem U8{m}(hm:m=w.s k)(hs:IU m.aj)(hok:∀c∈m.aj,Sd.Ok c)(hb:∀c∈m.aj,Ra c)(h:Cj L w) :
 ∀rd,rd<=65536->∃F,(fu (m.aj.map (eX m)) (m.aj.map (eT m)) (rJ m (m.aj.map (eX m))) rd).Out=m.Out++F/\aS L w k (mid m rd 0) F
 | 0,_=>by
   refine⟨[],by simp[fu,rJ],?_⟩;have e:mid m 0 0=m.aj:=by
    unfold mid;rw[List.take_zero,List.drop_zero];have:xH m 0=id:=funext fun c=>VK m c;rw[this];simp
   rw[e];have e2:w.dz k (rJ (w.s k) m.aj)=w:=by
    rw[hm];exact ug w k
   unfold aS;rw[e2,AL];exact h
 | rd+1,hr=>by
   obtain⟨F,h1,h2⟩:=U8 hm hs hok hb h rd (by omega);have key:∀i,i<=m.aj.length->∃F,(eF (m.aj.map (eX m)) (m.aj.map (eT m)) rd (fu (m.aj.map (eX m)) (m.aj.map (eT m)) (rJ m (m.aj.map (eX m))) rd) i).Out=m.Out++F/\aS L w k (mid m rd i) F:=by
    intro i
    induction i with
    | zero=>exact fun _=>⟨F,h1,h2⟩
    | succ i ih=>
      intro hi;obtain⟨F,g1,g2⟩:=ih (by omega);rw[gL];generalize eF (m.aj.map (eX m)) (m.aj.map (eT m)) rd (fu (m.aj.map (eX m)) (m.aj.map (eT m)) (rJ m (m.aj.map (eX m))) rd) i=q at g1 |-;obtain⟨c,hc⟩:∃c,m.aj[i]?=some c:=⟨_,gE (by omega)⟩;have hcm:c∈m.aj:=List.mem_of_getElem? hc;obtain⟨e1,e2⟩:=abR (rd:=rd) hc;have hfr:=QI m rd (by omega) c;have ha:=KX m rd (hok c hcm) (hb c hcm);have hcc:(eX m c).al=c.al:=(rC m (hok c hcm)).2.2;unfold Ak;rw[List.getElem?_map,List.getElem?_map,hc];simp only[Option.map_some]
      revert hfr
      cases (eT m c)[rd]? with
      | none=>
        intro hfr;have hfr:xH m (rd+1) c=xH m rd c:=hfr;refine⟨F,g1,?_⟩;rw[e2,hfr,<-e1];exact g2
      | some f=>
        intro hfr;obtain⟨f1,s,r,f2,f3,f4,f5⟩:=hfr;refine⟨F++[⟨c.al,f⟩],?_,?_⟩
        .show q.Out++[⟨(eX m c).al,f⟩]=_;rw[g1,hcc,List.append_assoc]
        .grind [O9,XZ]
   obtain⟨F',g1,g2⟩:=key m.aj.length (lR _);refine⟨F',?_,by rw[<-TL m rd _ (lR _)];exact g2⟩;rw[gH,List.length_map];exact g1
theorem Cj.col{n}(h:Cj L w)(hI:MInv n (w.s k))(hb:∀c∈(w.s k).aj,Ra c):xO L k (w.s k) (w.dz k (tC (w.s k))):=by
 have hub:jW ((w.s k).aj.map (eT (w.s k)))<=65536:=NK 65536 _ 0 (Nat.zero_le _) fun f hf=>by grind [YH]
 obtain⟨F,h1,h2⟩:=U8 (L:=L) (w:=w) (k:=k) rfl hI.nQ hI.oZ hb h (jW ((w.s k).aj.map (eT (w.s k)))) hub;have hmid:mid (w.s k) (jW ((w.s k).aj.map (eT (w.s k)))) 0=(w.s k).aj.map (eX (w.s k)):=by
  unfold mid;rw[List.take_zero,List.drop_zero];exact List.map_congr_left fun c hc=>U9 _ _ c ((CK _ 0).2 _ (List.mem_map.2 ⟨c,hc,rfl⟩)) hub
 rw[hmid]at h2;intro new hnew;rw[(eU w k _).1]at hnew;have e:new=F:=List.append_cancel_left (hnew.symm.trans h1);rw[e];have hco:(tC (w.s k)).aj=(w.s k).aj.map (eX (w.s k))/\(tC (w.s k)).aB=(w.s k).aB:=by
  have hq:∀l fr rd m i,(Ak l fr rd m i).aj=m.aj/\(Ak l fr rd m i).aB=m.aB:=fun l fr rd m i=>by
   unfold Ak
   (repeat' split)<;>exact⟨rfl,rfl⟩
  have hr:∀l fr rd m i,(eF l fr rd m i).aj=m.aj/\(eF l fr rd m i).aB=m.aB:=fun l fr rd m i=>by
   induction i with
   | zero=>exact⟨rfl,rfl⟩
   | succ i ih=>rw[gL,(hq _ _ _ _ _).1,(hq _ _ _ _ _).2];exact ih
  have hrs:∀l fr m i,(fu l fr m i).aj=m.aj/\(fu l fr m i).aB=m.aB:=fun l fr m i=>by
   induction i with
   | zero=>exact⟨rfl,rfl⟩
   | succ i ih=>rw[gH,(hr _ _ _ _ _).1,(hr _ _ _ _ _).2];exact ih
  exact hrs _ _ _ _
 refine Cj.same h2 (fun j=>?_) (by cases k<;>rfl) (by cases k<;>rfl)
 obtain⟨s1,s2⟩:=eU w k (tC (w.s k));obtain⟨p1,p2⟩:=eU w k (rJ (w.s k) ((w.s k).aj.map (eX (w.s k))));rcases dx j k with hj|hj
 .rw[hj,s1,p1];unfold vw;rw[hco.1,hco.2];rfl
 .rw[hj,s2,p2]
theorem Cj.pre{n}(h:Cj L w)(hI:MInv n (w.s k))(hb:∀c∈(w.s k).aj,Ra c):xO L k (w.s k) (w.dz k (uH (w.s k))):=by
 unfold uH;by_cases h0:(w.s k).Out=[]
 .rw[pG0 h0];exact h.col hI hb
 .rw[nG0 h0];exact iO h (by rw[(eU w k _).1];exact⟨rfl,rfl⟩) (eU w k _).2 (by cases k<;>rfl) (by cases k<;>rfl)
end
end Cx
namespace Sy
open St Po Cx
def xs(l:List bq):Nat:=(l.map fun f=>27*frX f).sum
theorem Gs l k:xs (l++k)=xs l+xs k:=by unfold xs;rw[List.map_append,List.sum_append]
theorem vL f l:xs (f::l)=27*frX f+xs l:=by unfold xs;rw[mC,List.sum_cons]
def QM(m:aJ):Nat:=gP m-xs m.Out-m.aS.toNat
theorem Rs l:xs l+(l.map fun f=>f.am.length+30).sum=(l.map Lm).sum:=by
 induction l with
 | nil=>rfl
 | cons f l ih=>
   rw[vL];simp only[mC,List.sum_cons];have:Lm f=f.am.length+30+27*frX f:=rfl;omega
theorem vE{k m}(h:MInv k m):QM m+xs m.Out+m.aS.toNat=gP m:=by
 have h1:=Rs m.Out;have h2:m.aS.toNat<=(m.Out.map fun f=>f.am.length+30).sum:=by
  cases ho:m.Out with
  | nil=>rw[h.pG ho];simp
  | cons f t=>
    have hs:=h.sent f t ho;simp only[mC,List.sum_cons];omega
 have h3:gP m=(m.aj.map (l8 m)).sum+(m.Out.map Lm).sum:=rfl;unfold QM;omega
theorem Vx{k k' g m m'}(h:MInv k m)(h':MInv k' m')(hs:Same m m'){l}(hl:m'.Out=m.Out++l)(hp:gP m'<=gP m+g):QM m'+xs l<=QM m+g:=by
 have e1:=vE h;have e2:=vE h';rw[hl,Gs,hs.sent]at e2;omega
theorem Vv{k m}(h:MInv k m){f t}(ho:m.Out=f::t)(h':MInv k (kK m f t)):QM (kK m f t)+27<=QM m:=by
 obtain⟨r1,r2⟩:=Tw h ho;have e1:=vE h;have e2:=vE h';have s1:=Jv h;have s2:=Jv h';unfold rest at r1 r2;by_cases he:toM m f=(f.am.length:Int)+4
 .grind [kK,vL]
 .grind [kK]
structure bj(m:aJ):Prop where
 inv:MInv m.Out.length m
 xQ:∀c∈m.aj,Ra c
 di:DI m
structure Ord(L:Bool->List bq)(r:Bool->Nat)(w:Wr):Prop where
 side:∀k,bj (w.s k)
 way:∀k,Way (L k) (r k) (w.a k) (w.s k) (w.s (!k)) (w.f k)
 ok:w.MI=false
 role:∀k,(w.s k).jm=if k=true then 1 else 0
def phi(L:Bool->List bq)(w:Wr):Nat:=QM (w.s false)+xs (L false)+(QM (w.s true)+xs (L true))
theorem sS L w k:phi L w=QM (w.s k)+xs (L k)+(QM (w.s (!k))+xs (L (!k))):=by
 cases k
 .rfl
 .grind [phi]
theorem bj.rows{m m'}(h:bj m){k}(hI:MInv k m')(hr:Rows m m')(hq:IW m m'):bj m':=⟨MInv.tight hI,fun c hc s hs=>by
 obtain⟨d,hd,hs⟩:=hr c hc s hs;exact h.xQ d hd s hs,hq.ids (by have:=h.inv.rH;omega) h.inv.next h.di⟩
theorem Ord.adds{L r w}(h:Ord L r w)k{m'}(hs:bj m')(ha:Adds (w.s k) m'){g}(hp:gP m'<=gP (w.s k)+g):∃l,m'.Out=(w.s k).Out++l/\Ord (at_ L k (L k++l)) r (w.dz k m')/\phi (at_ L k (L k++l)) (w.dz k m')<=phi L w+g:=by
 obtain⟨l,hn,hl,hw⟩:=(h.way k).adds ha;obtain⟨q1,q2⟩:=eU w k m';have hb:=Vx (h.side k).inv hs.inv ha.1 hl hp;refine⟨l,hl,⟨fun j=>?_,fun j=>?_,?_,fun j=>?_⟩,?_⟩
 .rcases dx j k with hj|hj
  .rw[hj,q1];exact hs
  .rw[hj,q2];exact h.side _
 .obtain⟨a1,a2⟩:=jI w k j m';rw[a1,a2];rcases dx j k with hj|hj
  .grind [iC]
  .subst hj;rw[gG,q2,Bool.not_not,q1];have:=h.way (!k);rw[Bool.not_not]at this;exact this.right ha.1.asm
 .rw[(l7 w k m' [] []).1];exact h.ok
 .rcases dx j k with hj|hj
  .rw[hj,q1,ha.1.role];exact h.role k
  .rw[hj,q2];exact h.role _
 .grind [sS,iC,gG,Gs]
open St Po Cx
def Idle(m:aJ):Prop:=∀c∈m.aj,bE m c.ap=true\/c.ba=true\/c.Out=[]\/c.aG<=0
theorem Tx{c n}(h:(gQ (n+1) c).2=[]):(c.Out=[]\/c.aG<=0)/\(gQ (n+1) c).1=c:=by grind [gQ]
theorem KR{m}(h:∀c∈m.aj,eT m c=[])c(hc:c∈m.aj):(bE m c.ap=true\/c.ba=true\/c.Out=[]\/c.aG<=0)/\eX m c=c:=by grind [eT,pI,eX,bE,Tx]
theorem Ce l fr m:∀n,(fu l fr m n).aj=m.aj/\(fu l fr m n).aB=m.aB
 | 0=>⟨rfl,rfl⟩
 | n+1=>by
   have hq:∀rd m i,(Ak l fr rd m i).aj=m.aj/\(Ak l fr rd m i).aB=m.aB:=fun rd m i=>by
    unfold Ak
    (repeat' split)<;>exact⟨rfl,rfl⟩
   have hr:∀rd m i,(eF l fr rd m i).aj=m.aj/\(eF l fr rd m i).aB=m.aB:=fun rd m i=>by
    induction i with
    | zero=>exact⟨rfl,rfl⟩
    | succ i ih=>rw[gL,(hq _ _ _).1,(hq _ _ _).2];exact ih
   rw[gH,(hr _ _ _).1,(hr _ _ _).2];exact Ce l fr m n
theorem Cc l fr m:∀n,(fu l fr m n).Out=[]->∀rd,rd<n->∀(i:Nat) f b c,fr[i]?=some f->l[i]?=some c->f[rd]?=some b->False
 | 0,_,rd,h,_,_,_,_,_,_,_=>absurd h (Nat.not_lt_zero rd)
 | n+1,h,rd,hr,i,f,b,c,h1,h2,h3=>by
   have hq:∀rd m i,(Ak l fr rd m i).Out=[]->m.Out=[]:=fun rd m i e=>by
    unfold Ak at e;split at e
    .split at e
     .unfold qd at e;simp at e
     .exact e
    .exact e
   have hrm:∀rd m i,(eF l fr rd m i).Out=[]->m.Out=[]:=fun rd m i e=>by
    induction i with
    | zero=>exact e
    | succ i ih=>rw[gL]at e;exact ih (hq _ _ _ e)
   rw[gH]at h;by_cases hn:rd=n
   .subst hn;have hi:i<fr.length:=(gS.1 h1).1;have key:∀k,i<k->(eF l fr rd (fu l fr m rd) k).Out≠[]:=fun k hk=>by
     induction k with
     | zero=>omega
     | succ k ih=>
       rw[gL];by_cases e:i=k
       .grind [Ak,qd]
       .grind
    exact key fr.length hi h
   .exact Cc l fr m n (hrm _ _ _ h) rd (by omega) i f b c h1 h2 h3
theorem Tj{n m}(_:MInv n m)(h:(uH m).Out=[]):Idle (uH m):=by
 unfold uH at h |-;by_cases h0:m.Out=[]
 .rw[pG0 h0]at h |-;have hF:∀c∈m.aj,eT m c=[]:=fun c hc=>by
   cases e:eT m c with
   | nil=>rfl
   | cons b t=>
     exfalso;obtain⟨i,hi⟩:=List.getElem?_of_mem hc;have hlen:=(CK (m.aj.map (eT m)) 0).2 _ (List.mem_map.2 ⟨c,hc,rfl⟩);rw[e]at hlen;simp only[lC0]at hlen;exact Cc _ _ _ _ h 0 (by unfold jW;omega) i (eT m c) b (eX m c) (by rw[List.getElem?_map,hi];rfl) (by rw[List.getElem?_map,hi];rfl) (by rw[e];rfl)
  obtain⟨e1,e2⟩:(tC m).aj=m.aj/\(tC m).aB=m.aB:=by
   obtain⟨r1,r2⟩:=Ce (m.aj.map (eX m)) (m.aj.map (eT m)) {m with aj:=m.aj.map (eX m)} (jW (m.aj.map (eT m)));refine⟨r1.trans ?_,r2⟩;show m.aj.map (eX m)=m.aj;have:m.aj.map (eX m)=m.aj.map id:=List.map_congr_left fun c hc=>(KR hF c hc).2;rw[this,List.map_id]
  intro c hc;rw[e1]at hc;have:=(KR hF c hc).1;unfold bE at this |-;rw[e2];exact this
 .grind
theorem Ord.pre{L r w}(h:Ord L r w)k(hf:(w.s k).Out.length<=800000000):∃L',Ord L' r (w.dz k (uH (w.s k)))/\phi L' (w.dz k (uH (w.s k)))<=phi L w/\L' (!k)=L (!k)/\(Cj L w->Cj L' (w.dz k (uH (w.s k)))):=by
 have hpre:=fun(hS:Cj L w)=>hS.pre (h.side k).inv (h.side k).xQ;unfold uH at hpre |-;by_cases h0:(w.s k).Out=[]
 .rw[pG0 h0]at hpre |-;obtain⟨_,hI⟩:=Dt (h.side k).inv hf;obtain⟨ha,hr⟩:=VU (h.side k).inv (h.side k).xQ;obtain⟨l,q0,q1,q2⟩:=h.adds k ((h.side k).rows hI hr (W9 _).req) ha (g:=0) (KP (h.side k).inv);exact⟨_,q1,q2,gG _ _ _,fun hS=>hpre hS l (by rw[(eU w k _).1];exact q0)⟩
 .grind [ug]
theorem Ord.out{L r w}(h:Ord L r w)k(hf:(w.s k).Out.length<=900000000)(ht:(iA (w.s k)).2.2=true):Ord L r ((w.dz k (iA (w.s k)).1).iQ k (w.a k++[(iA (w.s k)).2.1]))/\phi L ((w.dz k (iA (w.s k)).1).iQ k (w.a k++[(iA (w.s k)).2.1]))+27<=phi L w:=by
 have hS:=h.side k;have hW:=h.way k;obtain⟨_,hI⟩:=Ht hS.inv hf;have hfl:=(KA hS.inv hW.flow).2 ht;have hx:∃f t,(w.s k).Out=f::t/\(iA (w.s k)).1=kK (w.s k) f t:=by grind [iA]
 obtain⟨f,t,ho,he⟩:=hx;rw[he]at hI;have hb:=Vv hS.inv ho hI;rw[<-he]at hb hI;have hch:(iA (w.s k)).1.aj=(w.s k).aj:=by rw[he];unfold kK;split<;>rfl
 have hask:(iA (w.s k)).1.aB=(w.s k).aB:=by rw[he];unfold kK;split<;>rfl
 have hasm:(iA (w.s k)).1.ay=(w.s k).ay:=by rw[he];unfold kK;split<;>rfl
 have Ue:(iA (w.s k)).1.jm=(w.s k).jm:=by rw[he];unfold kK;split<;>rfl
 generalize iA (w.s k)=o at *;obtain⟨s1,s2⟩:=eU w k o.1;obtain⟨a1,a2⟩:=DF (w.dz k o.1) k (w.a k++[o.2.1]);refine⟨⟨fun j=>?_,fun j=>?_,?_,fun j=>?_⟩,?_⟩
 .rw[(jD _ k j _).1];rcases dx j k with hj|hj
  .rw[hj,s1];exact⟨MInv.tight hI,by rw[hch];exact hS.xQ,by unfold DI;rw[hask];exact hS.di⟩
  .rw[hj,s2];exact h.side _
 .rw[(jD _ k j _).1,(jD _ k (!j) _).1,(jD _ k j _).2,(jI w k j _).2];rcases dx j k with hj|hj
  .subst hj;rw[a1,s1,s2];exact⟨hfl,hW.asm,hW.good,hW.fix,hW.emp⟩
  .subst hj;rw[a2,(jI w k (!k) _).1,s2,Bool.not_not,s1];have:=h.way (!k);rw[Bool.not_not]at this;exact this.right hasm
 .rw[(l7 _ k o.1 _ []).2.1,(l7 w k o.1 [] []).1];exact h.ok
 .rw[(jD _ k j _).1];rcases dx j k with hj|hj
  .rw[hj,s1,Ue];exact h.role k
  .rw[hj,s2];exact h.role _
 .rw[sS _ _ k,sS L w k,(jD _ k k _).1,(jD _ k (!k) _).1,s1,s2];omega
theorem ac4{L w}(h:Cj L w)k l:Cj L ((w.dz k (iA (w.s k)).1).iQ k l):=by
 have hv:vw (iA (w.s k)).1=vw (w.s k):=by
  unfold iA;split
  .rfl
  .simp only
   unfold kK;split<;>rfl
 refine h.same (fun j=>?_) (by cases k<;>rfl) (by cases k<;>rfl)
 obtain⟨s1,s2⟩:=eU w k (iA (w.s k)).1;rw[(jD _ k j l).1];rcases dx j k with hj|hj
 .rw[hj,s1,hv]
 .rw[hj,s2]
theorem Ord.jv{L r w}(h:Ord L r w)k(hf:(w.s k).Out.length<=800000000)(hf2:(uH (w.s k)).Out.length<=900000000):∃L',Ord L' r (Sy.jv w k).1/\L' (!k)=L (!k)/\(Sy.jv w k).1.a (!k)=w.a (!k)/\(Cj L w->Cj L' (Sy.jv w k).1)/\
 (((Sy.jv w k).2=true/\phi L' (Sy.jv w k).1+27<=phi L w/\((Sy.jv w k).1.a k).length=(w.a k).length+1)\/((Sy.jv w k).2=false/\phi L' (Sy.jv w k).1<=phi L w/\(Sy.jv w k).1.a k=w.a k/\((Sy.jv w k).1.s k).Out=[]/\Idle ((Sy.jv w k).1.s k))):=by
 obtain⟨L',q1,q2,q3,q9⟩:=h.pre k hf;obtain⟨s1,s2⟩:=eU w k (uH (w.s k));have hS:=q1.side k;rw[s1]at hS;unfold Sy.jv sU;by_cases ht:(iA (uH (w.s k))).2.2=true
 .rw[pG0 ht];have hO:=q1.out k (by rw[s1];exact hf2) (by rw[s1];exact ht);rw[s1,yg,(jI w k k _).1]at hO;refine⟨L',hO.1,q3,?_,fun hP=>?_,.inl ⟨rfl,?_,?_⟩⟩
  .grind [DF,jI]
  .have:=ac4 (q9 hP) k (w.a k++[(iA (uH (w.s k))).2.1]);rw[s1,yg]at this;exact this
  .grind
  .grind [DF,lA]
 .rw[nG0 ht];obtain⟨f1,f2⟩:=(KA hS.inv (by have:=(q1.way k).flow;rw[s1]at this;exact this)).1 (by simpa using ht);rw[f2];refine⟨L',q1,q3,(jI w k (!k) _).1,q9,.inr ⟨rfl,q2,(jI w k k _).1,?_,?_⟩⟩
  .grind
  .show Idle ((w.dz k (uH (w.s k))).s k);rw[s1];exact Tj (h.side k).inv f1
open St Po Cx
theorem Ord.same{L r w w'}(h:Ord L r w)(h0:w'.s0=w.s0)(h1:w'.s1=w.s1)(h2:w'.a0=w.a0)(h3:w'.a1=w.a1)(h4:w'.f0=w.f0)(h5:w'.f1=w.f1)(h6:w'.MI=w.MI):Ord L r w'/\phi L w'=phi L w/\∀k,w'.a k=w.a k:=by
 have es:w'.s=w.s:=by funext k;cases k<;>simp[Wr.s,h0,h1]
 have ea:w'.a=w.a:=by funext k;cases k<;>simp[Wr.a,h2,h3]
 have ef:w'.f=w.f:=by funext k;cases k<;>simp[Wr.f,h4,h5]
 refine⟨⟨fun k=>by rw[es];exact h.side k,fun k=>by rw[es,ea,ef];exact h.way k,by rw[h6];exact h.ok,fun k=>by rw[es];exact h.role k⟩,by unfold phi;rw[es],fun k=>by rw[ea]⟩
theorem RH{L r w}(h:Ord L r w)k x(hx:x.ae≠1)(hf:(w.s k).Out.length<=900000000):∃l,((dH w k x).s k).Out=(w.s k).Out++l/\Ord (at_ L k (L k++l)) r (dH w k x)/\phi (at_ L k (L k++l)) (dH w k x)<=phi L w+(if x.ae=6 then 44 else 0)/\∀j,(dH w k x).a j=w.a j:=by
 have nil:∀w',w'.s0=w.s0->w'.s1=w.s1->w'.a0=w.a0->w'.a1=w.a1->w'.f0=w.f0->w'.f1=w.f1->w'.MI=w.MI->∃l,(w'.s k).Out=(w.s k).Out++l/\Ord (at_ L k (L k++l)) r w'/\phi (at_ L k (L k++l)) w'<=phi L w+(if x.ae=6 then 44 else 0)/\∀j,w'.a j=w.a j:=fun w' b1 b2 b3 b4 b5 b6 b7=>by
  obtain⟨q1,q2,q3⟩:=h.same b1 b2 b3 b4 b5 b6 b7;refine⟨[],?_,by rw[AL];exact q1,by rw[AL,q2];omega,q3⟩;rw[List.append_nil];cases k<;>simp[Wr.s,b1,b2]
 unfold dH;by_cases k2:x.ae=2
 .rw[pG0 k2];exact nil _ rfl rfl rfl rfl rfl rfl rfl
 rw[nG0 k2];by_cases k5:x.ae=5
 .rw[pG0 k5];exact nil _ rfl rfl rfl rfl rfl rfl rfl
 rw[nG0 k5,nG0 hx];by_cases k3:x.ae=3
 .rw[pG0 k3];split
  .exact nil _ rfl rfl rfl rfl rfl rfl rfl
  .exact nil _ rfl rfl rfl rfl rfl rfl rfl
 rw[nG0 k3];by_cases k6:x.ae=6
 .rw[pG0 k6];obtain⟨_,hI⟩:=Ch (h.side k).inv hf x.ID (x.ao.aO.tmod 2);have ha:=VN (w.s k) x.ID (x.ao.aO.tmod 2);have hr:=SB (w.s k) x.ID (x.ao.aO.tmod 2);obtain⟨l,q0,q1,q2⟩:=h.adds k ((h.side k).rows hI hr (WY (w.s k) x.ID (x.ao.aO.tmod 2)).req) ha (Xq _ _ _);rw[pG0 k6];split
  .exact⟨l,by rw[(eU w k _).1];exact q0,q1,q2,fun j=>(jI w k j _).1⟩
  .obtain⟨p1,p2,p3⟩:=q1.same (w':={w.dz k (l5 (w.s k) x.ID (x.ao.aO.tmod 2)).1 with par:=-1000}) rfl rfl rfl rfl rfl rfl rfl;refine⟨l,?_,p1,by omega,fun j=>(p3 j).trans (jI w k j _).1⟩;show((w.dz k (l5 (w.s k) x.ID (x.ao.aO.tmod 2)).1).s k).Out=_;rw[(eU w k _).1];exact q0
 rw[nG0 k6];split
 .have:=nil {w with par:=w.par-1,ans:=w.ans||(w.par-1 == -1)} rfl rfl rfl rfl rfl rfl rfl
  rw[nG0 k6]at this;exact this
 .grind
theorem acU m{s}:∀x∈(nR m s).2,x.ae≠1/\(x.ae=6->(nR m s).1=m/\pE s.ae=2):=by
 unfold nR;split
 .grind [vB,zA]
 split
 .grind [oI,zA]
 split
 .rename_i h18;unfold nk;split
  .intro x hx;simp at hx;subst hx;exact⟨by simp,fun _=>⟨rfl,by rw[h18];decide⟩⟩
  .grind
 split
 .grind
 .grind [l9,pW,zA]
theorem acV m{f}(hg:zK f)(hn:iN f=false):∀x∈(dY m f).2,x.ae≠1/\(x.ae=6->(dY m f).1=m/\frX f=2):=by
 have hn':¬ (f.aY=4\/f.aY=6):=by unfold iN at hn;simpa using hn
 unfold dY frX;rw[nG0 hn',nG0 hn'];by_cases c5:f.aY=5
 .obtain⟨s,hs,hp⟩:=hg c5;rw[pG0 c5,pG0 c5,hp,Kt hs];unfold DZ;rw[Sg.oJ hs.1 hs.2,pG0 rfl];exact acU m
 .grind [nH,vY]
open St Po Cx
def iF(m:aJ)(a:kV):aJ:={m with ay:=a}
theorem Ord.base{L r w}(h:Ord L r w)k{ps R u}(hf:Flow R u ps (w.s k).Out (w.s k).aS.toNat)(hg:∀f∈R,Good f/\zK f)(he:R=[]->u=0)(hv:Fr.Val (dS R u)) :
 Ord (at_ L k R) (at_ r k u) (((w.iQ k ps).dz (!k) (iF (w.s (!k)) (dS R u))).qQ k (R.filter iN))/\phi (at_ L k R) (((w.iQ k ps).dz (!k) (iF (w.s (!k)) (dS R u))).qQ k (R.filter iN))+xs (L k)=phi L w+xs R:=by
 have hS:=h.side (!k);obtain⟨s1,s2⟩:=eU (w.iQ k ps) (!k) (iF (w.s (!k)) (dS R u));rw[Bool.not_not,(jD w k k ps).1]at s2;obtain⟨f1,f2⟩:=UC ((w.iQ k ps).dz (!k) (iF (w.s (!k)) (dS R u))) k (R.filter iN);obtain⟨a1,a2⟩:=DF w k ps;refine⟨⟨fun j=>?_,fun j=>?_,?_,fun j=>?_⟩,?_⟩
 .rw[(iX _ k j _).1];rcases dx j k with hj|hj
  .rw[hj,s2];exact h.side k
  .rw[hj,s1];exact⟨hS.inv.iF hv,hS.xQ,hS.di⟩
 .rw[(iX _ k j _).1,(iX _ k (!j) _).1,(iX _ k j _).2,(jI _ (!k) j _).1];rcases dx j k with hj|hj
  .subst hj;rw[iC,iC,f1,s2,s1,a1];exact⟨hf,rfl,hg,rfl,he⟩
  .subst hj;rw[gG,gG,f2,Bool.not_not,s1,s2,a2,(jI _ (!k) (!k) _).2,(jD w k (!k) _).2];have:=h.way (!k);rw[Bool.not_not]at this;exact⟨this.flow,this.asm,this.good,this.fix,this.emp⟩
 .rw[(l7 _ k (w.s k) [] _).2.2,(l7 _ (!k) _ [] []).1,(l7 w k (w.s k) ps []).2.1];exact h.ok
 .rw[(iX _ k j _).1];rcases dx j k with hj|hj
  .rw[hj,s2];exact h.role k
  .rw[hj,s1];exact h.role _
 .rw[sS _ _ k,sS L w k,(iX _ k k _).1,(iX _ k (!k) _).1,s1,s2,iC,gG];have:QM (iF (w.s (!k)) (dS R u))=QM (w.s (!k)):=rfl;omega
theorem Kz{L s p ps O t}(h:Flow L s (p::ps) O t)(hg:∀f∈L,Good f):L≠[]/\(∀x∈p.am,Byte x)/\p.am.length<=200000:=by
 match L,h with
 | f::r,⟨u,h1,h2,h3,h4⟩=>
   have hf:=hg f (by simp);have:=hf.len;subst h3;refine⟨by simp,fun x hx=>Fr.Iy hf.xQ x (List.mem_of_mem_take (List.mem_of_mem_drop hx)),?_⟩;simp only[List.length_drop,lT0,Fr.jH];omega
theorem Yn{kk m}(h:MInv kk m){f}(hg:zK f)(hn:iN f=false):IW m (dY m f).1:=by
 have hn':¬ (f.aY=4\/f.aY=6):=by unfold iN at hn;simpa using hn
 unfold dY;by_cases c5:f.aY=5
 .obtain⟨s,hs,hp⟩:=hg c5;unfold DZ;rw[nG0 hn',pG0 c5,hp,Sg.oJ hs.1 hs.2,pG0 rfl];exact(Yh (m:=m) s).req
 .rw[nG0 hn',nG0 c5]
  (repeat' split)<;>first|exact .refl m|exact SX m _ _ _
theorem abN{L w}(hC:Cj L w)k{f l}(hL:L (!k)=f::l)(hf:f.aY=4\/f.aY=6){w'}(hv:∀j,vw (w'.s j)=vw (w.s j))(hsd:w'.sd=w.sd)(hd:w'.dat=w.dat):Cj (at_ L (!k) l) w':=by
 obtain⟨S,hC⟩:=hC;obtain⟨h,g⟩:=hC.two k;rw[hL]at h g;have h5:∀x,f=aK x->False:=fun x e=>by rw[e,fr5]at hf;omega
 have fz:∀v c,For v f c->False:=fun v c q=>by
  rcases q with⟨q,_⟩|⟨x,_,_,e,_⟩
  .grind [DN]
  .exact h5 x e
 have rQ:Replay (vw (w.s k)) l (S k):=by
  have:=h.rp;cases this with
  | cons h1 h2=>
    cases h1 with
    | skip _=>exact h2
    | KL=>exact(h5 _ rfl).elim
    | ans=>exact(h5 _ rfl).elim
    | MU _ _ q=>exact(fz _ _ q.for).elim
    | late _ _ q=>exact(fz _ _ q).elim
 exact Vb k (abO h g (fun⟨r,_,_,e⟩=>h5 r e) rQ) (hv k) (hv _) (by have:=gG L (!k) l;rw[Bool.not_not]at this;exact this) (iC _ _ _) (by rw[hsd]) (by rw[hsd]) (hC.gv k) (hC.gv _) (fun j x p q z=>by
  rcases dx j (!k)with rfl|rfl
  .rw[iC]at z;exact hC.pr _ x p q (by rw[hL];exact List.mem_cons_of_mem _ z)
  .rw[gG]at z;exact hC.pr _ x p q z) (hd.trans hC.dat)
theorem Ord.arr{L r w}(h:Ord L r w)k{p ps}(ha:w.a k=p::ps)(hf:(w.s (!k)).Out.length<=800000000):∃L' r',Ord L' r' (rG w k p ps)/\phi L' (rG w k p ps)<=phi L w/\(rG w k p ps).a k=ps/\(rG w k p ps).a (!k)=w.a (!k)/\(Cj L w->Cj L' (rG w k p ps)):=by
 have hW:=h.way k;have hS:=h.side (!k);have hfl:=hW.flow;rw[ha]at hfl;have hgood:∀f∈L k,Good f:=fun f hq=>(hW.good f hq).1;obtain⟨hne,hb,hl⟩:=Kz hfl hgood;have hval:=Fr.Dn hS.inv.asm hb;obtain⟨_,hI,hlen⟩:=Kl hS.inv (by omega) hb hl;have Qu:∀(m:aJ),((w.iQ k ps).dz (!k) m).a k=ps/\((w.iQ k ps).dz (!k) m).a (!k)=w.a (!k):=fun m=>by grind [jI,DF]
 rw[hW.asm]at hval;rcases zx hfl hgood with⟨f,rest,hL,Ug,acF⟩|⟨u,Ug,acF⟩
 .have hin:ED (w.s (!k)) p=dY (iF (w.s (!k)) (dS rest 0)) f:=by
   unfold ED iF;rw[hW.asm,Ug]
  rw[Ug]at hval;have hgf:=hW.good f (by rw[hL];simp);obtain⟨q1,q2⟩:=h.base k acF (fun g hq=>hW.good g (by rw[hL];simp[hq])) (fun _=>rfl) hval;have hfx:=hW.fix;rw[hL,List.filter_cons]at hfx;rw[hL,vL]at q2;by_cases hx:iN f=true
  .rw[pG0 hx]at hfx;have h46:f.aY=4\/f.aY=6:=by unfold iN at hx;simpa using hx
   have hfr:dY (iF (w.s (!k)) (dS rest 0)) f=(iF (w.s (!k)) (dS rest 0),[⟨1,f.aY,f.am,0,zu,0⟩]):=by unfold dY;rw[pG0 h46]
   have harr:rG w k p ps=((w.iQ k ps).dz (!k) (iF (w.s (!k)) (dS rest 0))).qQ k (rest.filter iN):=by
    unfold rG;rw[hin,hfr];show dH ((w.iQ k ps).dz (!k) (iF (w.s (!k)) (dS rest 0))) (!k) ⟨1,f.aY,f.am,0,zu,0⟩=_;unfold dH;rw[f8,f8,pG0 rfl,Bool.not_not,(jI _ (!k) k _).2,(jD w k k ps).2,<-hfx];simp only
    rw[pG0 ⟨trivial,trivial⟩]
   rw[harr];refine⟨_,_,q1,by omega,?_,?_,fun hS=>?_⟩
   .rw[(iX _ k k _).2];exact(Qu _).1
   .rw[(iX _ k (!k) _).2];exact(Qu _).2
   .have hv:∀j,vw ((((w.iQ k ps).dz (!k) (iF (w.s (!k)) (dS rest 0))).qQ k (rest.filter iN)).s j)=vw (w.s j):=fun j=>by
     rw[(iX _ k j _).1];obtain⟨s1,s2⟩:=eU (w.iQ k ps) (!k) (iF (w.s (!k)) (dS rest 0));rcases dx j k with hj|hj
     .grind [jD]
     .rw[hj,s1];rfl
    have:=abN hS (!k) (f:=f) (l:=rest) (by rw[Bool.not_not];exact hL) h46 hv (w':=((w.iQ k ps).dz (!k) (iF (w.s (!k)) (dS rest 0))).qQ k (rest.filter iN)) (by cases k<;>rfl) (by cases k<;>rfl)
    rw[Bool.not_not]at this;exact this
  .rw[nG0 hx]at hfx;have hw1:((w.iQ k ps).dz (!k) (iF (w.s (!k)) (dS rest 0))).qQ k (rest.filter iN)=(w.iQ k ps).dz (!k) (iF (w.s (!k)) (dS rest 0)):=by
    have e:rest.filter iN=((w.iQ k ps).dz (!k) (iF (w.s (!k)) (dS rest 0))).f k:=by
     rw[(jI _ (!k) k _).2,(jD w k k ps).2,hfx]
    rw[e];exact Fa _ k
   rw[hw1]at q1 q2;have hm':((w.iQ k ps).dz (!k) (iF (w.s (!k)) (dS rest 0))).s (!k)=iF (w.s (!k)) (dS rest 0):=(eU _ (!k) _).1;have hS1:=q1.side (!k);rw[hm']at hS1;have hadd:=VP hS1.inv hgf.1 hgf.2;have hrow:=SF (iF (w.s (!k)) (dS rest 0)) f;have hev:=acV (iF (w.s (!k)) (dS rest 0)) hgf.2 (by simpa using hx);have acA:=Yo hS1.inv hgf.2;rw[hin]at hI hlen;unfold rG;rw[hin];have hreq:IW (iF (w.s (!k)) (dS rest 0)) (dY (iF (w.s (!k)) (dS rest 0)) f).1:=Yn hS1.inv hgf.2 (by simpa using hx);have hS2:bj (dY (iF (w.s (!k)) (dS rest 0)) f).1:=hS1.rows hI hrow hreq;obtain⟨l2,p0,p1,p2⟩:=q1.adds (!k) (m':=(dY (iF (w.s (!k)) (dS rest 0)) f).1) hS2 (by rw[hm'];exact hadd) (g:=gP (dY (iF (w.s (!k)) (dS rest 0)) f).1-gP (iF (w.s (!k)) (dS rest 0))) (by rw[hm'];omega);rw[yg]at p1 p2;rw[hm']at p0;have hw2:=eU (w.iQ k ps) (!k) (dY (iF (w.s (!k)) (dS rest 0)) f).1;rw[Bool.not_not,(jD w k k ps).1]at hw2;have hArr:Rb L w (!k) f rest (iF (w.s (!k)) (dS rest 0)) ((w.iQ k ps).dz (!k) (dY (iF (w.s (!k)) (dS rest 0)) f).1):=by
    refine⟨by rw[Bool.not_not];exact hL,by simpa using hx,rfl,⟨_,hS1.inv⟩,⟨_,hI⟩,hS1.di,h.role (!k),hgf.1.xQ,by have:=hgf.1.len;omega,fun j v c hc=>?_,hw2.1,by rw[Bool.not_not];exact hw2.2,by cases k<;>rfl,by cases k<;>rfl⟩
    obtain⟨c1,c2⟩:=(fZ (h.side j).inv.nQ).1 hc;have:=(jG ((h.side j).inv.oZ c c1)).1;rw[c2]at this;exact this
   have hO0:(iF (w.s (!k)) (dS rest 0)).Out=(w.s (!k)).Out:=rfl
   match hE:(dY (iF (w.s (!k)) (dS rest 0)) f).2,hlen with
   | [],_=>
     refine⟨_,_,p1,?_,(Qu _).1,(Qu _).2,fun hCI=>?_⟩
     .grind
     .have hg:=hCI.arr hArr;unfold Goal nL at hg;rw[hE,Bool.not_not]at hg;have:=hg l2 (by show(((w.iQ k ps).dz (!k) _).s (!k)).Out=_;rw[hw2.1];exact p0);rw[gG];exact this
   | [x],_=>
     obtain⟨e1,e2⟩:=hev x (by rw[hE];simp);obtain⟨l3,t0,t1,t2,t4⟩:=RH p1 (!k) x e1 (by rw[(eU _ (!k) _).1];have:=hI.jV;omega);refine⟨_,_,t1,?_,?_,?_,fun hCI=>?_⟩
     .grind
     .grind
     .grind
     .have hg:=hCI.arr hArr;unfold Goal nL at hg;rw[hE,Bool.not_not]at hg;have:=hg (l2++l3) (by
       show((dH ((w.iQ k ps).dz (!k) _) (!k) x).s (!k)).Out=_;rw[t0,(eU _ (!k) _).1,p0,List.append_assoc])
      rw[Ov,iC,gG,List.append_assoc];exact this
 .have hin:ED (w.s (!k)) p=(iF (w.s (!k)) (dS (L k) u),[]):=by
   unfold ED iF;rw[hW.asm,Ug]
  rw[Ug]at hval;obtain⟨q1,q2⟩:=h.base k acF hW.good (fun e=>absurd e hne) hval;have hw1:((w.iQ k ps).dz (!k) (iF (w.s (!k)) (dS (L k) u))).qQ k ((L k).filter iN)=(w.iQ k ps).dz (!k) (iF (w.s (!k)) (dS (L k) u)):=by
   have e:(L k).filter iN=((w.iQ k ps).dz (!k) (iF (w.s (!k)) (dS (L k) u))).f k:=by
    rw[(jI _ (!k) k _).2,(jD w k k ps).2,hW.fix]
   rw[e];exact Fa _ k
  rw[hw1]at q1 q2;have harr:rG w k p ps=(w.iQ k ps).dz (!k) (iF (w.s (!k)) (dS (L k) u)):=by grind [rG]
  rw[harr];refine⟨_,_,q1,by omega,(Qu _).1,(Qu _).2,fun hS=>?_⟩;have hLk:at_ L k (L k)=L:=by
   funext j;rcases dx j k with hj|hj
   .rw[hj,iC]
   .rw[hj,gG]
  rw[hLk];refine hS.same (fun j=>?_) (by cases k<;>rfl) (by cases k<;>rfl)
  obtain⟨s1,s2⟩:=eU (w.iQ k ps) (!k) (iF (w.s (!k)) (dS (L k) u));rcases dx j k with hj|hj
  .grind [jD]
  .rw[hj,s1];rfl
open St Po Cx
def aP(w:Wr):Nat:=(w.a false).length+(w.a true).length
theorem vG w k:aP w=(w.a k).length+(w.a (!k)).length:=by
 cases k
 .rfl
 .grind [aP]
def rW(L:Bool->List bq)(w:Wr):Nat:=2*phi L w+27*aP w
theorem XM{k m}(h:MInv k m):27*m.Out.length<=QM m:=by
 have h1:=vE h;have h2:=Rs m.Out;have h3:gP m=(m.aj.map (l8 m)).sum+(m.Out.map Lm).sum:=rfl;have h4:27*m.Out.length+m.aS.toNat<=(m.Out.map fun f=>f.am.length+30).sum:=by
  cases ho:m.Out with
  | nil=>rw[h.pG ho];simp
  | cons f t=>
    have hs:=h.sent f t ho;have:30*t.length<=(t.map fun f=>f.am.length+30).sum:=by
     clear ho h hs h1 h2 h3
     induction t with
     | nil=>simp
     | cons g t ih=>
       simp only[mC,List.sum_cons,lC0];omega
    simp only[mC,List.sum_cons,lC0];omega
 omega
theorem Ord.few{L r w}(h:Ord L r w)k:27*(w.s k).Out.length<=phi L w:=by
 have:=XM (h.side k).inv;rw[sS L w k];omega
theorem mR{r}k:∀n L w y,Ord L r w->phi L w<=100000000->∃L',Ord L' r (dK n w k y).1/\phi L' (dK n w k y).1<=phi L w/\rW L' (dK n w k y).1<=rW L w/\(dK n w k y).1.a (!k)=w.a (!k)/\((dK n w k y).2=true->y=true\/rW L' (dK n w k y).1+27<=rW L w)/\((dK n w k y).2=false->0<n->(dK n w k y).1.a k=w.a k/\((dK n w k y).1.s k).Out=[]/\Idle ((dK n w k y).1.s k))/\(Cj L w->Cj L' (dK n w k y).1)
 | 0,L,w,y,h,_=>⟨L,h,lR _,lR _,rfl,fun e=>.inl e,fun _ h=>absurd h (Nat.lt_irrefl 0),id⟩
 | n+1,L,w,y,h,hp=>by
   have hf:=h.few k;obtain⟨L0,c1,c2,_,_⟩:=h.pre k (by omega);have hf2:=c1.few k;rw[(eU w k _).1]at hf2;obtain⟨L1,q1,_,q3,q9,q4⟩:=h.jv k (by omega) (by omega);unfold dK;rcases q4 with⟨t1,t2,t3⟩|⟨t1,t2,t3,t4⟩
   .rw[pG0 t1];obtain⟨L2,p1,p2,p3,p4,p5,p6,p7⟩:=mR k n L1 (Sy.jv w k).1 true q1 (by omega);have e1:=vG w k;have e2:=vG (Sy.jv w k).1 k;rw[q3,t3]at e2;unfold rW at p3 p5 |-;refine⟨L2,p1,by omega,by omega,p4.trans q3,fun _=>.inr (by omega),fun e hn=>?_,fun hP=>p7 (q9 hP)⟩;exfalso;have:∀(n:Nat) (w:Wr),(dK n w k true).2=true:=by
     intro n
     induction n with
     | zero=>intro w;rfl
     | succ n ih=>
       intro w;unfold dK;split
       .exact ih _
       .rfl
    rw[this]at e;cases e
   .grind [vG,rW,phi,aP]
theorem kg k:∀n L r w,Ord L r w->phi L w<=100000000->∃L' r',Ord L' r' (cK n w k)/\phi L' (cK n w k)<=phi L w/\rW L' (cK n w k)+27*min n (w.a k).length<=rW L w/\(cK n w k).a (!k)=w.a (!k)/\((cK n w k).a k).length+min n (w.a k).length=(w.a k).length/\(Cj L w->Cj L' (cK n w k))
 | 0,L,r,w,h,_=>⟨L,r,h,lR _,by unfold cK;omega,rfl,by unfold cK;omega,id⟩
 | n+1,L,r,w,h,hp=>by
   unfold cK;cases ha:w.a k with
   | nil=>exact⟨L,r,h,lR _,by simp,rfl,by simp[ha],id⟩
   | cons p ps=>
     simp only
     have hf:=h.few (!k);obtain⟨L1,r1,q1,q2,q3,q4,q9⟩:=h.arr k ha (by omega);obtain⟨L2,r2,p1,p2,p3,p4,p5,p7⟩:=kg k n L1 r1 (rG w k p ps) q1 (by omega);have e1:=vG w k;have e2:=vG (rG w k p ps) k;rw[ha,lC0]at e1;rw[q3,q4]at e2;rw[q3]at p3 p5;unfold rW at p3 |-;refine⟨L2,r2,p1,by omega,?_,p4.trans q4,?_,fun hP=>p7 (q9 hP)⟩
     .grind
     .grind
open St Po Cx
theorem ze w k:(Sy.jv w k).1.s (!k)=w.s (!k):=by
 unfold Sy.jv;split
 .grind [jD,eU]
 .exact(eU w k _).2
theorem za k:∀n w y,(dK n w k y).1.s (!k)=w.s (!k)
 | 0,_,_=>rfl
 | n+1,w,y=>by
   unfold dK;split
   .rw[za k n];exact ze w k
   .exact ze w k
def GY(w:Wr):Wr:=cK 100 (cK 100 w false) true
def yA(w:Wr):Wr×Bool:=dK 20 (GY w) false false
def iL(w:Wr):Wr×Bool:=dK 20 (yA w).1 true false
def wE(w:Wr):Bool:=!(yA w).2&&(!(iL w).2&&(((iL w).1.a false).length+((iL w).1.a true).length==0))
theorem Fq{L r w}(h:Ord L r w)(hp:phi L w<=100000000):∃L' r',Ord L' r' (iL w).1/\phi L' (iL w).1<=phi L w/\(wE w=false->rW L' (iL w).1+27<=rW L w)/\(wE w=true->∀k,(iL w).1.a k=[]/\((iL w).1.s k).Out=[]/\Idle ((iL w).1.s k))/\(Cj L w->Cj L' (iL w).1):=by
 obtain⟨L1,r1,a1,a2,a3,a4,a5,a9⟩:=kg false 100 L r w h hp;obtain⟨L2,r2,b1,b2,b3,b4,b5,b9⟩:=kg true 100 L1 r1 (cK 100 w false) a1 (by omega);obtain⟨L3,c1,c2,c3,c4,c5,c6,c9⟩:=mR false 20 L2 (GY w) false b1 (by unfold GY;omega);obtain⟨L4,d1,d2,d3,d4,d5,d6,d9⟩:=mR true 20 L3 (yA w).1 false c1 (by unfold yA;unfold GY at c2 |-;omega);have e3:(iL w).1=(dK 20 (yA w).1 true false).1:=rfl;have e2:(yA w).1=(dK 20 (GY w) false false).1:=rfl;rw[<-e2]at c2 c3 c4 c5 c6;rw[<-e3]at d1 d2 d3 d4 d5 d6;rw[show cK 100 (cK 100 w false) true=GY w from rfl]at b2 b3 b4 b5;rw[show(dK 20 (GY w) false false).2=(yA w).2 from rfl]at c5 c6;rw[show(dK 20 (yA w).1 true false).2=(iL w).2 from rfl]at d5 d6;simp only[Bool.not_false,Bool.not_true]at a4 b4 c4 d4;refine⟨L4,r2,d1,by omega,fun hr=>?_,fun hr=>?_,fun hP=>d9 (c9 (b9 (a9 hP)))⟩
 .cases ha:(yA w).2 with
  | true=>
    rcases c5 ha with q|q
    .cases q
    .omega
  | false=>
    cases hb:(iL w).2 with
    | true=>
      rcases d5 hb with q|q
      .cases q
      .omega
    | false=>
      obtain⟨f1,_⟩:=c6 ha (by omega);obtain⟨f2,_⟩:=d6 hb (by omega);unfold wE at hr;rw[ha,hb]at hr;have hz:((iL w).1.a false).length+((iL w).1.a true).length≠0:=by simpa using hr
      rw[f2,d4,c4,f1]at hz;rw[a4]at b5 b3;rw[b4]at hz;omega
 .unfold wE at hr;simp only[Bool.and_eq_true,Bool.not_eq_true',beq_iff_eq]at hr;obtain⟨ha,hb,hz⟩:=hr;obtain⟨_,g1⟩:=c6 ha (by omega);obtain⟨_,g2⟩:=d6 hb (by omega);intro k;cases k with
  | false=>
    refine⟨List.eq_nil_of_length_eq_zero (by omega),?_⟩;have:=za true 20 (yA w).1 false;rw[<-e3]at this;rw[show((iL w).1.s false)=(yA w).1.s false from this];exact g1
  | true=>exact⟨List.eq_nil_of_length_eq_zero (by omega),g2⟩
def ny:Nat->Wr->Wr×Bool
 | 0,w=>(w,false)
 | n+1,w=>if wE w=true then((iL w).1,true)else ny n (iL w).1
theorem J3:∀n L r w,Ord L r w->phi L w<=100000000->rW L w<27*n->Cj L w->(ny n w).2=true/\∃r',Ord (fun _=>[]) r' (ny n w).1/\Cj (fun _=>[]) (ny n w).1/\∀k,Idle ((ny n w).1.s k)
 | 0,_,_,_,_,_,h,_=>by omega
 | n+1,L,r,w,h,hp,hm,hC=>by
   obtain⟨L',r',q1,q2,q3,q4,q9⟩:=Fq h hp;unfold ny;by_cases hr:wE w=true
   .rw[pG0 hr];have hnil:L'=fun _=>[]:=funext fun k=>by
     obtain⟨k1,k2,_⟩:=q4 hr k;have hfl:=(q1.way k).flow;rw[k1,k2]at hfl;exact Us hfl
    rw[hnil]at q1 q9;exact⟨rfl,r',q1,q9 hC,fun k=>(q4 hr k).2.2⟩
   .rw[nG0 hr];have:=q3 (by simpa using hr);exact J3 n L' r' (iL w).1 q1 (by omega) (by omega) (q9 hC)
open St Po Cx
structure Ac where
 bj:Int
 ae:Int
 N:Int
 bT:Int
 aY:Int
 dh:Int
 cZ:Int
 aA:Int
 ax:List Int
 ao:jP
def aU(x:Ac):Bool:=decide (x.bj%2=1)
def nM(w:Wr)(x:Ac):Wr:=
 if x.ae=0 then(if (jw (w.s (aU x)) x.bT x.dh x.cZ x.aA).2.2=0 then {w.dz (aU x) (jw (w.s (aU x)) x.bT x.dh x.cZ x.aA).1 with cn:=aH w.cn (slot (aU x) (jw (w.s (aU x)) x.bT x.dh x.cZ x.aA).2.1) true}else w.dz (aU x) (jw (w.s (aU x)) x.bT x.dh x.cZ x.aA).1)
 else if x.ae=1 then w.dz (aU x) (xk (w.s (aU x)) x.aY).1
 else if x.ae=2 then(if (jf (w.s (aU x)) x.aY x.ax).2=0 then {w.dz (aU x) (jf (w.s (aU x)) x.aY x.ax).1 with sd:=aH w.sd (slot (aU x) x.aY) (w.sd (slot (aU x) x.aY)++[x.ax])}else w.dz (aU x) (jf (w.s (aU x)) x.aY x.ax).1)
 else if x.ae=3 then(if (wY (w.s (aU x)) x.aY x.ax).2=0 then(w.dz (aU x) (wY (w.s (aU x)) x.aY x.ax).1).qQ (aU x) (w.f (aU x)++[⟨x.aY,x.ax⟩])else w.dz (aU x) (wY (w.s (aU x)) x.aY x.ax).1)
 else if x.ae=4 then(if (pQ (w.s (aU x)) x.ao).2=0 then {w.dz (aU x) (pQ (w.s (aU x)) x.ao).1 with par:=w.par+1}else w.dz (aU x) (pQ (w.s (aU x)) x.ao).1)
 else if x.ae=5 then(dK x.N.toNat w (aU x) false).1
 else if x.ae=6 then cK x.N.toNat w (aU x)
 else if x.ae=7 then w.dz (aU x) {w.s (aU x)with bh:=lvl x.N}
 else w
structure Ze(x:Ac):Prop where
 psm:0<=x.bT/\x.bT<=65535
 len:x.ax.length<=4096
 xQ:∀b∈x.ax,Byte b
def cost(x:Ac):Nat:=5*x.ax.length+314
theorem KW w k m:aP (w.dz k m)=aP w:=by cases k<;>rfl
theorem VH w k l:aP (w.qQ k l)=aP w:=by cases k<;>rfl
theorem Ord.aw{L r w}(h:Ord L r w)k{f}(hg:Good f)(hc:f.aY=4\/f.aY=6):Ord (at_ L k (L k++[f])) r ((w.dz k (qd (w.s k) f.aY f.am)).qQ k (w.f k++[f]))/\phi (at_ L k (L k++[f])) ((w.dz k (qd (w.s k) f.aY f.am)).qQ k (w.f k++[f]))<=phi L w+f.am.length+30:=by
 have hS:=h.side k;have hW:=h.way k;obtain⟨s1,s2⟩:=eU w k (qd (w.s k) f.aY f.am);have hI:MInv ((w.s k).Out.length+1) (qd (w.s k) f.aY f.am):=hS.inv.qd hg.len hg.mO;have hfx:iN f=true:=by unfold iN;simpa using hc
 have hX:frX f=0:=by unfold frX;rw[pG0 hc]
 obtain⟨f1,f2⟩:=UC (w.dz k (qd (w.s k) f.aY f.am)) k (w.f k++[f]);refine⟨⟨fun j=>?_,fun j=>?_,?_,fun j=>?_⟩,?_⟩
 .rw[(iX _ k j _).1];rcases dx j k with hj|hj
  .rw[hj,s1];exact⟨MInv.tight hI,hS.xQ,hS.di⟩
  .rw[hj,s2];exact h.side _
 .rw[(iX _ k j _).1,(iX _ k (!j) _).1,(iX _ k j _).2,(jI w k j _).1];rcases dx j k with hj|hj
  .subst hj;rw[iC,f1,s1,s2];refine⟨wX _ _ _ _ _ [f] hW.flow,?_,fun g hq=>?_,?_,fun e=>?_⟩
   .rw[hW.asm];cases hL:L j with
    | cons g t=>rfl
    | nil=>rw[hW.emp hL];rfl
   .rcases List.mem_append.1 hq with hq|hq
    .exact hW.good g hq
    .rw[mS]at hq;subst hq;exact⟨hg,fun e=>by omega⟩
   .rw[List.filter_append,hW.fix];simp[List.filter_cons,hfx]
   .simp at e
  .subst hj;rw[gG,f2,Bool.not_not,s1,s2,(jI w k (!k) _).2];have:=h.way (!k);rw[Bool.not_not]at this;exact this.right rfl
 .rw[(l7 _ k (w.s k) [] _).2.2,(l7 w k _ [] []).1];exact h.ok
 .rw[(iX _ k j _).1];rcases dx j k with hj|hj
  .rw[hj,s1];exact h.role k
  .rw[hj,s2];exact h.role _
 .rw[sS _ _ k,sS L w k,(iX _ k k _).1,(iX _ k (!k) _).1,s1,s2,iC,gG,Gs,vL,hX];have e1:=vE hS.inv;have e2:=vE hI;have e3:=LZ (w.s k) f.aY f.am;have e4:Lm ⟨f.aY,f.am⟩=f.am.length+30:=by
   show f.am.length+30+27*frX f=_;rw[hX]
  rw[show(qd (w.s k) f.aY f.am).Out=(w.s k).Out++[f]from rfl,Gs,vL,hX,show(qd (w.s k) f.aY f.am).aS=(w.s k).aS from rfl]at e2;have e5:xs []=0:=rfl;omega
theorem X6{k m}(h:MInv k m)n:MInv k {m with bh:=n}:=
 ⟨h.Mk,h.Qi,h.next,h.ask,h.yV,h.z8,h.nQ,h.oZ,h.yO,h.cnt,h.out,h.pG,h.sent,h.asm,h.jV⟩
theorem OC{L r w}(h:Ord L r w)(hp:phi L w<=100000000){x}(hx:Ze x):∃L' r',Ord L' r' (nM w x)/\phi L' (nM w x)<=phi L w+cost x/\rW L' (nM w x)<=rW L w+2*cost x/\(Cj L w->Cj L' (nM w x)):=by
 have hf:=h.few (aU x);have hS:=h.side (aU x);have hrg:∀j v c,(vw (w.s j)).ch v=some c->64<=v/\v<=127:=fun j v c hc=>by
  obtain⟨c1,c2⟩:=(fZ (h.side j).inv.nQ).1 hc;have:=(jG ((h.side j).inv.oZ c c1)).1;rw[c2]at this;exact this
 have key:∀(m':aJ) (g:Nat),g<=cost x->bj m'->Adds (w.s (aU x)) m'->gP m'<=gP (w.s (aU x))+g->∀w',w'.s0=(w.dz (aU x) m').s0->w'.s1=(w.dz (aU x) m').s1->w'.a0=(w.dz (aU x) m').a0->w'.a1=(w.dz (aU x) m').a1->w'.f0=(w.dz (aU x) m').f0->w'.f1=(w.dz (aU x) m').f1->w'.MI=(w.dz (aU x) m').MI->(Cj L w->w'.s (aU x)=m'->w'.s (!aU x)=w.s (!aU x)->xO L (aU x) (w.s (aU x)) w')->∃L' r',Ord L' r' w'/\phi L' w'<=phi L w+cost x/\rW L' w'<=rW L w+2*cost x/\(Cj L w->Cj L' w'):=fun m' g hg hs ha hpt w' b1 b2 b3 b4 b5 b6 b7 b8=>by
  obtain⟨l,q0,q1,q2⟩:=h.adds (aU x) hs ha hpt;obtain⟨p1,p2,p3⟩:=q1.same b1 b2 b3 b4 b5 b6 b7;have es:w'.s=(w.dz (aU x) m').s:=by funext j;cases j<;>simp[Wr.s,b1,b2]
  obtain⟨s1,s2⟩:=eU w (aU x) m';refine⟨_,r,p1,by omega,?_,fun hS=>b8 hS (by rw[es,s1]) (by rw[es,s2]) l (by rw[es,s1];exact q0)⟩;have:aP w'=aP w:=by grind [aP,KW,aU]
  unfold rW;omega
 have hcost:cost x=5*x.ax.length+314:=rfl;unfold nM;split
 .obtain⟨_,hI⟩:=vv hS.inv (by omega) x.bT x.dh x.cZ x.aA hx.psm;have ha:=QX hS.inv x.bT x.dh x.cZ x.aA hx.psm;have hs:=hS.rows hI (PD _ _ _ _ _) (SY _ _ _ _ _);have hq:=U6 (w.s (aU x)) x.bT x.dh x.cZ x.aA;split
  .exact key _ 314 (by omega) hs ha hq _ rfl rfl rfl rfl rfl rfl rfl fun hC e1 e2=>K3 hC hS.inv hx.psm e1 e2 (by cases aU x<;>rfl) (by cases aU x<;>rfl)
  .exact key _ 314 (by omega) hs ha hq _ rfl rfl rfl rfl rfl rfl rfl fun hC e1 e2=>K3 hC hS.inv hx.psm e1 e2 (by cases aU x<;>rfl) (by cases aU x<;>rfl)
 split
 .obtain⟨_,hI⟩:=oW hS.inv (by omega) x.aY;exact key _ 0 (by omega) (hS.rows hI (SG _ _) (Xo _ _)) (VQ hS.inv x.aY) (YB _ _) _ rfl rfl rfl rfl rfl rfl rfl fun hC e1 e2=>Y2 hC hS.inv e1 e2 (by cases aU x<;>rfl) (by cases aU x<;>rfl)
 split
 .obtain⟨_,hI⟩:=BR hS.inv (by omega) x.aY x.ax (by have:=hx.len;omega);have ha:=QS (w.s (aU x)) x.aY x.ax;have hq:=R9 (w.s (aU x)) x.aY x.ax;have hs:bj (jf (w.s (aU x)) x.aY x.ax).1:=⟨MInv.tight hI,fun c hc s hs=>by
   revert hc
   unfold jf;rcases dD (w.s (aU x)) x.aY with⟨hn,_⟩|⟨i,d,hn,_,hd,_⟩
   .rw[hn];exact fun hc=>hS.xQ c hc s hs
   .rw[hn];simp only
    split
    .exact fun hc=>hS.xQ c hc s hs
    split
    .intro hc;rcases List.mem_or_eq_of_mem_set hc with hc|rfl
     .exact hS.xQ c hc s hs
     .revert hs
      unfold LX;split
      .exact fun hs=>hS.xQ d (eO hd) s hs
      split
      .exact fun hs=>hS.xQ d (eO hd) s hs
      split
      .exact fun hs=>hS.xQ d (eO hd) s hs
      .intro hs;rcases List.mem_append.1 hs with hs|hs
       .exact hS.xQ d (eO hd) s hs
       .rw[mS]at hs;subst hs;exact hx.xQ
    .exact fun hc=>hS.xQ c hc s hs,(Si (w.s (aU x)) x.aY x.ax).req.ids (by have:=hS.inv.rH;omega) hS.inv.next hS.di⟩
  split
  .rename_i hz;exact key _ (5*x.ax.length+94) (by omega) hs ha (by omega) _ rfl rfl rfl rfl rfl rfl rfl fun hC e1 e2=>VY hC hS.inv hz e1 e2 (by cases aU x<;>rfl) (by cases aU x<;>rfl) hrg
  .rename_i hz;exact key _ (5*x.ax.length+94) (by omega) hs ha (by omega) _ rfl rfl rfl rfl rfl rfl rfl fun hC e1 e2=>QZ hC hz e1 e2 (by cases aU x<;>rfl) (by cases aU x<;>rfl)
 split
 .by_cases hz:(wY (w.s (aU x)) x.aY x.ax).2=0
  .rw[pG0 hz];have hq:(x.aY=4\/x.aY=6)/\(wY (w.s (aU x)) x.aY x.ax).1=qd (w.s (aU x)) x.aY x.ax:=by grind [wY]
   rw[hq.2];obtain⟨q1,q2⟩:=h.aw (aU x) (f:=⟨x.aY,x.ax⟩) ⟨by simp only;omega,hx.len,hx.xQ⟩ hq.1;refine⟨_,_,q1,by simp only at q2;omega,?_,fun hC=>Y1 hC (f:=⟨x.aY,x.ax⟩) (by unfold iN;simpa using hq.1) ?_ ?_ ?_ ?_⟩
   rotate_left
   .grind [iX,aU,eU]
   .grind [iX,aU,eU]
   .cases aU x<;>rfl
   .cases aU x<;>rfl
   unfold rW;rw[VH,KW];simp only at q2;omega
  .grind [wY,aU,ug]
 split
 .obtain⟨_,hI⟩:=yE hS.inv (by omega) x.ao;have ha:=VO hS.inv x.ao;have hs:=hS.rows hI (SE _ _) (Xn _ _);have hq:=XK (w.s (aU x)) x.ao;split
  .exact key _ 98 (by omega) hs ha hq _ rfl rfl rfl rfl rfl rfl rfl fun hC e1 e2=>OB hC hS.inv (h.role _) e1 e2 (by cases aU x<;>rfl) (by cases aU x<;>rfl)
  .exact key _ 98 (by omega) hs ha hq _ rfl rfl rfl rfl rfl rfl rfl fun hC e1 e2=>OB hC hS.inv (h.role _) e1 e2 (by cases aU x<;>rfl) (by cases aU x<;>rfl)
 split
 .obtain⟨L',q1,q2,q3,_,_,_,q9⟩:=mR (aU x) x.N.toNat L w false h hp;exact⟨L',r,q1,by omega,by omega,q9⟩
 split
 .obtain⟨L',r',q1,q2,q3,_,_,q9⟩:=kg (aU x) x.N.toNat L r w h hp;exact⟨L',r',q1,by omega,by omega,q9⟩
 split
 .exact key {w.s (aU x)with bh:=lvl x.N} 0 (by omega) ⟨X6 hS.inv _,hS.xQ,hS.di⟩ (.of ⟨rfl,rfl,rfl,rfl⟩ rfl) (lR _) _ rfl rfl rfl rfl rfl rfl rfl fun hC e1 e2=>iO hC (by rw[e1];exact⟨rfl,rfl⟩) e2 (by cases aU x<;>rfl) (by cases aU x<;>rfl)
 .grind
end Sy
theorem MInv.leng{k m}(h:MInv k m)n:MInv k {m with Length:=n}:=
 ⟨h.Mk,h.Qi,h.next,h.ask,h.yV,h.z8,h.nQ,h.oZ,h.yO,h.cnt,h.out,h.pG,h.sent,h.asm,h.jV⟩
theorem NH{role l}(h:(iJ role l).2=0):MInv 0 (iJ role l).1:=by
 unfold iJ at h |-;split at h
 .cases h
 split at h
 .cases h
 rename_i h1 h2;split at h
 .rename_i h3;rw[nG0 h1,nG0 h2,pG0 h3];have hl:∀(n k:Nat),k+n=l.length->CW l k n=0->∀i,k<=i->i<l.length->∀x,l[i]?=some x->uY (l.take i) x=0:=by
   intro n
   induction n with
   | zero=>intro k hk _ i h1 h2;omega
   | succ n ih=>
     intro k hk hc i h1 h2 x hx;have hkx:l[k]?=some l[k]:=gE (by omega);rw[FN hkx]at hc;split at hc
     .rename_i h0;by_cases hi:i=k
      .grind
      .exact ih (k+1) (by omega) hc i (by omega) h2 x hx
     .grind
  have hu:gK (⟨role,0,l,[],[],1,⟨false,[]⟩,[],0,27⟩:aJ)=0:=by
   unfold gK;rw[List.filter_eq_nil_iff.2 (fun v _=>by simp[gB,YR]),List.length_nil]
  refine⟨by simp only;omega,fun x hx=>?_,by simp only;omega,by simp,by simp,by simp,by simp,by simp,by simp,(by simp only[hu];omega),by simp,fun _=>rfl,by simp,Fr.BG,by simp⟩;obtain⟨i,hi,rfl⟩:=List.mem_iff_getElem.1 hx;have:=hl l.length 0 (by omega) h3 i (by omega) hi _ (gE hi);unfold uY at this;split at this
  .cases this
  split at this
  .cases this
  split at this
  .cases this
  rename_i h5;simp only[Bool.not_eq_false,Bool.and_eq_true]at h5;exact⟨h5.1.1.1,h5.1.1.2,h5.1.2⟩
 .grind
namespace Sy
open St Po Cx
def jQ(l0 l1:List fI)(n0 n1:Int):Wr:=⟨{(iJ 0 l0).1 with Length:=n0},{(iJ 1 l1).1 with Length:=n1},[],[],fun _=>[],[],[],fun _=>false,0,false,false,false⟩
theorem HV{role l}(h:(iJ role l).2=0):(iJ role l).1=⟨role,0,l,[],[],1,⟨false,[]⟩,[],0,27⟩:=by grind [iJ]
theorem Km{l0 l1}n0 n1(h0:(iJ 0 l0).2=0)(h1:(iJ 1 l1).2=0):Ord (fun _=>[]) (fun _=>0) (jQ l0 l1 n0 n1)/\phi (fun _=>[]) (jQ l0 l1 n0 n1)=0/\aP (jQ l0 l1 n0 n1)=0:=by
 have i0:=(NH h0).leng n0;have i1:=(NH h1).leng n1;have e0:=HV h0;have e1:=HV h1;unfold jQ;rw[e0]at i0 |-;rw[e1]at i1 |-;refine⟨⟨fun k=>?_,fun k=>?_,rfl,fun k=>?_⟩,rfl,rfl⟩
 .cases k
  .exact⟨MInv.tight i0,(fun c hc=>by cases hc),List.nodup_nil⟩
  .exact⟨MInv.tight i1,(fun c hc=>by cases hc),List.nodup_nil⟩
 .cases k
  .exact⟨⟨rfl,rfl⟩,rfl,(fun f hf=>by cases hf),rfl,fun _=>rfl⟩
  .exact⟨⟨rfl,rfl⟩,rfl,(fun f hf=>by cases hf),rfl,fun _=>rfl⟩
 .cases k<;>rfl
theorem DC:∀(l:List Ac) L r w,Ord L r w->(∀x∈l,Ze x)->phi L w+(l.map cost).sum<=100000000->∃L' r',Ord L' r' (l.foldl nM w)/\phi L' (l.foldl nM w)<=phi L w+(l.map cost).sum/\rW L' (l.foldl nM w)<=rW L w+2*(l.map cost).sum/\(Cj L w->Cj L' (l.foldl nM w))
 | [],L,r,w,h,_,_=>⟨L,r,h,by simp,by simp,id⟩
 | x::l,L,r,w,h,hx,hp=>by
   simp only[mC,List.sum_cons]at hp;obtain⟨L1,r1,q1,q2,q3,q4⟩:=OC h (by omega) (hx x (by simp));obtain⟨L2,r2,p1,p2,p3,p4⟩:=DC l L1 r1 (nM w x) q1 (fun y hy=>hx y (by simp[hy])) (by omega);simp only[mC,List.sum_cons,List.foldl_cons];exact⟨L2,r2,p1,by omega,by omega,fun hP=>p4 (q4 hP)⟩
theorem Dr:∀l:List Ac,(l.map cost).sum=5*(l.map fun x=>x.ax.length).sum+314*l.length
 | []=>rfl
 | x::l=>by
   have:=Dr l;simp only[mC,List.sum_cons,lC0];have:cost x=5*x.ax.length+314:=rfl;omega
theorem Yg{l0 l1}n0 n1(h0:(iJ 0 l0).2=0)(h1:(iJ 1 l1).2=0):Cj (fun _=>[]) (jQ l0 l1 n0 n1):=by
 have hv:∀j,vw ((jQ l0 l1 n0 n1).s j)=⟨fun _=>none,fun _=>False,fun _=>[]⟩:=fun j=>by
  have e0:=HV h0;have e1:=HV h1;unfold jQ;rw[e0,e1];cases j<;>exact vN rfl (fun _=>⟨(fun q=>nomatch q.1),False.elim⟩) rfl
 refine⟨fun _=>⟨fun _=>none,fun _=>False,fun _=>[]⟩,fun j=>?_,fun j=>?_,(fun j x _ _ z=>nomatch z),rfl⟩
 .rw[hv,hv];exact⟨.nil,⟨(fun _ _ z=>nomatch z),(fun _ _ _ _ z=>nomatch z),(fun _ z=>z.elim),(fun _ _ z=>z.elim),(fun _ _ z=>z.elim),(fun _ z=>z.elim),fun _ _ z=>nomatch z⟩,fun r=>⟨False.elim,fun z=>nomatch z.2.2⟩,.nil,(fun _ z=>z.elim),(fun _ _ z=>nomatch z),fun _ _ z=>nomatch z⟩
 .rw[hv];exact fun _ _ z=>nomatch z
theorem EU{l0 l1}n0 n1(h0:(iJ 0 l0).2=0)(h1:(iJ 1 l1).2=0)(l:List Ac)(hx:∀x∈l,Ze x)(hl:l.length<=60)(hb:(l.map fun x=>x.ax.length).sum<=4096):(ny 20000 (l.foldl nM (jQ l0 l1 n0 n1))).2=true/\∃r,Ord (fun _=>[]) r (ny 20000 (l.foldl nM (jQ l0 l1 n0 n1))).1/\Cj (fun _=>[]) (ny 20000 (l.foldl nM (jQ l0 l1 n0 n1))).1/\∀k,Idle ((ny 20000 (l.foldl nM (jQ l0 l1 n0 n1))).1.s k):=by
 obtain⟨i1,i2,i3⟩:=Km n0 n1 h0 h1;have hc:=Dr l;obtain⟨L,r,q1,q2,q3,q4⟩:=DC l _ _ _ i1 hx (by omega);have hm:rW (fun _=>[]) (jQ l0 l1 n0 n1)=0:=by unfold rW;omega
 exact J3 20000 L r _ q1 (by omega) (by omega) (q4 (Yg n0 n1 h0 h1))
open St Po
structure Rel(n:Nat)(w:Wr)(t:bA):Prop where
 ai:t.ai=(w.s0,w.s1)
 aP:t.aP=(w.a0,w.a1)
 aw:t.aw.1.length<=n/\t.aw.2.length<=n
 sd:t.au=w.sd
 rows:∀j,(w.sd j).length<=n
 dat:t.data=w.dat
theorem Rel.more{n n' w t}(h:Rel n w t)(hn:n<=n'):Rel n' w t:=⟨h.ai,h.aP,by have:=h.aw;omega,h.sd,fun j=>Nat.le_trans (h.rows j) hn,h.dat⟩
theorem Rel.like{n w w' t t'}(h:Rel n w t)(h1:w'.s0=w.s0/\w'.s1=w.s1/\w'.a0=w.a0/\w'.a1=w.a1/\w'.sd=w.sd/\w'.dat=w.dat)(h2:t'.ai=t.ai/\t'.aP=t.aP/\t'.au=t.au/\t'.data=t.data)(h3:t'.aw.1.length<=n/\t'.aw.2.length<=n):Rel n w' t':=by
 obtain⟨a1,a2,a3,a4,a5,a6⟩:=h1;obtain⟨b1,b2,b3,b4⟩:=h2;exact⟨by rw[b1,a1,a2];exact h.ai,by rw[b2,a3,a4];exact h.aP,h3,by rw[b3,a5];exact h.sd,by rw[a5];exact h.rows,by rw[b4,a6];exact h.dat⟩
theorem Zk w k{x}(h:x.ae=1\/x.ae=5\/(x.ae≠2/\x.ae≠3/\x.ae≠6)):(dH w k x).s0=w.s0/\(dH w k x).s1=w.s1/\(dH w k x).a0=w.a0/\(dH w k x).a1=w.a1/\(dH w k x).sd=w.sd/\(dH w k x).dat=w.dat:=by
 unfold dH Wr.qQ
 (repeat' split)<;>first|omega|exact⟨rfl,rfl,rfl,rfl,rfl,rfl⟩
theorem oh v:qb FF v=some (aL (iE v 64)):=rfl
theorem lM{v}(h:0<=v):IQ 64 (aL (iE v 64))=some (v%64).toNat:=by
 have:iE v 64=v%64:=by unfold iE;rw[Int.tmod_eq_emod_of_nonneg (by omega)]
 rw[this,i7];unfold IQ;rw[pG0 (by omega)]
theorem xZ{α}(x:α)l:sub (x::l) 1 (len (x::l))=some l:=by
 have:=lQ (x::l) 1 (x::l).length (by simp) (lR _);rw[List.take_length]at this;exact this
theorem lT{α}S i(x y:α):aH (aH S i x) i y=aH S i y:=by
 funext j;unfold aH;split<;>rfl
theorem Np{α}(S:Nat->α)i:aH S i (S i)=S:=by
 funext j;unfold aH;split
 .rename_i h;rw[h]
 .rfl
theorem uh{n α S}(h:∀j,(S j).length<=n)i{l:List α}(hl:l.length<=n):∀j,(aH S i l j).length<=n:=fun j=>by
 unfold aH;split
 .exact hl
 .exact h j
def Zp(k:Bool)(S:Nat->List (List Int))(x:iw)(c:aM):Bool:=c.ap==x.aY&&(match S (slot (!k) c.al)with
 | d::_=>str d==str x.bk
 | []=>false)
theorem KD{β B}{t:bA}{l:List aM}{p}{f:aM->β}{z}(hl:l.length<=16)(h1:∀(i:Nat) c,l[i]?=some c->B (t,(i:Int))=some (if p c=true then .done (f c)else .next (t,((i+1:Nat):Int))))(h0:B (t,(l.length:Int))=some (.done z)):iter B FF (t,0)=some (match l.find? p with
 | some c=>f c
 | none=>z):=by
 have key:∀(d F i:Nat),i+d=l.length->d<F->iter B F (t,(i:Int))=some (match (l.drop i).find? p with
  | some c=>f c
  | none=>z):=by
  intro d
  induction d with
  | zero=>
    intro F i h2 h3;obtain⟨F,rfl⟩:∃G,F=G+1:=⟨F-1,by omega⟩;rw[List.drop_of_length_le (by omega),show i=l.length by omega];exact bF h0
  | succ d ih=>
    intro F i h2 h3;obtain⟨F,rfl⟩:∃G,F=G+1:=⟨F-1,by omega⟩;have hi:i<l.length:=by omega
    have g2:=h1 i _ (gE hi);rw[List.drop_eq_getElem_cons hi,List.find?_cons];by_cases hp:p l[i]=true
    .rw[pG0 hp]at g2;rw[hp];exact bF g2
    .rw[nG0 hp]at g2;rw[show p l[i]=false by simpa using hp,bY g2];exact ih F (i+1) (by omega) (by omega)
 exact key l.length FF 0 (by omega) (by have:=FFk;omega)
theorem RI{t x kk}(hI:MInv kk t.ai.2){i:Nat}{c}(hc:t.ai.2.aj[i]?=some c) :
 Zy FF t x t (i:Int)=some (if Zp true t.au x c=true then .done (.inr {t with au:=aH t.au (slot (!true) c.al) (t.au (slot (!true) c.al)).tail})else .next (t,((i+1:Nat):Int))):=by
 have hcl:=hI.rE;have hi:i<t.ai.2.aj.length:=(gS.1 hc).1;have hr:=(jG (hI.oZ c (List.mem_of_getElem? hc))).2;have hw:aL ((i:Int)+1)=((i+1:Nat):Int):=wN i (by omega);have hsl:slot (!true) c.al=(c.al%64).toNat:=by simp[slot]
 have e:=Np t.au (c.al%64).toNat;unfold Zy;rw[i5];rw[aX hc,bs,oh,bs,lM (by omega),bs];unfold Zp q68;rw[hsl];rcases(by cases t.au (c.al%64).toNat with
  | nil=>exact .inl rfl
  | cons b r=>exact .inr ⟨b,r,rfl⟩:t.au (c.al%64).toNat=[]\/∃b r,t.au (c.al%64).toNat=b::r)with hrow | ⟨b,r,hrow⟩
 .rw[hrow]at e;simp only[hrow];rw[h9,f8,hw,lT,e]
 .rw[hrow]at e;simp only[hrow];by_cases hl:c.ap=x.aY
  .rw[pG0 (by simp[hl,len]<;>omega),show idx (b::r) 0=some b from rfl,bs,show qm FF b x.bk=some (str b==str x.bk)from rfl,bs]
   by_cases hs:(str b==str x.bk)=true
   .rw[pG0 hs,xZ,bs,pG0 (by simp only[hl,hs];simp),lT];rfl
   .rw[nG0 hs,nG0 (by simp only[hs];simp),hw,lT,e]
  .rw[nG0 (by simp[hl]),nG0 (by simp[hl]),hw,lT,e]
theorem Lx{n w t}(h:Rel n w t){kk}(hI:MInv kk (w.s true))(hk:kk<=900000000){x}(hc:x.ae=2\/x.ae=5->0<=x.aY) :
 ∃t',q3t FF t x=some t'/\Rel n (dH w true x) t':=by
 have hR:=h;obtain⟨e1,e2,e3,e4,e5,e6⟩:=h;have es:t.ai.2=w.s true:=by rw[e1];rfl
 have fin:∀t',(x.ae=1\/x.ae=5\/(x.ae≠2/\x.ae≠3/\x.ae≠6))->(t'.ai=t.ai/\t'.aP=t.aP/\t'.au=t.au/\t'.data=t.data)->(t'.aw.1.length<=n/\t'.aw.2.length<=n)->∃u,some t'=some u/\Rel n (dH w true x) u:=fun t' a b c=>⟨t',rfl,hR.like (Zk w _ a) b c⟩;unfold q3t;rw[oh,bs];unfold Wl;by_cases k2:x.ae=2
 .rw[pG0 (by simp[k2]),lM (hc (.inl k2)),bs];unfold dH;rw[pG0 k2,show slot true x.aY=64+(x.aY%64).toNat from by simp[slot]];exact⟨_,rfl,e1,e2,e3,by simp only[e4],uh e5 _ (Nat.zero_le _),e6⟩
 rw[nG0 (c:=(x.ae==2)=true) (by simpa using k2)];by_cases k5:x.ae=5
 .rw[pG0 (by simp[k5]),lM (hc (.inr k5)),bs];cases t.answer<;>exact fin _ (.inr (.inl k5)) ⟨rfl,rfl,rfl,rfl⟩ e3
 rw[nG0 (c:=(x.ae==5)=true) (by simpa using k5)];by_cases k1:x.ae=1
 .rw[pG0 (by simp[k1])];unfold q5r;cases hf:t.aw.1 with
  | nil=>
    rw[pG0 (by simp[len])];exact fin _ (.inl k1) ⟨rfl,rfl,rfl,rfl⟩ e3
  | cons f r=>
    have hr:r.length<=n:=by
     rw[hf]at e3;simp only[lC0]at e3;omega
    rw[f9,show idx (f::r) 0=some f from rfl,bs,bs];by_cases Ku:f.aY=x.aY
    .rw[nG0 (by simp[Ku]),show qm FF f.am x.bk=some (str f.am==str x.bk)from rfl,bs];cases str f.am==str x.bk with
     | true=>
       rw[f8,xZ,bs];exact fin _ (.inl k1) ⟨rfl,rfl,rfl,rfl⟩ ⟨hr,e3.2⟩
     | false=>exact fin _ (.inl k1) ⟨rfl,rfl,rfl,rfl⟩ e3
    .rw[pG0 (by simpa using Ku)];exact fin _ (.inl k1) ⟨rfl,rfl,rfl,rfl⟩ e3
 rw[nG0 (c:=(x.ae==1)=true) (by simpa using k1)];by_cases k3:x.ae=3
 .rw[pG0 (by simp[k3])];have hI':MInv kk t.ai.2:=by rw[es];exact hI
  have hcl:=hI'.rE;rw[KD (B:=fun s=>Zy FF t x s.1 s.2) hcl (fun i c q=>RI (x:=x) hI' q) (show Zy FF t x t _=some (.done (.inl t))from by
   unfold Zy;exact nG0 (by simp[len])),bs]
  have hs:Jy w true x.aY x.bk=t.ai.2.aj.find? (Zp true t.au x):=by
   rw[es,e4];rfl
  unfold dH;rw[nG0 k2,nG0 k5,nG0 k1,pG0 k3,hs];cases t.ai.2.aj.find? (Zp true t.au x)with
  | none=>exact⟨_,rfl,e1,e2,e3,e4,e5,rfl⟩
  | some c=>exact⟨_,rfl,e1,e2,e3,by simp only[e4],uh e5 _ (by have:=e5 (slot (!true) c.al);rw[List.length_tail];omega),e6⟩
 rw[nG0 (c:=(x.ae==3)=true) (by simpa using k3)];by_cases k6:x.ae=6
 .rw[pG0 (by simp[k6]),es,(Ch hI hk x.ID _).1,bs];unfold dH q7s q7r;rw[show iE x.ao.aO 2=x.ao.aO.tmod 2 from rfl,nG0 k2,nG0 k5,nG0 k1,nG0 k3,pG0 k6];by_cases h0:(l5 (w.s true) x.ID (x.ao.aO.tmod 2)).2=0
  .rw[nG0 (by simp[h0]),pG0 h0];exact⟨_,rfl,by simp only[e1];rfl,e2,e3,e4,e5,e6⟩
  .rw[pG0 (by simpa using h0),nG0 h0];exact⟨_,rfl,by simp only[e1];rfl,e2,e3,e4,e5,e6⟩
 rw[nG0 (c:=(x.ae==6)=true) (by simpa using k6)];by_cases k7:x.ae=7
 .rw[pG0 (by simp[k7])];exact fin _ (.inr (.inr ⟨k2,k3,k6⟩)) ⟨rfl,rfl,rfl,rfl⟩ e3
 .rw[nG0 (by simpa using k7)];exact fin _ (.inr (.inr ⟨k2,k3,k6⟩)) ⟨rfl,rfl,rfl,rfl⟩ e3
theorem RJ{t x kk}(hI:MInv kk t.ai.1){i:Nat}{c}(hc:t.ai.1.aj[i]?=some c) :
 Zw FF t x t (i:Int)=some (if Zp false t.au x c=true then .done (.inr {t with au:=aH t.au (slot (!false) c.al) (t.au (slot (!false) c.al)).tail})else .next (t,((i+1:Nat):Int))):=by
 have hcl:=hI.rE;have hi:i<t.ai.1.aj.length:=(gS.1 hc).1;have hr:=(jG (hI.oZ c (List.mem_of_getElem? hc))).2;have hw:aL ((i:Int)+1)=((i+1:Nat):Int):=wN i (by omega);have hsl:slot (!false) c.al=(64+(c.al%64).toNat):=by simp[slot]
 have e:=Np t.au (64+(c.al%64).toNat);unfold Zw;rw[i5];rw[aX hc,bs,oh,bs,lM (by omega),bs];unfold Zp q6a;rw[hsl];rcases(by cases t.au (64+(c.al%64).toNat)with
  | nil=>exact .inl rfl
  | cons b r=>exact .inr ⟨b,r,rfl⟩:t.au (64+(c.al%64).toNat)=[]\/∃b r,t.au (64+(c.al%64).toNat)=b::r)with hrow | ⟨b,r,hrow⟩
 .rw[hrow]at e;simp only[hrow];rw[h9,f8,hw,lT,e]
 .rw[hrow]at e;simp only[hrow];by_cases hl:c.ap=x.aY
  .rw[pG0 (by simp[hl,len]<;>omega),show idx (b::r) 0=some b from rfl,bs,show qm FF b x.bk=some (str b==str x.bk)from rfl,bs]
   by_cases hs:(str b==str x.bk)=true
   .rw[pG0 hs,xZ,bs,pG0 (by simp only[hl,hs];simp),lT];rfl
   .rw[nG0 hs,nG0 (by simp only[hs];simp),hw,lT,e]
  .rw[nG0 (by simp[hl]),nG0 (by simp[hl]),hw,lT,e]
theorem LA{n w t}(h:Rel n w t){kk}(hI:MInv kk (w.s false))(hk:kk<=900000000){x}(hc:x.ae=2\/x.ae=5->0<=x.aY) :
 ∃t',q3v FF t x=some t'/\Rel n (dH w false x) t':=by
 have hR:=h;obtain⟨e1,e2,e3,e4,e5,e6⟩:=h;have es:t.ai.1=w.s false:=by rw[e1];rfl
 have fin:∀t',(x.ae=1\/x.ae=5\/(x.ae≠2/\x.ae≠3/\x.ae≠6))->(t'.ai=t.ai/\t'.aP=t.aP/\t'.au=t.au/\t'.data=t.data)->(t'.aw.1.length<=n/\t'.aw.2.length<=n)->∃u,some t'=some u/\Rel n (dH w false x) u:=fun t' a b c=>⟨t',rfl,hR.like (Zk w _ a) b c⟩;unfold q3v;rw[oh,bs];unfold Wj;by_cases k2:x.ae=2
 .rw[pG0 (by simp[k2]),lM (hc (.inl k2)),bs];unfold dH;rw[pG0 k2,show slot false x.aY=(x.aY%64).toNat from by simp[slot]];exact⟨_,rfl,e1,e2,e3,by simp only[e4],uh e5 _ (Nat.zero_le _),e6⟩
 rw[nG0 (c:=(x.ae==2)=true) (by simpa using k2)];by_cases k5:x.ae=5
 .rw[pG0 (by simp[k5]),lM (hc (.inr k5)),bs];cases t.answer<;>exact fin _ (.inr (.inl k5)) ⟨rfl,rfl,rfl,rfl⟩ e3
 rw[nG0 (c:=(x.ae==5)=true) (by simpa using k5)];by_cases k1:x.ae=1
 .rw[pG0 (by simp[k1])];unfold q5s;cases hf:t.aw.2 with
  | nil=>
    rw[pG0 (by simp[len])];exact fin _ (.inl k1) ⟨rfl,rfl,rfl,rfl⟩ e3
  | cons f r=>
    have hr:r.length<=n:=by
     rw[hf]at e3;simp only[lC0]at e3;omega
    rw[f9,show idx (f::r) 0=some f from rfl,bs,bs];by_cases Ku:f.aY=x.aY
    .rw[nG0 (by simp[Ku]),show qm FF f.am x.bk=some (str f.am==str x.bk)from rfl,bs];cases str f.am==str x.bk with
     | true=>
       rw[f8,xZ,bs];exact fin _ (.inl k1) ⟨rfl,rfl,rfl,rfl⟩ ⟨e3.1,hr⟩
     | false=>exact fin _ (.inl k1) ⟨rfl,rfl,rfl,rfl⟩ e3
    .rw[pG0 (by simpa using Ku)];exact fin _ (.inl k1) ⟨rfl,rfl,rfl,rfl⟩ e3
 rw[nG0 (c:=(x.ae==1)=true) (by simpa using k1)];by_cases k3:x.ae=3
 .rw[pG0 (by simp[k3])];have hI':MInv kk t.ai.1:=by rw[es];exact hI
  have hcl:=hI'.rE;rw[KD (B:=fun s=>Zw FF t x s.1 s.2) hcl (fun i c q=>RJ (x:=x) hI' q) (show Zw FF t x t _=some (.done (.inl t))from by
   unfold Zw;exact nG0 (by simp[len])),bs]
  have hs:Jy w false x.aY x.bk=t.ai.1.aj.find? (Zp false t.au x):=by
   rw[es,e4];rfl
  unfold dH;rw[nG0 k2,nG0 k5,nG0 k1,pG0 k3,hs];cases t.ai.1.aj.find? (Zp false t.au x)with
  | none=>exact⟨_,rfl,e1,e2,e3,e4,e5,rfl⟩
  | some c=>exact⟨_,rfl,e1,e2,e3,by simp only[e4],uh e5 _ (by have:=e5 (slot (!false) c.al);rw[List.length_tail];omega),e6⟩
 rw[nG0 (c:=(x.ae==3)=true) (by simpa using k3)];by_cases k6:x.ae=6
 .rw[pG0 (by simp[k6]),es,(Ch hI hk x.ID _).1,bs];unfold dH q7z q7y;rw[show iE x.ao.aO 2=x.ao.aO.tmod 2 from rfl,nG0 k2,nG0 k5,nG0 k1,nG0 k3,pG0 k6];by_cases h0:(l5 (w.s false) x.ID (x.ao.aO.tmod 2)).2=0
  .rw[nG0 (by simp[h0]),pG0 h0];exact⟨_,rfl,by simp only[e1];rfl,e2,e3,e4,e5,e6⟩
  .rw[pG0 (by simpa using h0),nG0 h0];exact⟨_,rfl,by simp only[e1];rfl,e2,e3,e4,e5,e6⟩
 rw[nG0 (c:=(x.ae==6)=true) (by simpa using k6)];by_cases k7:x.ae=7
 .rw[pG0 (by simp[k7])];exact fin _ (.inr (.inr ⟨k2,k3,k6⟩)) ⟨rfl,rfl,rfl,rfl⟩ e3
 .rw[nG0 (by simpa using k7)];exact fin _ (.inr (.inr ⟨k2,k3,k6⟩)) ⟨rfl,rfl,rfl,rfl⟩ e3
open St Po
theorem RL{m s r i}(h:takeC m s=some (i,r)):r∈m.aB:=by
 rcases lC m s with⟨q,_⟩|⟨j,q,h1,_,h3,_⟩
 .rw[q]at h;cases h
 .rw[h1]at h;cases h;exact eO h3
theorem acW{n m}(h:MInv n m){f}(hg:zK f):∀x∈(dY m f).2,x.ae=2\/x.ae=5->0<=x.aY:=by
 have hf:0<=ji m:=by
  unfold ji;cases e:nZ.find? fun v=>!gB m v with
  | none=>exact Int.le_refl _
  | some v=>have:=(xu v).1 (List.mem_of_find?_eq_some e);show 0<=v;omega
 have ha:∀r∈m.aB,r.ae=20->0<=r.ab:=fun r a b=>by have:=GJ (h.ask r a).1 (.inl b);omega
 unfold dY;split
 .intro x hx hk;simp at hx;subst hx;simp at hk
 split
 .rename_i c5;obtain⟨s,hs,hp⟩:=hg c5;rw[hp];unfold DZ;rw[Sg.oJ hs.1 hs.2,pG0 rfl];unfold nR vB oI nk l9 pW
  (repeat' split)<;>intro x hx hk<;>simp at hx<;>subst hx<;>simp[zA]at hk |-
  .exact hf
  all_goals exact ha _ (RL (by assumption)) (by assumption)
 .unfold nH vY
  (repeat' split)<;>intro x hx hk<;>simp at hx
  all_goals
   obtain⟨d,_,rfl⟩:=hx;simp at hk
theorem ac8{L r w}(hO:Ord L r w)k{p ps}(ha:w.a k=p::ps)(hf:(w.s (!k)).Out.length<=800000000) :
 ql FF (w.s (!k)) p=some (ED (w.s (!k)) p)/\(ED (w.s (!k)) p).2.length<=1/\(∃q,q<=800000001/\MInv q (ED (w.s (!k)) p).1)/\∀x∈(ED (w.s (!k)) p).2,x.ae=2\/x.ae=5->0<=x.aY:=by
 have hW:=hO.way k;have hS:=hO.side (!k);have hfl:=hW.flow;rw[ha]at hfl;have hgood:∀f∈L k,Good f:=fun f hq=>(hW.good f hq).1;obtain⟨_,hb,hl⟩:=Kz hfl hgood;obtain⟨hin,hm,hlen⟩:=Kl hS.inv (by omega) hb hl;have hval:=Fr.Dn hS.inv.asm hb;refine⟨hin,hlen,⟨_,by omega,hm⟩,?_⟩;rw[hW.asm]at hval;unfold ED;rw[hW.asm];rcases zx hfl hgood with⟨f,rest,hL,Ug,_⟩|⟨u,Ug,_⟩
 .rw[Ug]at hval |-;exact acW (hS.inv.iF hval) (hW.good f (by rw[hL];simp)).2
 .rw[Ug];exact fun x hx=>by simp at hx
theorem uj(w:Wr)k m:(w.dz k m).iQ k (w.a k)=w.dz k m/\(w.dz k (w.s k)).iQ k (w.a k)=w:=by cases k<;>exact⟨rfl,rfl⟩
theorem BS{k r}{P:Wr->bA->Prop}{D:aJ->List eY->bA->bA}{B:bA×Int×Bool->Option (Out (bA×Int×Bool) (Sum (bA×Bool) (Bool×bA)))}(hP:∀w c,P w c->∀m a,P ((w.dz k m).iQ k a) (D m a c))
 (h0:∀w c y,P w c->B (c,0,y)=some (.done (.inl (D (w.s k) (w.a k) c,y))))
 (h1:∀w c y (n:Nat),P w c->qz FF (w.s k)=some (sU (w.s k))->(w.a k).length<=1000000000->n<1000000000->B (c,((n+1:Nat):Int),y)=some (if (sU (w.s k)).2.2=true then .next (D (sU (w.s k)).1 (w.a k++[(sU (w.s k)).2.1]) c,(n:Int),true)else .done (.inr (y,D (sU (w.s k)).1 (w.a k) c)))) :
 ∀n F w c y L,n<F->n<1000000000->Ord L r w->phi L w<=100000000->rW L w<=1000000000->P w c->∃c',P (dK n w k y).1 c'/\(iter B F (c,(n:Int),y)=some (.inl (c',(dK n w k y).2))\/iter B F (c,(n:Int),y)=some (.inr ((dK n w k y).2,c')))
 | 0,F,w,c,y,L,hF,_,_,_,_,hR=>by
   obtain⟨F,rfl⟩:∃G,F=G+1:=⟨F-1,by omega⟩;have:=hP w c hR (w.s k) (w.a k);rw[(uj w k (w.s k)).2]at this;exact⟨_,this,.inl (bF (h0 w c y hR))⟩
 | n+1,F,w,c,y,L,hF,hn,hO,hp,hm,hR=>by
   obtain⟨F,rfl⟩:∃G,F=G+1:=⟨F-1,by omega⟩;have hf:=hO.few k;obtain⟨L0,c1,c2,_⟩:=hO.pre k (by omega);have hf2:=c1.few k;rw[(eU w k _).1]at hf2;obtain⟨L1,q1,_,q3,_,q4⟩:=hO.jv k (by omega) (by omega);have e1:=vG w k;have e2:=vG (Sy.jv w k).1 k;have hb:=h1 w c y n hR (PX (hO.side k).inv (by omega)).1 (by unfold rW at hm;omega) (by omega);have hP':=hP w c hR;unfold dK;unfold Sy.jv at q1 q3 q4 e2 |-;by_cases ht:(sU (w.s k)).2.2=true
   .simp only[pG0 ht]at hb q1 q3 q4 e2 |-;rcases q4 with⟨_,t2,t3⟩|⟨t1,_⟩
    .rw[q3,t3]at e2;obtain⟨c',g1,g2⟩:=BS hP h0 h1 n F _ _ true L1 (by omega) (by omega) q1 (by omega) (by unfold rW at hm |-;omega) (hP' _ _);refine⟨c',g1,?_⟩;rw[bY hb];exact g2
    .cases t1
   .simp only[nG0 ht]at hb |-;have:=hP' (sU (w.s k)).1 (w.a k);rw[(uj w k _).1]at this;exact⟨_,this,.inr (bF hb)⟩
theorem IB{k nn}{told:bA->iw->Option bA}{B}{B2:List iw->bA×Int->Option (Out (bA×Int) bA)}{A:bA->aJ->List eY->bA}
 (hA:∀w c m ps,Rel nn w c->Rel nn ((w.iQ k ps).dz (!k) m) (A c m ps))
 (ht:∀w c x kk,Rel nn w c->MInv kk (w.s (!k))->kk<=900000000->(x.ae=2\/x.ae=5->0<=x.aY)->∃c',told c x=some c'/\Rel nn (dH w (!k) x) c')
 (h2:∀es s,B2 es s=if decide (s.2<len es)=true then(idx es s.2).bind fun x=>(told s.1 x).bind fun y=>some (.next (y,aL (s.2+1)))else some (.done s.1))
 (h0:∀w c n,Rel nn w c->n=0\/w.a k=[]->B (c,n)=some (.done c))
 (h1:∀w c (n:Nat) q qs o,Rel nn w c->w.a k=q::qs->ql FF (w.s (!k)) q=some o->n<1000000000->B (c,((n+1:Nat):Int))=(iter (B2 o.2) FF (A c o.1 qs,0)).bind fun u=>some (.next (u,(n:Int)))) :
 ∀n F w c L r,n<F->n<1000000000->Ord L r w->phi L w<=100000000->Rel nn w c->∃c',Rel nn (cK n w k) c'/\iter B F (c,(n:Int))=some c'
 | 0,F,w,c,L,r,hF,_,_,_,hR=>by
   obtain⟨F,rfl⟩:∃G,F=G+1:=⟨F-1,by omega⟩;exact⟨c,hR,bF (h0 w c _ hR (.inl rfl))⟩
 | n+1,F,w,c,L,r,hF,hn,hO,hp,hR=>by
   obtain⟨F,rfl⟩:∃G,F=G+1:=⟨F-1,by omega⟩;unfold cK;cases ha:w.a k with
   | nil=>exact⟨c,hR,bF (h0 w c _ hR (.inr ha))⟩
   | cons q qs=>
     simp only
     have hf:=hO.few (!k);obtain⟨hin,hlen,⟨kq,hkq,hmI⟩,hev⟩:=ac8 hO k ha (by omega);obtain⟨L1,r1,q1,q2,_,_⟩:=hO.arr k ha (by omega);have hR0:=hA w c (ED (w.s (!k)) q).1 qs hR;have hone:∃c1,Rel nn (rG w k q qs) c1/\iter (B2 (ED (w.s (!k)) q).2) FF (A c (ED (w.s (!k)) q).1 qs,0)=some c1:=by
      unfold rG;obtain⟨G,hG⟩:∃G,FF=G+2:=⟨FF-2,by have:=ff;omega⟩;rw[show iter (B2 (ED (w.s (!k)) q).2) FF=iter (B2 (ED (w.s (!k)) q).2) (G+1+1)from by rw[hG]]
      match hes:(ED (w.s (!k)) q).2,hlen with
      | [],_=>exact⟨_,hR0,bF (by rw[h2];exact nG0 (by simp[len]))⟩
      | [x],_=>
        obtain⟨c1,g1,g2⟩:=ht _ _ x kq hR0 (by rw[(eU _ (!k) _).1];exact hmI) (by omega) (hev x (by rw[hes];simp));refine⟨c1,g2,?_⟩;rw[bY (s':=(c1,1)) (by
         rw[h2,pG0 (by simp[len]),show idx [x] 0=some x from rfl,bs,g1,bs];rfl)]
        exact bF (by rw[h2];exact nG0 (by simp[len]))
     obtain⟨c1,g1,g2⟩:=hone;obtain⟨c',k1,k2⟩:=IB hA ht h2 h0 h1 n F (rG w k q qs) c1 L1 r1 (by omega) (by omega) q1 (by omega) g1;refine⟨c',k1,?_⟩;rw[bY (s':=(c1,(n:Int))) (by rw[h1 w c n q qs _ hR ha hin (by omega),g2];rfl)];exact k2
def wI(t:bA)(m:aJ)(a:List eY)(c:bA):bA:={t with ai:=(m,t.ai.2),aP:=(a,t.aP.2),au:=c.au,ah:=c.ah}
theorem BQ{nn r L w t n}(hn:n<1000000000)(hO:Ord L r w)(hp:phi L w<=100000000)(hm:rW L w<=1000000000)(hR:Rel nn w t) :
 ∃c',Rel nn (dK n w false false).1 c'/\q35 FF t (n:Int)=some ((dK n w false false).2,c'):=by
 have hP:∀(w:Wr) (c:bA),(Rel nn w c/\c.ai.2=t.ai.2/\c.aP.2=t.aP.2/\c.aw=t.aw/\c.data=t.data)->∀m a,Rel nn ((w.dz false m).iQ false a) (wI t m a c)/\(wI t m a c).ai.2=t.ai.2/\(wI t m a c).aP.2=t.aP.2/\(wI t m a c).aw=t.aw/\(wI t m a c).data=t.data:=fun w c ⟨a0,a1,a2,a3,a4⟩ m a=>by
  refine⟨⟨?_,?_,a3▸a0.aw,a0.sd,a0.rows,a4▸a0.dat⟩,rfl,rfl,rfl,rfl⟩
  .unfold wI;simp only[<-a1,a0.ai];rfl
  .unfold wI;simp only[<-a2,a0.aP];rfl
 obtain⟨c',g1,g2⟩:=BS (k:=false) (r:=r) (D:=wI t) (B:=fun s=>q3s FF t s.1 s.2.1 s.2.2) hP (fun w c y h=>by
  refine(show q3s FF t c 0 y=_ from nG0 (by simp)).trans ?_;unfold wI;rw[h.1.ai,h.1.aP];rfl) (fun w c y n h ho hl hn=>by
  have es:c.ai.1=w.s false:=by rw[h.1.ai];rfl
  have ea:c.aP.1=w.a false:=by rw[h.1.aP];rfl
  have hw:aL (((n+1:Nat):Int)-1)=(n:Int):=by rw[i7];omega
  show q3s FF t c ((n+1:Nat):Int) y=_;unfold q3s q7q;rw[pG0 (by simp<;>omega),es,ho,bs,ea]
  by_cases ht:(sU (w.s false)).2.2=true
  .rw[nG0 (by simp[ht]),dX (by simp;omega) (by omega),bs,hw,pG0 ht];rfl
  .rw[pG0 (by simpa using ht),nG0 ht];rfl) n FF w t false L (by have:=FFk;have:=ff;omega) hn hO hp hm ⟨hR,rfl,rfl,rfl,rfl⟩
 unfold q35;rcases g2 with g2|g2
 .rw[g2,bs];have:=(hP _ _ g1 ((dK n w false false).1.s false) ((dK n w false false).1.a false)).1;rw[(uj _ _ ((dK n w false false).1.s false)).2]at this;have e1:(dK n w false false).1.s false=c'.ai.1:=by rw[g1.1.ai];rfl
  have e2:(dK n w false false).1.a false=c'.aP.1:=by rw[g1.1.aP];rfl
  rw[e1,e2]at this;exact⟨_,this,rfl⟩
 .rw[g2,bs];exact⟨c',g1.1,rfl⟩
theorem xD{nn r L w t n}(hn:n<1000000000)(hO:Ord L r w)(hp:phi L w<=100000000)(hR:Rel nn w t) :
 ∃c',Rel nn (cK n w false) c'/\q38 FF t (n:Int)=some c':=by
 obtain⟨c',g1,g2⟩:=IB (k:=false) (nn:=nn) (told:=q3t FF) (B:=fun s=>Zx FF s.1 s.2) (B2:=fun es s=>q69 FF es s.1 s.2) (A:=fun c m ps=>{c with ai:=(c.ai.1,m),aP:=(ps,c.aP.2)}) (fun w c m ps h=>by
  refine⟨?_,?_,h.aw,h.sd,h.rows,h.dat⟩
  .simp only[h.ai];rfl
  .simp only[h.aP];rfl) (fun w c x kk h hI hk hc=>Lx h hI hk hc) (fun es s=>rfl) (fun w c n h hn=>by
  have ea:c.aP.1=w.a false:=by rw[h.aP];rfl
  show Zx FF c n=_;unfold Zx;rw[ea];refine nG0 ?_;rcases hn with hn|hn<;>simp[hn,len]) (fun w c n q qs o h ha hi hn=>by
  have ea:c.aP.1=w.a false:=by rw[h.aP];rfl
  have es:c.ai.2=w.s (!false):=by rw[h.ai];rfl
  have hw:aL (((n+1:Nat):Int)-1)=(n:Int):=by rw[i7];omega
  show Zx FF c ((n+1:Nat):Int)=_;unfold Zx;rw[ea,ha,es,pG0 (by simp[len]<;>omega),show idx (q::qs) 0=some q from rfl,bs,bs,hi,bs]
  unfold q7w q7v q7u q7t;rw[ea,ha,xZ,bs,hw]) n FF w t L r (by have:=ff;omega) hn hO hp hR
 unfold q38;rw[g2,bs];exact⟨c',g1,rfl⟩
def wH(t:bA)(m:aJ)(a:List eY)(c:bA):bA:={t with ai:=(t.ai.1,m),aP:=(t.aP.1,a),au:=c.au,ah:=c.ah}
theorem BP{nn r L w t n}(hn:n<1000000000)(hO:Ord L r w)(hp:phi L w<=100000000)(hm:rW L w<=1000000000)(hR:Rel nn w t) :
 ∃c',Rel nn (dK n w true false).1 c'/\q3a FF t (n:Int)=some ((dK n w true false).2,c'):=by
 have hP:∀(w:Wr) (c:bA),(Rel nn w c/\c.ai.1=t.ai.1/\c.aP.1=t.aP.1/\c.aw=t.aw/\c.data=t.data)->∀m a,Rel nn ((w.dz true m).iQ true a) (wH t m a c)/\(wH t m a c).ai.1=t.ai.1/\(wH t m a c).aP.1=t.aP.1/\(wH t m a c).aw=t.aw/\(wH t m a c).data=t.data:=fun w c ⟨a0,a1,a2,a3,a4⟩ m a=>by
  refine⟨⟨?_,?_,a3▸a0.aw,a0.sd,a0.rows,a4▸a0.dat⟩,rfl,rfl,rfl,rfl⟩
  .unfold wH;simp only[<-a1,a0.ai];rfl
  .unfold wH;simp only[<-a2,a0.aP];rfl
 obtain⟨c',g1,g2⟩:=BS (k:=true) (r:=r) (D:=wH t) (B:=fun s=>q3u FF t s.1 s.2.1 s.2.2) hP (fun w c y h=>by
  refine(show q3u FF t c 0 y=_ from nG0 (by simp)).trans ?_;unfold wH;rw[h.1.ai,h.1.aP];rfl) (fun w c y n h ho hl hn=>by
  have es:c.ai.2=w.s true:=by rw[h.1.ai];rfl
  have ea:c.aP.2=w.a true:=by rw[h.1.aP];rfl
  have hw:aL (((n+1:Nat):Int)-1)=(n:Int):=by rw[i7];omega
  show q3u FF t c ((n+1:Nat):Int) y=_;unfold q3u q7x;rw[pG0 (by simp<;>omega),es,ho,bs,ea]
  by_cases ht:(sU (w.s true)).2.2=true
  .rw[nG0 (by simp[ht]),dX (by simp;omega) (by omega),bs,hw,pG0 ht];rfl
  .rw[pG0 (by simpa using ht),nG0 ht];rfl) n FF w t false L (by have:=FFk;have:=ff;omega) hn hO hp hm ⟨hR,rfl,rfl,rfl,rfl⟩
 unfold q3a;rcases g2 with g2|g2
 .rw[g2,bs];have:=(hP _ _ g1 ((dK n w true false).1.s true) ((dK n w true false).1.a true)).1;rw[(uj _ _ ((dK n w true false).1.s true)).2]at this;have e1:(dK n w true false).1.s true=c'.ai.2:=by rw[g1.1.ai];rfl
  have e2:(dK n w true false).1.a true=c'.aP.2:=by rw[g1.1.aP];rfl
  rw[e1,e2]at this;exact⟨_,this,rfl⟩
 .rw[g2,bs];exact⟨c',g1.1,rfl⟩
theorem xC{nn r L w t n}(hn:n<1000000000)(hO:Ord L r w)(hp:phi L w<=100000000)(hR:Rel nn w t) :
 ∃c',Rel nn (cK n w true) c'/\q3d FF t (n:Int)=some c':=by
 obtain⟨c',g1,g2⟩:=IB (k:=true) (nn:=nn) (told:=q3v FF) (B:=fun s=>Zv FF s.1 s.2) (B2:=fun es s=>q6b FF es s.1 s.2) (A:=fun c m ps=>{c with ai:=(m,c.ai.2),aP:=(c.aP.1,ps)}) (fun w c m ps h=>by
  refine⟨?_,?_,h.aw,h.sd,h.rows,h.dat⟩
  .simp only[h.ai];rfl
  .simp only[h.aP];rfl) (fun w c x kk h hI hk hc=>LA h hI hk hc) (fun es s=>rfl) (fun w c n h hn=>by
  have ea:c.aP.2=w.a true:=by rw[h.aP];rfl
  show Zv FF c n=_;unfold Zv;rw[ea];refine nG0 ?_;rcases hn with hn|hn<;>simp[hn,len]) (fun w c n q qs o h ha hi hn=>by
  have ea:c.aP.2=w.a true:=by rw[h.aP];rfl
  have es:c.ai.1=w.s (!true):=by rw[h.ai];rfl
  have hw:aL (((n+1:Nat):Int)-1)=(n:Int):=by rw[i7];omega
  show Zv FF c ((n+1:Nat):Int)=_;unfold Zv;rw[ea,ha,es,pG0 (by simp[len]<;>omega),show idx (q::qs) 0=some q from rfl,bs,bs,hi,bs]
  unfold q83 q82 q81 q80;rw[ea,ha,xZ,bs,hw]) n FF w t L r (by have:=ff;omega) hn hO hp hR
 unfold q3d;rw[g2,bs];exact⟨c',g1,rfl⟩
open St Po
def jo(x:F7):Ac:=⟨x.bj,x.ae,x.N,x.bT,x.aY,x.dh,x.cZ,x.aA,x.ax,x.ao⟩
structure Wi(x:F7):Prop where
 side:0<=x.bj
 n:0<=x.N/\x.N<=255
 mO:0<=x.aY
 ok:Ze (jo x)
theorem KO{k m}(h:MInv k m)psm nV mps cr(h0:(jw m psm nV mps cr).2.2=0):0<=(jw m psm nV mps cr).2.1:=by
 unfold jw at h0 |-;split at h0
 .cases h0
 split at h0
 .cases h0
 split at h0
 .cases h0
 rename_i h1 h2 h3;rw[nG0 h1,nG0 h2,nG0 h3];obtain⟨v,_,f2,_,f4,f5⟩:=j6 (m:=m) (by omega);simp only
 rw[f2];omega
theorem V3{nn r L w t x}(hs:x.bj%2=0)(hx:Wi x)(hO:Ord L r w)(hp:phi L w<=100000000)(hm:rW L w<=1000000000)(hR:Rel nn w t)(hn:nn<=1000) :
 ∃t',q1z FF t x=some t'/\Rel (nn+1) (nM w (jo x)) t':=by
 obtain⟨x1,x2,x3,x4⟩:=hx;have hsd:aU (jo x)=false:=by
  show decide (x.bj%2=1)=false;rw[hs];rfl
 have hrm:aL (iE x.bj 2)=0:=by
  have:iE x.bj 2=x.bj%2:=by unfold iE;rw[Int.tmod_eq_emod_of_nonneg x1]
  rw[this,hs];rfl
 have hN:aL x.N=x.N:=bW (by omega) (by omega);have hNn:(x.N.toNat:Int)=x.N:=Int.toNat_of_nonneg x2.1;have hf:=hO.few false;have hI:=(hO.side false).inv;have es:t.ai.1=w.s false:=by rw[hR.ai];rfl
 have hR1:Rel (nn+1) w t:=hR.more (by omega);obtain⟨e1,e2,e3,e4,e5,e6⟩:=hR;have base:∀m:aJ,Rel (nn+1) (w.dz false m) ({t with ai:=(m,t.ai.2),aw:=(t.aw.1,t.aw.2)}):=fun m=>by
  refine⟨?_,e2,by simp only;omega,e4,fun j=>Nat.le_trans (e5 j) (by omega),e6⟩;simp only[e1];rfl
 unfold q1z nM;rw[hsd,hrm,pG0 (by rfl)];simp only[show(jo x).ae=x.ae from rfl,show(jo x).bT=x.bT from rfl,show(jo x).dh=x.dh from rfl,show(jo x).cZ=x.cZ from rfl,show(jo x).aA=x.aA from rfl,show(jo x).aY=x.aY from rfl,show(jo x).ax=x.ax from rfl,show(jo x).ao=x.ao from rfl,show(jo x).N=x.N from rfl];by_cases k0:x.ae=0
 .rw[pG0 (by simp[k0]),pG0 k0,es,(vv hI (by omega) x.bT x.dh x.cZ x.aA x4.psm).1,bs];by_cases hz:(jw (w.s false) x.bT x.dh x.cZ x.aA).2.2=0
  .rw[pG0 (by simp[hz]),pG0 hz,oh,bs,lM (KO hI _ _ _ _ hz),bs];unfold qj;exact⟨_,rfl,(base _).like ⟨rfl,rfl,rfl,rfl,rfl,rfl⟩ ⟨rfl,rfl,rfl,rfl⟩ (base (jw (w.s false) x.bT x.dh x.cZ x.aA).1).aw⟩
  .rw[nG0 (by simpa using hz),nG0 hz];exact⟨_,rfl,base _⟩
 rw[nG0 (c:=(x.ae==0)=true) (by simpa using k0),nG0 k0];by_cases k1:x.ae=1
 .rw[pG0 (by simp[k1]),pG0 k1,es,(oW hI (by omega) x.aY).1,bs];exact⟨_,rfl,base _⟩
 rw[nG0 (c:=(x.ae==1)=true) (by simpa using k1),nG0 k1];by_cases k2:x.ae=2
 .rw[pG0 (by simp[k2]),pG0 k2,es,(BR hI (by omega) x.aY x.ax (by have:x.ax.length<=4096:=x4.len;omega)).1,bs];by_cases hz:(jf (w.s false) x.aY x.ax).2=0
  .rw[pG0 (by simp[hz]),pG0 hz,oh,bs,lM x3,bs];have h8:=e5 ((x.aY%64).toNat);have hsl:slot false x.aY=((x.aY%64).toNat):=by simp[slot]
   rw[e4,dX (by simp;omega) (by omega),bs];unfold qj;have hb:=base (jf (w.s false) x.aY x.ax).1;refine⟨_,rfl,hb.ai,hb.aP,hb.aw,by simp only[hsl,lT],?_,e6⟩;simp only[hsl];exact uh (fun j=>Nat.le_trans (e5 j) (by omega)) _ (by simp;omega)
  .rw[nG0 (by simpa using hz),nG0 hz];exact⟨_,rfl,base _⟩
 rw[nG0 (c:=(x.ae==2)=true) (by simpa using k2),nG0 k2];by_cases k3:x.ae=3
 .rw[pG0 (by simp[k3]),pG0 k3,es,(KC hI (by omega) x.aY x.ax).1,bs];by_cases hz:(wY (w.s false) x.aY x.ax).2=0
  .rw[pG0 (by simp[hz]),pG0 hz,dX (by simp;omega) (by omega),bs];unfold qj;exact⟨_,rfl,(base (wY (w.s false) x.aY x.ax).1).like ⟨rfl,rfl,rfl,rfl,rfl,rfl⟩ ⟨rfl,rfl,rfl,rfl⟩ (by simp only[lA,List.length_singleton];omega)⟩
  .rw[nG0 (by simpa using hz),nG0 hz];exact⟨_,rfl,base _⟩
 rw[nG0 (c:=(x.ae==3)=true) (by simpa using k3),nG0 k3];by_cases k4:x.ae=4
 .rw[pG0 (by simp[k4]),pG0 k4,es,(yE hI (by omega) x.ao).1,bs];by_cases hz:(pQ (w.s false) x.ao).2=0
  .rw[pG0 (by simp[hz]),pG0 hz];unfold qj;exact⟨_,rfl,(base _).like ⟨rfl,rfl,rfl,rfl,rfl,rfl⟩ ⟨rfl,rfl,rfl,rfl⟩ (base (pQ (w.s false) x.ao).1).aw⟩
  .rw[nG0 (by simpa using hz),nG0 hz];exact⟨_,rfl,base _⟩
 rw[nG0 (c:=(x.ae==4)=true) (by simpa using k4),nG0 k4];by_cases k5:x.ae=5
 .rw[pG0 (by simp[k5]),pG0 k5,hN];obtain⟨c',g1,g2⟩:=BQ (n:=x.N.toNat) (by omega) hO hp hm hR1;rw[hNn]at g2;rw[g2,bs];exact⟨c',rfl,g1⟩
 rw[nG0 (c:=(x.ae==5)=true) (by simpa using k5),nG0 k5];by_cases k6:x.ae=6
 .rw[pG0 (by simp[k6]),pG0 k6,hN];obtain⟨c',g1,g2⟩:=xD (n:=x.N.toNat) (by omega) hO hp hR1;rw[hNn]at g2;rw[g2,bs];exact⟨c',rfl,g1⟩
 rw[nG0 (c:=(x.ae==6)=true) (by simpa using k6),nG0 k6];by_cases k7:x.ae=7
 .rw[pG0 (by simp[k7]),pG0 k7,hN,es,Fb FF _ x.N ff (hI.sz (by omega)),bs];exact⟨_,rfl,base _⟩
 .rw[nG0 (by simpa using k7),nG0 k7];unfold qj;exact⟨_,rfl,hR1⟩
theorem VZ{nn r L w t x}(hs:x.bj%2=1)(hx:Wi x)(hO:Ord L r w)(hp:phi L w<=100000000)(hm:rW L w<=1000000000)(hR:Rel nn w t)(hn:nn<=1000) :
 ∃t',q1z FF t x=some t'/\Rel (nn+1) (nM w (jo x)) t':=by
 obtain⟨x1,x2,x3,x4⟩:=hx;have hsd:aU (jo x)=true:=by
  show decide (x.bj%2=1)=true;rw[hs];rfl
 have hrm:aL (iE x.bj 2)=1:=by
  have:iE x.bj 2=x.bj%2:=by unfold iE;rw[Int.tmod_eq_emod_of_nonneg x1]
  rw[this,hs];rfl
 have hN:aL x.N=x.N:=bW (by omega) (by omega);have hNn:(x.N.toNat:Int)=x.N:=Int.toNat_of_nonneg x2.1;have hf:=hO.few true;have hI:=(hO.side true).inv;have es:t.ai.2=w.s true:=by rw[hR.ai];rfl
 have hR1:Rel (nn+1) w t:=hR.more (by omega);obtain⟨e1,e2,e3,e4,e5,e6⟩:=hR;have base:∀m:aJ,Rel (nn+1) (w.dz true m) ({t with ai:=(t.ai.1,m),aw:=(t.aw.1,t.aw.2)}):=fun m=>by
  refine⟨?_,e2,by simp only;omega,e4,fun j=>Nat.le_trans (e5 j) (by omega),e6⟩;simp only[e1];rfl
 unfold q1z nM;rw[hsd,hrm,nG0 (by decide),pG0 (by rfl)];simp only[show(jo x).ae=x.ae from rfl,show(jo x).bT=x.bT from rfl,show(jo x).dh=x.dh from rfl,show(jo x).cZ=x.cZ from rfl,show(jo x).aA=x.aA from rfl,show(jo x).aY=x.aY from rfl,show(jo x).ax=x.ax from rfl,show(jo x).ao=x.ao from rfl,show(jo x).N=x.N from rfl];by_cases k0:x.ae=0
 .rw[pG0 (by simp[k0]),pG0 k0,es,(vv hI (by omega) x.bT x.dh x.cZ x.aA x4.psm).1,bs];by_cases hz:(jw (w.s true) x.bT x.dh x.cZ x.aA).2.2=0
  .rw[pG0 (by simp[hz]),pG0 hz,oh,bs,lM (KO hI _ _ _ _ hz),bs];unfold qk;exact⟨_,rfl,(base _).like ⟨rfl,rfl,rfl,rfl,rfl,rfl⟩ ⟨rfl,rfl,rfl,rfl⟩ (base (jw (w.s true) x.bT x.dh x.cZ x.aA).1).aw⟩
  .rw[nG0 (by simpa using hz),nG0 hz];exact⟨_,rfl,base _⟩
 rw[nG0 (c:=(x.ae==0)=true) (by simpa using k0),nG0 k0];by_cases k1:x.ae=1
 .rw[pG0 (by simp[k1]),pG0 k1,es,(oW hI (by omega) x.aY).1,bs];exact⟨_,rfl,base _⟩
 rw[nG0 (c:=(x.ae==1)=true) (by simpa using k1),nG0 k1];by_cases k2:x.ae=2
 .rw[pG0 (by simp[k2]),pG0 k2,es,(BR hI (by omega) x.aY x.ax (by have:x.ax.length<=4096:=x4.len;omega)).1,bs];by_cases hz:(jf (w.s true) x.aY x.ax).2=0
  .rw[pG0 (by simp[hz]),pG0 hz,oh,bs,lM x3,bs];have h8:=e5 (64+(x.aY%64).toNat);have hsl:slot true x.aY=(64+(x.aY%64).toNat):=by simp[slot]
   rw[e4,dX (by simp;omega) (by omega),bs];unfold qk;have hb:=base (jf (w.s true) x.aY x.ax).1;refine⟨_,rfl,hb.ai,hb.aP,hb.aw,by simp only[hsl,lT],?_,e6⟩;simp only[hsl];exact uh (fun j=>Nat.le_trans (e5 j) (by omega)) _ (by simp;omega)
  .rw[nG0 (by simpa using hz),nG0 hz];exact⟨_,rfl,base _⟩
 rw[nG0 (c:=(x.ae==2)=true) (by simpa using k2),nG0 k2];by_cases k3:x.ae=3
 .rw[pG0 (by simp[k3]),pG0 k3,es,(KC hI (by omega) x.aY x.ax).1,bs];by_cases hz:(wY (w.s true) x.aY x.ax).2=0
  .rw[pG0 (by simp[hz]),pG0 hz,dX (by simp;omega) (by omega),bs];unfold qk;exact⟨_,rfl,(base (wY (w.s true) x.aY x.ax).1).like ⟨rfl,rfl,rfl,rfl,rfl,rfl⟩ ⟨rfl,rfl,rfl,rfl⟩ (by simp only[lA,List.length_singleton];omega)⟩
  .rw[nG0 (by simpa using hz),nG0 hz];exact⟨_,rfl,base _⟩
 rw[nG0 (c:=(x.ae==3)=true) (by simpa using k3),nG0 k3];by_cases k4:x.ae=4
 .rw[pG0 (by simp[k4]),pG0 k4,es,(yE hI (by omega) x.ao).1,bs];by_cases hz:(pQ (w.s true) x.ao).2=0
  .rw[pG0 (by simp[hz]),pG0 hz];unfold qk;exact⟨_,rfl,(base _).like ⟨rfl,rfl,rfl,rfl,rfl,rfl⟩ ⟨rfl,rfl,rfl,rfl⟩ (base (pQ (w.s true) x.ao).1).aw⟩
  .rw[nG0 (by simpa using hz),nG0 hz];exact⟨_,rfl,base _⟩
 rw[nG0 (c:=(x.ae==4)=true) (by simpa using k4),nG0 k4];by_cases k5:x.ae=5
 .rw[pG0 (by simp[k5]),pG0 k5,hN];obtain⟨c',g1,g2⟩:=BP (n:=x.N.toNat) (by omega) hO hp hm hR1;rw[hNn]at g2;rw[g2,bs];exact⟨c',rfl,g1⟩
 rw[nG0 (c:=(x.ae==5)=true) (by simpa using k5),nG0 k5];by_cases k6:x.ae=6
 .rw[pG0 (by simp[k6]),pG0 k6,hN];obtain⟨c',g1,g2⟩:=xC (n:=x.N.toNat) (by omega) hO hp hR1;rw[hNn]at g2;rw[g2,bs];exact⟨c',rfl,g1⟩
 rw[nG0 (c:=(x.ae==6)=true) (by simpa using k6),nG0 k6];by_cases k7:x.ae=7
 .rw[pG0 (by simp[k7]),pG0 k7,hN,es,Fb FF _ x.N ff (hI.sz (by omega)),bs];exact⟨_,rfl,base _⟩
 .rw[nG0 (by simpa using k7),nG0 k7];unfold qk;exact⟨_,rfl,hR1⟩
open St Po
theorem Y0{nn r L w t x}(hx:Wi x)(hO:Ord L r w)(hp:phi L w<=100000000)(hm:rW L w<=1000000000)(hR:Rel nn w t)(hn:nn<=1000) :
 ∃t',q1z FF t x=some t'/\Rel (nn+1) (nM w (jo x)) t':=by
 rcases(by omega:x.bj%2=0\/x.bj%2=1)with h|h
 .exact V3 h hx hO hp hm hR hn
 .exact VZ h hx hO hp hm hR hn
theorem OA{l dP}(hl:dP.eZ=l)(h60:l.length<=60)(hg:∀x∈l,Wi x):∀l2 i F w c L r,l=l.take i++l2->i+l2.length=l.length->l2.length<F->Ord L r w->phi L w+(l2.map fun x=>cost (jo x)).sum<=100000000->rW L w+2*(l2.map fun x=>cost (jo x)).sum<=1000000000->Rel i w c->
 ∃c',Rel l.length ((l2.map jo).foldl nM w) c'/\iter (fun s=>Xw FF dP s.1 s.2) F (c,(i:Int))=some c'
 | [],i,F,w,c,L,r,h1,h2,h3,_,_,_,hR=>by
   obtain⟨F,rfl⟩:∃G,F=G+1:=⟨F-1,by omega⟩;refine⟨c,hR.more (by simp at h2;omega),bF (show Xw FF dP c (i:Int)=_ from ?_)⟩;unfold Xw;rw[hl,nG0 (by simp[len];simp at h2;omega)]
 | x::l2,i,F,w,c,L,r,h1,h2,h3,hO,hp,hm,hR=>by
   obtain⟨F,rfl⟩:∃G,F=G+1:=⟨F-1,by omega⟩;simp only[mC,List.sum_cons,lC0]at hp hm h2 h3 |-;have hx:l[i]?=some x:=by
    have h4:(l.take i).length=i:=by rw[lT0];omega
    have h5:(l.take i++x::l2)[i]?=some x:=by
     rw[List.getElem?_append_right (by omega),h4];simp
    rw[<-h1]at h5;exact h5
   have hxg:=hg x (List.mem_of_getElem? hx);obtain⟨c1,g1,g2⟩:=Y0 hxg hO (by omega) (by omega) hR (by omega);obtain⟨L1,r1,q1,q2,q3,_⟩:=OC hO (by omega) hxg.ok;obtain⟨c',k1,k2⟩:=OA hl h60 hg l2 (i+1) F (nM w (jo x)) c1 L1 r1 (by
    have h4:l.take (i+1)=l.take i++[x]:=(jA hx).symm;rw[h4,List.append_assoc];exact h1) (by omega) (by omega) q1 (by omega) (by omega) g2
   refine⟨c',k1,?_⟩;have hw:aL ((i:Int)+1)=((i+1:Nat):Int):=wN i (by omega);rw[bY (s':=(c1,((i+1:Nat):Int))) (show Xw FF dP c (i:Int)=_ from by
    unfold Xw;rw[hl,i5,aX hx,bs,g1,bs,hw])]
   exact k2
theorem SS{nn w c L r}(hO:Ord L r w)(hp:phi L w<=100000000)(hm:rW L w<=1000000000)(hR:Rel nn w c){i}(hi:i<20000)(h0:0<=i) :
 ∃c',Rel nn (iL w).1 c'/\Xx FF c i=some (if wE w=true then .done (.inr (c',true))else .next (c',i+1)):=by
 obtain⟨L1,r1,a1,a2,a3,a4,a5,_⟩:=kg false 100 L r w hO hp;obtain⟨L2,r2,b1,b2,b3,b4,b5,_⟩:=kg true 100 L1 r1 (cK 100 w false) a1 (by omega);obtain⟨L3,d1,d2,d3,_⟩:=mR false 20 L2 (GY w) false b1 (show phi L2 (cK 100 (cK 100 w false) true)<=_ by omega);rw[show GY w=cK 100 (cK 100 w false) true from rfl]at d1 d2 d3;obtain⟨c1,g1,g2⟩:=xD (n:=100) (by omega) hO hp hR;obtain⟨c2,g3,g4⟩:=xC (n:=100) (by omega) a1 (by omega) g1;obtain⟨c3,g5,g6⟩:=BQ (n:=20) (by omega) b1 (by omega) (by omega) g3;obtain⟨c4,g7,g8⟩:=BP (n:=20) (by omega) d1 (by omega) (by omega) g5;have e2:yA w=dK 20 (cK 100 (cK 100 w false) true) false false:=rfl;have e3:iL w=dK 20 (yA w).1 true false:=rfl;have hR4:Rel nn (iL w).1 c4:=(by rw[e3,e2];exact g7);refine⟨c4,hR4,?_⟩;have hw:aL (i+1)=i+1:=bW (by omega) (by omega);unfold Xx;rw[pG0 (by simpa using hi)];rw[show(100:Int)=((100:Nat):Int)from rfl,show(20:Int)=((20:Nat):Int)from rfl,g2,bs,g4,bs,g6,bs];rw[g8,bs];unfold q6c;have ha:c4.aP=((iL w).1.a0,(iL w).1.a1):=hR4.aP;have hlen:(iL w).1.a0.length+(iL w).1.a1.length<=1000000000:=by
  obtain⟨L4,_,_,f3,_⟩:=mR true 20 L3 (dK 20 (cK 100 (cK 100 w false) true) false false).1 false d1 (by omega);have:aP (iL w).1=(iL w).1.a0.length+(iL w).1.a1.length:=rfl;have hq:rW L4 (iL w).1<=1000000000:=by
   rw[e3,e2];omega
  unfold rW at hq;omega
 have hz:(aL (len c4.aP.1+len c4.aP.2)==0)=(((iL w).1.a false).length+((iL w).1.a true).length==0):=by
  rw[ha];simp only[len];rw[i7];show((((iL w).1.a0.length:Int)+((iL w).1.a1.length:Int))==0)=((iL w).1.a0.length+(iL w).1.a1.length==0);rw[Bool.eq_iff_iff];simp only[beq_iff_eq];omega
 have hr:wE w=(!(dK 20 (cK 100 (cK 100 w false) true) false false).2&&(!(dK 20 (dK 20 (cK 100 (cK 100 w false) true) false false).1 true false).2&&(((iL w).1.a false).length+((iL w).1.a true).length==0))):=rfl;simp only
 rw[hz,hr,hw];cases (dK 20 (cK 100 (cK 100 w false) true) false false).2<;>cases (dK 20 (dK 20 (cK 100 (cK 100 w false) true) false false).1 true false).2<;>cases (((iL w).1.a false).length+((iL w).1.a true).length==0)<;>rfl
theorem NU{nn}:∀(n i F:Nat) w c L r,i+n=20000->n<F->Ord L r w->phi L w<=100000000->rW L w<=1000000000->Rel nn w c->
 ∃c',Rel nn (ny n w).1 c'/\iter (fun s=>Xx FF s.1 s.2) F (c,(i:Int))=some (if (ny n w).2=true then .inr (c',true)else .inl c')
 | 0,i,F,w,c,L,r,hi,hF,_,_,_,hR=>by
   obtain⟨F,rfl⟩:∃G,F=G+1:=⟨F-1,by omega⟩;have hq:Xx FF c (i:Int)=some (.done (.inl c)):=by
    unfold Xx;exact nG0 fun h=>by
     have:=of_decide_eq_true h;omega
   exact⟨c,hR,bF hq⟩
 | n+1,i,F,w,c,L,r,hi,hF,hO,hp,hm,hR=>by
   obtain⟨F,rfl⟩:∃G,F=G+1:=⟨F-1,by omega⟩;obtain⟨L',r',q1,q2,q3,q4,_⟩:=Fq hO hp;obtain⟨c1,g1,g2⟩:=SS (i:=(i:Int)) hO hp hm hR (by omega) (by omega);unfold ny;by_cases hr:wE w=true
   .rw[pG0 hr];rw[pG0 hr]at g2;exact⟨c1,g1,bF g2⟩
   .rw[nG0 hr];rw[nG0 hr]at g2;have h3:=q3 (by simpa using hr);obtain⟨c',k1,k2⟩:=NU n (i+1) F (iL w).1 c1 L' r' (by omega) (by omega) q1 (by omega) (by omega) g1;refine⟨c',k1,?_⟩;exact(bY (body:=fun s=>Xx FF s.1 s.2) (s:=(c,(i:Int))) g2).trans k2
open St Po
theorem J6{dP:vH}:∀d i F (n:Int),i+d=min dP.eZ.length 60->d<F->0<=n->n<=4096*i->
 (∃m,iter (fun s=>qw FF dP s.1 s.2) F (n,(i:Int))=some (.inl m)/\m=n+(((dP.eZ.take 60).drop i).map fun x=>(x.ax.length:Int)).sum/\∀x∈(dP.eZ.take 60).drop i,x.ax.length<=4096)\/iter (fun s=>qw FF dP s.1 s.2) F (n,(i:Int))=some (.inr false)
 | 0,i,F,n,h,hF,h0,h1=>by
   obtain⟨F,rfl⟩:∃G,F=G+1:=⟨F-1,by omega⟩;have hd:(dP.eZ.take 60).drop i=[]:=List.drop_of_length_le (by rw[lT0];omega);refine .inl ⟨n,bF (show qw FF dP n (i:Int)=_ from ?_),by rw[hd];simp,by rw[hd];simp⟩;unfold qw;rw[nG0];have hl:=lN dP.eZ;simp only[Bool.and_eq_true,decide_eq_true_eq];omega
 | d+1,i,F,n,h,hF,h0,h1=>by
   obtain⟨F,rfl⟩:∃G,F=G+1:=⟨F-1,by omega⟩;have hi:i<dP.eZ.length:=by omega
   obtain⟨x,hx⟩:∃x,dP.eZ[i]?=some x:=⟨_,gE hi⟩;have hdr:(dP.eZ.take 60).drop i=x::(dP.eZ.take 60).drop (i+1):=by
    have hl:i<(dP.eZ.take 60).length:=by rw[lT0];omega
    rw[List.drop_eq_getElem_cons hl];congr 1;rw[List.getElem_take];rw[gE hi]at hx;injection hx
   have hw:aL ((i:Int)+1)=((i+1:Nat):Int):=wN i (by omega);have hif:((decide ((i:Int)<len dP.eZ))&&decide ((i:Int)<60))=true:=by
    have hl:=lN dP.eZ;simp only[Bool.and_eq_true,decide_eq_true_eq];omega
   by_cases hb:len x.ax>4096
   .refine .inr (bF (show qw FF dP n (i:Int)=_ from ?_));unfold qw;rw[pG0 hif,aX hx,bs,pG0 (by simpa using hb)]
   .have hb':x.ax.length<=4096:=by simp only[len]at hb;omega
    have hn:aL (n+len x.ax)=n+(x.ax.length:Int):=by
     simp only[len];exact bW (by omega) (by omega)
    have hs:qw FF dP n (i:Int)=some (.next (n+(x.ax.length:Int),((i+1:Nat):Int))):=by
     unfold qw;rw[pG0 hif,aX hx,bs,nG0 (by simpa using hb),bs,hn,hw]
    rcases J6 (dP:=dP) d (i+1) F (n+(x.ax.length:Int)) (by omega) (by omega) (by omega) (by omega)with⟨m,g1,g2,g3⟩|g
    .refine .inl ⟨m,?_,?_,?_⟩
     .rw[bY (body:=fun s=>qw FF dP s.1 s.2) (s:=(n,(i:Int))) hs];exact g1
     .rw[hdr,g2,mC,List.sum_cons];omega
     .rw[hdr];intro y hy;rcases List.mem_cons.1 hy with rfl|hy
      .exact hb'
      .exact g3 y hy
    .refine .inr ?_;rw[bY (body:=fun s=>qw FF dP s.1 s.2) (s:=(n,(i:Int))) hs];exact g
theorem WM(l:List F7):(l.map fun x=>(x.ax.length:Int)).sum=((l.map fun x=>x.ax.length).sum:Nat):=by
 induction l with
 | nil=>rfl
 | cons x l ih=>simp only[mC,List.sum_cons,ih];omega
theorem TU dP:∃b,q3z FF dP=some b/\(b=true->dP.eZ.length<=60/\(∀x∈dP.eZ,x.ax.length<=4096)/\(dP.eZ.map fun x=>x.ax.length).sum<=4096/\dP.ak.1.length<=10/\dP.ak.2.length<=10):=by
 unfold q3z;rcases J6 (dP:=dP) (min dP.eZ.length 60) 0 FF 0 (by omega) (by have:=ff;omega) (by omega) (by omega)with⟨m,g1,g2,g3⟩|g
 .rw[show((0:Nat):Int)=0 from rfl]at g1;rw[g1,bs];unfold q6e;refine⟨_,rfl,fun h=>?_⟩;have hl:=lN dP.eZ;have hl1:=lN dP.ak.1;have hl2:=lN dP.ak.2;simp only[Bool.and_eq_true,decide_eq_true_eq]at h;obtain⟨⟨⟨h1,h2⟩,h3⟩,h4⟩:=h;have ht:dP.eZ.take 60=dP.eZ:=List.take_of_length_le (by omega);rw[List.drop_zero,ht]at g2 g3;rw[WM]at g2;exact⟨by omega,g3,by omega,by omega,by omega⟩
 .rw[show((0:Nat):Int)=0 from rfl]at g;rw[g,bs];exact⟨false,rfl,fun h=>by cases h⟩
def mq:aJ:=⟨0,0,[],[],[],0,⟨false,[]⟩,[],0,0⟩
def w0(s0 s1:aJ):bA:=⟨(s0,s1),([],[]),fun _=>[],([],[]),fun _=>false,0,false,false,false⟩
theorem Pv dP:(iter (fun s=>qi FF dP s.1 s.2) FF (w0 mq mq,0)=some (.inl (w0 {(iJ 0 dP.ak.1).1 with Length:=dP.bL.1} {(iJ 1 dP.ak.2).1 with Length:=dP.bL.2}))/\(iJ 0 dP.ak.1).2=0/\(iJ 1 dP.ak.2).2=0)\/
 ((∃c,iter (fun s=>qi FF dP s.1 s.2) FF (w0 mq mq,0)=some (.inr (c,false)))/\((iJ 0 dP.ak.1).2≠0\/(iJ 1 dP.ak.2).2≠0)):=by
 obtain⟨G,hG⟩:∃G,FF=G+3:=⟨FF-3,by have:=ff;omega⟩;have hFF:1000<FF:=by have:=ff;omega
 have hit:∀s:bA×Int,iter (fun s=>qi FF dP s.1 s.2) FF s=iter (fun s=>qi FF dP s.1 s.2) (G+1+1+1) s:=fun s=>by rw[hG]
 rw[hit];by_cases h0:(iJ 0 dP.ak.1).2=0
 .have s1:qi FF dP (w0 mq mq) 0=some (.next (w0 {(iJ 0 dP.ak.1).1 with Length:=dP.bL.1} mq,1)):=by
   unfold qi;rw[i6,i6,Hz FF 0 _ hFF,bs,nG0 (by simp[h0])];rfl
  rw[bY (body:=fun s=>qi FF dP s.1 s.2) (s:=(w0 mq mq,0)) s1];by_cases h1:(iJ 1 dP.ak.2).2=0
  .refine .inl ⟨?_,h0,h1⟩;have s2:qi FF dP (w0 {(iJ 0 dP.ak.1).1 with Length:=dP.bL.1} mq) 1=some (.next (w0 {(iJ 0 dP.ak.1).1 with Length:=dP.bL.1} {(iJ 1 dP.ak.2).1 with Length:=dP.bL.2},2)):=by
    unfold qi;rw[i6,nG0 (by decide),i6,Hz FF 1 _ hFF,bs,nG0 (by simp[h1])];rfl
   rw[bY (body:=fun s=>qi FF dP s.1 s.2) (s:=(w0 {(iJ 0 dP.ak.1).1 with Length:=dP.bL.1} mq,1)) s2];have s3:qi FF dP (w0 {(iJ 0 dP.ak.1).1 with Length:=dP.bL.1} {(iJ 1 dP.ak.2).1 with Length:=dP.bL.2}) 2=some (.done (.inl (w0 {(iJ 0 dP.ak.1).1 with Length:=dP.bL.1} {(iJ 1 dP.ak.2).1 with Length:=dP.bL.2}))):=nG0 (by decide);exact bF (body:=fun s=>qi FF dP s.1 s.2) s3
  .refine .inr ⟨?_,.inr h1⟩;have s2:∃c,qi FF dP (w0 {(iJ 0 dP.ak.1).1 with Length:=dP.bL.1} mq) 1=some (.done (.inr (c,false))):=by
    unfold qi;rw[i6,nG0 (by decide),i6,Hz FF 1 _ hFF,bs,pG0 (by simpa using h1)];exact⟨_,rfl⟩
   obtain⟨c,s2⟩:=s2;exact⟨c,bF (body:=fun s=>qi FF dP s.1 s.2) s2⟩
 .refine .inr ⟨?_,.inl h0⟩;have s1:∃c,qi FF dP (w0 mq mq) 0=some (.done (.inr (c,false))):=by
   unfold qi;rw[i6,i6,Hz FF 0 _ hFF,bs,pG0 (by simpa using h0)];exact⟨_,rfl⟩
  obtain⟨c,s1⟩:=s1;exact⟨c,bF (body:=fun s=>qi FF dP s.1 s.2) s1⟩
def OP(dP:vH):Prop:=∀x∈dP.eZ,0<=x.bj/\(0<=x.N/\x.N<=255)/\0<=x.aY/\(0<=x.bT/\x.bT<=65535)/\∀b∈x.ax,Byte b
theorem aby{dP}(hg:OP dP)(h60:dP.eZ.length<=60)(hb:∀x∈dP.eZ,x.ax.length<=4096)(hsum:(dP.eZ.map fun x=>x.ax.length).sum<=4096) :
 ((∃c,q3w FF dP=some (c,false))/\q55 FF dP=some true)\/
 ∃c nn,q3w FF dP=some (c,true)/\(iJ 0 dP.ak.1).2=0/\(iJ 1 dP.ak.2).2=0/\Rel nn (ny 20000 ((dP.eZ.map jo).foldl nM (jQ dP.ak.1 dP.ak.2 dP.bL.1 dP.bL.2))).1 c:=by
 have hFF:1000<FF:=by have:=ff;omega
 have hag:∀x∈dP.eZ,Wi x:=fun x hx=>by
  obtain⟨a1,a2,a3,a4,a5⟩:=hg x hx;exact⟨a1,a2,a3,⟨a4,hb x hx,a5⟩⟩
 have hrun:q3w FF dP=(iter (fun s=>qi FF dP s.1 s.2) FF (w0 mq mq,0)).bind fun o=>(match o with
  | .inl u=>q6d FF dP u
  | .inr u=>some u):=rfl
 rw[hrun];rcases Pv dP with⟨h1,n0,n1⟩|⟨⟨c,h1⟩,h2⟩
 .refine .inr ?_;rw[h1,bs];simp only
  unfold q6d;obtain⟨i1,i2,i3⟩:=Km dP.bL.1 dP.bL.2 n0 n1;have hm:rW (fun _=>[]) (jQ dP.ak.1 dP.ak.2 dP.bL.1 dP.bL.2)=0:=by unfold rW;omega
  have hc:=Dr (dP.eZ.map jo);have hce:(dP.eZ.map fun x=>cost (jo x))=(dP.eZ.map jo).map cost:=by rw[List.map_map];rfl
  have hbe:((dP.eZ.map jo).map fun x=>x.ax.length)=dP.eZ.map fun x=>x.ax.length:=by rw[List.map_map];rfl
  rw[hbe,List.length_map]at hc;have hR0:Rel 0 (jQ dP.ak.1 dP.ak.2 dP.bL.1 dP.bL.2) (w0 {(iJ 0 dP.ak.1).1 with Length:=dP.bL.1} {(iJ 1 dP.ak.2).1 with Length:=dP.bL.2}):=⟨rfl,rfl,⟨lR _,lR _⟩,rfl,fun _=>lR _,rfl⟩;obtain⟨c1,g1,g2⟩:=OA (dP:=dP) rfl h60 hag dP.eZ 0 FF _ _ _ _ (by simp) (by simp) (by have:=ff;omega) i1 (by rw[hce];omega) (by rw[hce];omega) hR0;obtain⟨L,r,q1,q2,q3,_⟩:=DC (dP.eZ.map jo) _ _ _ i1 (fun x hx=>by
   obtain⟨y,hy,rfl⟩:=List.mem_map.1 hx;exact(hag y hy).ok) (by omega)
  obtain⟨c2,k1,k2⟩:=NU 20000 0 FF _ c1 L r (by omega) (by have:=ff;omega) q1 (by omega) (by omega) g1;have agf:=(EU dP.bL.1 dP.bL.2 n0 n1 (dP.eZ.map jo) (fun x hx=>by
   obtain⟨y,hy,rfl⟩:=List.mem_map.1 hx;exact(hag y hy).ok) (by rw[List.length_map];exact h60) (by rw[hbe];exact hsum)).1
  rw[agf,pG0 rfl]at k2;rw[show((0:Nat):Int)=0 from rfl]at g2 k2;have g2':iter (fun s=>Xw FF dP s.1 s.2) FF ({w0 {(iJ 0 dP.ak.1).1 with Length:=dP.bL.1} {(iJ 1 dP.ak.2).1 with Length:=dP.bL.2}with aP:=(([]:List eY),([]:List eY)),aw:=(([]:List bq),([]:List bq)),params:=0,data:=false,frame:=false,answer:=false},0)=some c1:=g2;rw[g2',bs];unfold q84;rw[k2,bs];exact⟨c2,_,rfl,n0,n1,k1⟩
 .refine .inl ⟨⟨c,by rw[h1,bs]⟩,?_⟩;unfold q55;rw[Nr FF 0 _ hFF,bs,Nr FF 1 _ hFF,bs];congr 1;simp only[Bool.or_eq_true,bne_iff_ne];exact h2
open St Po Cx
def Mt(c d:aM):Prop:=d.al=c.ap/\d.bT=c.bT/\d.dh=c.gu/\d.cZ=c.bJ/\d.aC=c.aG/\(c.Out=[]\/d.bd<=0)
structure Mtd(a b:List aM):Prop where
 nQ:IU b
 has:∀c∈a,c.ba=false/\∃d∈b,d.ap=c.al
 mt:∀c∈a,∀d∈b,d.ap=c.al->Mt c d
 len:a.length=b.length
 few:b.length<=16
theorem LV{s t}(h:Replay s [] t):t=s:=by
 cases h;rfl
theorem QB{r w}(hO:Ord (fun _=>[]) r w)(hC:Cj (fun _=>[]) w)(hi:∀k,Idle (w.s k)):w.dat=false/\∀k,Mtd (w.s k).aj (w.s (!k)).aj:=by
 obtain⟨S,h⟩:=hC;have hS:∀k,S k=vw (w.s k):=fun k=>LV (h.two k).1.rp;have XW:∀k v,¬ iH (vw (w.s k)) v:=fun k v ⟨r,a,b,_⟩=>by
  rw[<-hS]at a;have:=((h.two k).1.jk r).1 a;exact nomatch this.2.2
 have lk:∀k c,c∈(w.s k).aj->∃d∈(w.s (!k)).aj,d.ap=c.al/\Link c d:=fun k c hc=>by
  have hv:(vw (w.s k)).ch c.ap=some c:=(fZ (hO.side k).inv.nQ).2 ⟨hc,rfl⟩;obtain⟨d,d1,_,d3,_⟩:=(h.two k).1.lk c.ap c (by rw[hS];exact hv) (by rw[hS];exact XW k _);rw[hS]at d1;obtain⟨q1,q2⟩:=(fZ (hO.side (!k)).inv.nQ).1 d1;exact⟨d,q1,q2,d3⟩
 have le:∀k,(w.s k).aj.length<=(w.s (!k)).aj.length:=fun k=>by
  have h1:((w.s k).aj.map (·.al)).Nodup:=by
   have hs:(w.s k).aj.Pairwise fun a b=>a.al≠b.al:=by
    have Qo:=(h.two k).1.vi;have:∀l:List aM,IU l->(∀c∈l,(vw (w.s k)).ch c.ap=some c)->l.Pairwise fun a b=>a.al≠b.al:=fun l=>by
     induction l with
     | nil=>exact fun _ _=>.nil
     | cons x l ih=>
       intro hs hm;obtain⟨p1,p2⟩:=List.pairwise_cons.1 hs;refine List.pairwise_cons.2 ⟨fun y hy e=>?_,ih p2 fun c hc=>hm c (by simp[hc])⟩;have:=Qo.rem _ _ _ _ (hm x (by simp)) (hm y (by simp[hy])) e;have:=p1 y hy;omega
    exact this _ (hO.side k).inv.nQ fun c hc=>(fZ (hO.side k).inv.nQ).2 ⟨hc,rfl⟩
   unfold List.Nodup;rw[List.pairwise_map];exact hs
  have:=jK _ ((w.s (!k)).aj.map (·.ap)) h1 fun x hx=>by grind
  rw[List.length_map,List.length_map]at this;exact this
 refine⟨h.dat,fun k=>⟨(hO.side (!k)).inv.nQ,fun c hc=>?_,fun c hc d hd e=>?_,?_,(hO.side (!k)).inv.rE⟩⟩
 .obtain⟨d,d1,d2,d3⟩:=lk k c hc;exact⟨d3.fc,d,d1,d2⟩
 .obtain⟨d',d1,d2,d3⟩:=lk k c hc;have hdd:=Ab (hO.side (!k)).inv.nQ hd d1 (by rw[e,d2]);rw[hdd];refine⟨d3.back,d3.psm.symm,d3.one.nV.symm,d3.one.mps.symm,d3.one.cr.symm,?_⟩;rcases hi k c hc with q|q|q|q
  .exact absurd (mK.2 q) (XW k _)
  .rw[d3.fc]at q;cases q
  .exact .inl q
  .right;have hv:(vw (w.s (!k))).ch d'.ap=some d':=(fZ (hO.side (!k)).inv.nQ).2 ⟨d1,rfl⟩;have hg:=h.gv (!k) _ d' hv (XW _ _);have hcr:=d3.one.cr;have hgi:=((hO.side (!k)).inv.oZ d' d1).given;unfold Gv at hg;omega
 .grind
theorem Oq{v}:∀{l},IU l->(∃d∈l,d.ap=v)->l.countP (fun d=>d.ap==v)=1
 | [],_,h=>by obtain⟨d,hd,_⟩:=h;cases hd
 | x::l,hs,h=>by
   obtain⟨p1,p2⟩:=List.pairwise_cons.1 hs;rw[List.countP_cons];by_cases hx:x.ap=v
   .have:l.countP (fun d=>d.ap==v)=0:=by
     rw[List.countP_eq_zero];intro d hd e;have:=p1 d hd;simp only[beq_iff_eq]at e;omega
    rw[this];simp[hx]
   .obtain⟨d,hd,e⟩:=h;have hdl:d∈l:=(List.mem_cons.1 hd).resolve_left fun z=>hx (by rw[<-z];exact e);rw[Oq p2 ⟨d,hdl,e⟩];simp[hx]
theorem CQ{b:aJ}{c}(hf:b.aj.length<=16)(hm:∀d∈b.aj,d.ap=c.al->Mt c d):∀d i F n,i+d=b.aj.length->d<F->n<=i->iter (fun s=>PN FF b c s.1 s.2) F ((n:Int),(i:Int))=some (.inl ((n+(b.aj.drop i).countP fun d=>d.ap==c.al:Nat):Int))
 | 0,i,F,n,h,hF,_=>by
   obtain⟨F,rfl⟩:∃G,F=G+1:=⟨F-1,by omega⟩;refine bF ?_;show PN FF b c (n:Int) (i:Int)=_;unfold PN;rw[f9,List.drop_of_length_le (by omega)];rfl
 | d+1,i,F,n,h,hF,hn=>by
   obtain⟨F,rfl⟩:∃G,F=G+1:=⟨F-1,by omega⟩;have hi:i<b.aj.length:=by omega
   have hc:b.aj[i]?=some b.aj[i]:=gE hi;have hw:aL ((i:Int)+1)=((i+1:Nat):Int):=wN i (by omega);have hw2:aL ((n:Int)+1)=((n+1:Nat):Int):=wN n (by omega);rw[List.drop_eq_getElem_cons hi,List.countP_cons];by_cases hl:b.aj[i].ap=c.al
   .obtain⟨m1,m2,m3,m4,m5,m6⟩:=hm _ (gM hi) hl;have hs:PN FF b c (n:Int) (i:Int)=some (.next (((n+1:Nat):Int),((i+1:Nat):Int))):=by
     unfold PN;rw[i5,aX hc,bs,nG0 (by simp[hl])];rw[nG0 (by
      simp only[m1,m2,m3,m4,m5,bne_self_eq_false,Bool.false_or,Bool.and_eq_true,decide_eq_true_eq];rintro⟨q1,q2⟩;rcases m6 with m6|m6
      .rw[m6]at q1;simp[len]at q1
      .omega)]
     unfold q5u;rw[hw,hw2]
    rw[bY (body:=fun s=>PN FF b c s.1 s.2) (s:=((n:Int),(i:Int))) hs];rw[CQ hf hm d (i+1) F (n+1) (by omega) (by omega) (by omega),pG0 (by simp[hl])];have e:n+1+(b.aj.drop (i+1)).countP (fun d=>d.ap==c.al)=n+((b.aj.drop (i+1)).countP (fun d=>d.ap==c.al)+1):=by omega
    rw[e]
   .have hs:PN FF b c (n:Int) (i:Int)=some (.next ((n:Int),((i+1:Nat):Int))):=by
     unfold PN;rw[i5,aX hc,bs,pG0 (by simpa using hl)];unfold q5u;rw[hw]
    rw[bY (body:=fun s=>PN FF b c s.1 s.2) (s:=((n:Int),(i:Int))) hs];rw[CQ hf hm d (i+1) F n (by omega) (by omega) (by omega),nG0 (by simpa using hl)];rfl
theorem FK{a b:aJ}(h:Mtd a.aj b.aj):∀d i F,i+d=a.aj.length->d<F->iter (fun s=>q22 FF a b s) F (i:Int)=some (.inl ())
 | 0,i,F,hi,hF=>by
   obtain⟨F,rfl⟩:∃G,F=G+1:=⟨F-1,by omega⟩;refine bF ?_;show q22 FF a b (i:Int)=_;unfold q22;exact nG0 (by simp[len];omega)
 | d+1,i,F,hd,hF=>by
   obtain⟨F,rfl⟩:∃G,F=G+1:=⟨F-1,by omega⟩;have hi:i<a.aj.length:=by omega
   have hc:a.aj[i]?=some a.aj[i]:=gE hi;have hcm:=gM hi;have hlen:=h.len;have hfew:=h.few;have hw:aL ((i:Int)+1)=((i+1:Nat):Int):=wN i (by omega);obtain⟨q1,q2⟩:=h.has _ hcm;have hin:=CQ (c:=a.aj[i]) h.few (fun d hd e=>h.mt _ hcm d hd e) b.aj.length 0 FF 0 (by omega) (by have:=FFk;omega) (lR _);rw[List.drop_zero,Oq h.nQ q2]at hin;have hs:q22 FF a b (i:Int)=some (.next ((i+1:Nat):Int)):=by
    unfold q22;rw[i5,aX hc,bs];have e0:iter (fun s=>PN FF b a.aj[i] s.1 s.2) FF (0,0)=some (.inl 1):=hin;rw[e0,bs];simp only
    unfold q8c q8b;rw[nG0 (by simp[q1]),hw]
   rw[bY (body:=fun s=>q22 FF a b s) (s:=(i:Int)) hs];exact FK h d (i+1) F (by omega) (by omega)
theorem JY{a b}(h:Mtd a.aj b.aj):q1m FF a b=some true:=by
 unfold q1m;have hlen:=h.len;have hfew:=h.few;have:=FK h a.aj.length 0 FF (by omega) (by have:=FFk;omega);rw[show((0:Nat):Int)=0 from rfl]at this;rw[this,bs];unfold q8a;simp[len,hlen]
end Sy
open Sy
theorem Iu dP(hg:OP dP):q3y FF dP=some true:=by
 unfold q3y;obtain⟨b,h1,h2⟩:=TU dP;rw[h1,bs,UD];cases b with
 | false=>rfl
 | true=>
   obtain⟨a1,a2,a3,_,_⟩:=h2 rfl;rw[f8];rcases aby hg a1 a2 a3 with⟨⟨c,r1⟩,r2⟩|⟨c,nn,r1,n0,n1,hR⟩
   .grind
   .rw[r1,bs];simp only
    rw[f8];obtain⟨_,r,hO,hC,hi⟩:=EU dP.bL.1 dP.bL.2 n0 n1 (dP.eZ.map jo) (fun x hx=>by
     obtain⟨y,hy,rfl⟩:=List.mem_map.1 hx;obtain⟨_,_,_,b4,b5⟩:=hg y hy;exact⟨b4,a2 y hy,b5⟩) (by rw[List.length_map];exact a1) (by rw[List.map_map];exact a3)
    generalize (ny 20000 ((dP.eZ.map jo).foldl nM (jQ dP.ak.1 dP.ak.2 dP.bL.1 dP.bL.2))).1=W at hR hO hC hi;obtain⟨e1,e2⟩:=QB hO hC hi;have hd:=hR.dat;rw[e1]at hd;have hs:=hR.ai;have m0:q1m FF W.s0 W.s1=some true:=JY (e2 false);have m1:q1m FF W.s1 W.s0=some true:=JY (e2 true);rw[hd,pG0 (by rfl),hs];simp only
    rw[m0,bs,pG0 rfl,m1,bs,pG0 rfl];rfl
end V
end Go.Proofs.YtbgfhaahhdnogaaGreat
