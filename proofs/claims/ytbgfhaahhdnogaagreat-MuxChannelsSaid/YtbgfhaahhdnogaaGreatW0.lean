/- Walks, wn by program: each Go function returns what its -/
import Derived.Test.YtbgfhaahhdnogaaGreatRep
namespace Go.Proofs.YtbgfhaahhdnogaaGreat
namespace V
def Y15a(t_1:vH):List Item:=[.d 5 dA t_1.ak.1,.d 5 dA t_1.ak.2,.d 14 IJ t_1.eZ,.k 55 (hx3 t_1 0)]
theorem kq3z F c r(b:q3z F c=some r):Spec Tryz.prog 15 [.g (hx3 c 0)] [.d 5 dA c.ak.1,.d 5 dA c.ak.2,.d 14 IJ c.eZ] (vb r) [.e,.e,.e]:=by
 refine eN Tryz.func15 rfl Tryz.ntmps15 rfl rfl fun fx=>?_;refine Z.s<|M.f (bR (E:=55) (hx3 c 0) K)<|M.n d 1 [1] []<|M.nT<|Z.n d [1] [(3,J 0)]<|Z.cut (fun a w=>∃g,q6e F c g=some r/\A 55 3 fx [(1,vp 3 0),(3,J g)] (Y15a c) a w) ?_ ?_
 .refine Z.n d [1,3] [(4,J 0)]<|Z.block ?_;obtain⟨o1,hi1,ho1⟩:=bI b;clear b;refine Z.loop (fun n a w=>∃(f e:Int),iter (fun s=>qw F c s.1 s.2) n (f,e)=some o1/\A 55 3 fx [(1,vp 3 0),(3,J f),(4,J e)] (Y15a c) a w) F (fun a w h=>⟨0,0,hi1,h.t (gs 4)⟩) ?_;rintro n1 a w ⟨f,e,hi1,h⟩;obtain⟨n1,q1,rfl,b,hs1⟩:=iI hi1;replace b:qw F c f e=some q1:=b;clear hi1;refine h.go<|Z.seq<|Z.n d [1,3,4] [(13,vb ((decide (e<len c.eZ))&&(decide (e<60))))]<|Z.j b (fun b=>?_) fun b=>?_
  .refine Z.aF<|Z.seq<|Z.block<|Z.seq ?_;obtain⟨k,l,b⟩:=bI b;refine Z.pre (pX (i:=2) (iv:=e) (sz:=14) (R:=IJ) (l:=c.eZ) K rfl l)<|Z.d d [1,3,4] [(23,vb (decide (len k.ax>4096)))] [] [.el 4] [e]<|Z.j b (fun b=>?_) fun b=>?_
   .refine Z.n d [] [(2,vb false)] ?_;have ho:=dI b hs1;replace b:=ho1
    try rw[ho]at b
    cases b;exact Z.q d (gs 3)
   refine Z.aF<|Z.reg ?_;obtain⟨i,m,b⟩:=bI b;refine M.pre (pX (i:=2) (iv:=e) (sz:=14) (R:=IJ) (l:=c.eZ) K rfl m)<|M.d d 10 [1,4] [(3,J (aL (f+len i.ax)))] [] [.el 6] [e]<|M.nT<|Z.reg<|M.n d 3 [1,3] [(4,J (aL (e+1)))]<|M.aV fun a w h=>?_;exact⟨n1,Nat.lt_succ_self _,aL (f+len i.ax),aL (e+1),nI b hs1,h.t (gs 4)⟩
  refine Z.xJ rfl fun a w h=>?_;have ho:=dI b hs1;replace b:=ho1
  try rw[ho]at b
  exact⟨f,b,h.t (gs 4)⟩
 rintro a w ⟨g,b,h⟩;refine h.go<|Z.n d [] [(2,vb ((((decide (len c.eZ<=60))&&(decide (g<=4096)))&&(decide (len c.ak.1<=10)))&&(decide (len c.ak.2<=10))))] ?_;cases b;exact Z.q d (gs 3)
theorem kq56 F c e r(b:q56 F c e=some r):Spec Tryz.prog 26 [.g (mX c),vp 0 0] [.k 83 (mX e)] (vb r.1) [.k 83 (mX r.2)]:=by
 refine eN Tryz.func26 rfl Tryz.ntmps26 rfl rfl fun fx=>?_;refine Z.s<|M.f (bR (E:=83) (mX c) K)<|M.n d 1 [1,2] []<|M.nT<|Z.n d [] [(3,vb (c.bT==e.bT))] ?_;cases b;exact Z.q d [.g 0]
theorem kq40 F e g r(b:q40 F e g=some r):Spec Tryz.prog 67 [vs 0,.f 26 [.p 1 0]] [.d 5 dA e,.k 83 (mX g)] (J r.1) [.e,.k 83 (mX r.2)]:=by
 refine eN Tryz.func67 rfl Tryz.ntmps67 rfl rfl fun fx=>?_;refine Z.n d [0,1] []<|Z.cut (fun a w=>∃i,q8d F i=some r/\A 19 2 fx [] [.e,.k 83 (mX i)] a w) ?_ ?_
 .refine Z.n d [0,1] [(7,J (len e)),(8,J 0)]<|Z.block ?_;obtain⟨o1,hi1,ho1⟩:=bI b;clear b;refine Z.loop (fun n a w=>∃(f:fI) (c:Int),iter (fun s=>ZU F e s.1 s.2) n (f,c)=some o1/\A 19 2 fx [(0,vs 0),(1,.f 26 [.p 1 0]),(7,J (len e)),(8,J c)] [.d 5 dA e,.k 83 (mX f)] a w) F (fun a w h=>⟨g,0,hi1,h.t [.g 0,.g 1]⟩) ?_;rintro n1 a w ⟨f,c,hi1,h⟩;obtain⟨n1,q1,rfl,b,hs1⟩:=iI hi1;replace b:ZU F e f c=some q1:=b;clear hi1;refine h.go<|Z.n d [0,1,7,8] [(9,vb (decide (c<len e)))]<|Z.seq<|Z.j b (fun b=>?_) fun b=>?_
  .refine Z.aF<|Z.seq<|Z.block<|Z.n d [0,1,7,8] [(5,J c)]<|Z.s ?_;obtain⟨k,m,b⟩:=bI b;refine M.pre (pX (i:=0) (iv:=c) (sz:=5) (R:=dA) (l:=e) K rfl m)<|M.d d 5 [0,1,5,7,8] [(11,.f 26 [.p 1 0]),(15,.g (mX k))] [] [.el 2] [c] ?_;obtain⟨l,p,b⟩:=bI b;refine M.f (bD Tryz.call26 (kq56 F k f _ p) [.g 1] [.g (mX k),vp 1 0] (vb l.1) K iR)<|M.nT<|Z.j b (fun b=>?_) fun b=>?_
   .refine Z.n d [] [(4,J c)] ?_;have ho:=dI b hs1;replace b:=ho1
    try rw[ho]at b
    cases b;exact Z.q d [.g 0,.g 1]
   refine Z.aF<|Z.reg<|M.n d 2 [0,1,7] [(8,J (aL (c+1)))]<|M.aV fun a w h=>?_;exact⟨n1,Nat.lt_succ_self _,l.2,aL (c+1),nI b hs1,h.t [.g 0,.g 1]⟩
  refine Z.xJ rfl fun a w h=>?_;have ho:=dI b hs1;replace b:=ho1
  try rw[ho]at b
  exact⟨f,b,h.t [.g 0,.g 1]⟩
 rintro a w ⟨i,b,h⟩;refine h.go<|Z.n d [] [(4,J (-1))] ?_;cases b;exact Z.q d [.g 0,.g 1]
theorem kq41 F c e r(b:q41 F c e=some r):Spec Tryz.prog 25 [vs 0,.f 26 [.p 1 0]] [.d 5 dA c,.k 83 (mX e)] (vb r.1) [.e,.k 83 (mX r.2)]:=by
 refine eN Tryz.func25 rfl Tryz.ntmps25 rfl rfl fun fx=>?_;refine Z.n d [0,1] []<|Z.s<|M.n d 2 [] [(5,vs 0),(6,.f 26 [.p 1 0])] ?_;obtain⟨f,g,b⟩:=bI b;refine M.f (bD Tryz.call67 (kq40 F c e _ g) [.g 0,.g 1] [vs 0,.f 26 [.p 1 0]] (J f.1) K iR)<|M.n d 2 [] [(4,vb (decide (f.1>=0)))]<|M.nT ?_;cases b;exact Z.q d [.g 0,.g 1]
theorem kqn F c e f r(b:qn F c e f=some r):Spec Tryz.prog 28 [J c,J e,J f] [] (vb r) []:=by
 refine eN Tryz.func28 rfl Tryz.ntmps28 rfl rfl fun fx=>?_;refine Z.n d [0,1,2] []<|Z.n d [] [(6,vb ((decide (c>=e))&&(decide (c<=f))))] ?_;cases b;exact Z.q d []
theorem kqx F c r(b:qx F c=some r):Spec Tryz.prog 27 [J c] [] (vb r) []:=by
 refine eN Tryz.func27 rfl Tryz.ntmps27 rfl rfl fun fx=>?_;refine Z.n d [0] []<|Z.s<|M.n d 1 [] [(3,J c)] ?_;obtain⟨e,f,b⟩:=bI b;refine M.f (bD Tryz.call28 (kqn F c 23 4096 _ f) [] [J c,J 23,J 4096] (vb e) K iR)<|M.n d 1 [] [(2,vb e)]<|M.nT ?_;cases b;exact Z.q d []
theorem kq24 F c r(b:q24 F c=some r):Spec Tryz.prog 29 [vs 0] [.d 5 dA c] (vs 1) [.e,.d 5 dA r]:=by
 refine eN Tryz.func29 rfl Tryz.ntmps29 rfl rfl fun fx=>?_;refine Z.n d [0] []<|Z.seq<|Z.s<|M.n d 1 [0] [(3,vs 0)]<|M.f (AB d rfl rfl rfl rfl K)<|M.nT<|Z.Ap 0 rfl rfl (by decide) (fun hnil=>?_)
 cases hq:rP fx 0
 .refine Z.iff rfl<|Z.aF<|Z.s<|M.f (eL (sz:=5) (E:=83) (R:=dA) (dF:=40) d [] ([]:List fI) K trivial rfl K K)<|M.n d 1 [5] [(6,vs 0)] ?_;obtain⟨g,e,b⟩:=bI b;refine M.f (gW (i:=1) (l:=([]:List fI)) (sz:=5) (E:=83) (R:=dA) (dF:=40) (m:=c) d rfl K rfl (.r K) e K)<|M.n d 1 [] [(2,vs 2)]<|M.nT ?_;cases b;exact Z.q d [.g 0,.z 2]
 obtain rfl:=hnil hq;have b:(some []:Option (List fI))=some r:=by rw[<-b];first|rfl|simp[app]
 refine Z.Rl rfl<|Z.n d [] [(2,vn)] ?_;cases b;exact Z.q d [.g 0,.n]
def Y9a(f:List fI):List Item:=[.d 5 dA f,.k 31 zM]
theorem Yc F l c r(b:q12 F l c=some r):Spec Tryz.prog 9 [J l,vs 0] [.d 5 dA c] (.u [.inr (bn r.1 1),.inl (cI r.2)]) ([.e]++mI r.1):=by
 refine eN Tryz.func9 rfl Tryz.ntmps9 rfl rfl fun fx=>?_;refine Z.s<|M.f (eA (E:=31) d zM K)<|M.n d 1 [0,1,4] []<|M.nT<|Z.seq<|Z.block<|Z.n d [0,1,4] [(9,vb ((l != 0)&&(l != 1)))]<|Z.j b (fun b=>?_) fun b=>?_
 .refine Z.d d [4] [(5,J 1)] [(1,31,zM)] [] [] ?_;cases b;exact Z.q d [.g 0,.n,.n,.n,.n,.n]
 refine Z.n d [0,1,4] [(17,vb (decide (len c>64)))]<|Z.j b (fun b=>?_) fun b=>?_
 .refine Z.d d [4] [(5,J 4)] [(1,31,zM)] [] [] ?_;cases b;exact Z.q d [.g 0,.n,.n,.n,.n,.n]
 refine Z.aF<|Z.cut (fun a w=>q6f F l c=some r/\A 71 1 fx [(0,J l),(1,vs 0),(4,vp 1 0)] (Y9a c) a w) ?_ ?_
 .refine Z.n d [0,1,4] [(22,vs 0),(23,J (len c)),(24,J 0)]<|Z.block ?_;obtain⟨o1,hi1,ho1⟩:=bI b;clear b;refine Z.loop (fun n a w=>∃(f:Int),iter (fun s=>ZT F c s) n f=some o1/\A 71 1 fx [(0,J l),(1,vs 0),(4,vp 1 0),(22,vs 0),(23,J (len c)),(24,J f)] (Y9a c) a w) F (fun a w h=>⟨0,hi1,h.t [.g 0,.g 1]⟩) ?_;rintro n1 a w ⟨f,hi1,h⟩;obtain⟨n1,q1,rfl,b,hs1⟩:=iI hi1;replace b:ZT F c f=some q1:=b;clear hi1;refine h.go<|Z.n d [0,1,4,22,23,24] [(25,vb (decide (f<len c)))]<|Z.seq<|Z.j b (fun b=>?_) fun b=>?_
  .refine Z.aF<|Z.seq<|Z.block<|Z.s ?_;obtain⟨m,C,b⟩:=bI b;refine M.pre (pX (i:=0) (iv:=f) (sz:=5) (R:=dA) (l:=c) K rfl C)<|M.d d 3 [0,1,4,22,23,24] [(26,J f),(28,.g (mX m))] [] [.el 2] [f]<|M.f (eA (E:=83) d (mX (fI.mk 0 0 0 0 0)) K)<|M.d d 2 [0,1,4,7,22,23,24] [(6,J f)] [(3,83,mX m)] [] []<|M.nT<|Z.s<|M.n d 2 [0,1,4,7,22,23,24] [(29,vs 0),(30,J f)] ?_;obtain⟨u,D,b⟩:=bI b;refine M.f (Dp (sz:=5) (E:=83) (R:=dA) (dF:=40) (l:=c) d rfl (.inl ⟨0,rfl,K⟩) rfl rfl D K)<|M.n d 1 [0,1,4,7,22,23,24,31] [(32,.f 26 [.p 3 0])] ?_;obtain⟨e,E,b⟩:=bI b;refine M.f (bD Tryz.call25 (kq41 F u m _ E) [.g 4,.g 3] [vs 4,.f 26 [.p 3 0]] (vb e.1) K iR)<|M.n d 1 [0,1,4,7,22,23,24] [(8,vb e.1)]<|M.nT<|Z.block<|Z.n d [0,1,4,7,8,22,23,24] [(34,vb (e.2.bT==0))]<|Z.j b (fun b=>?_) fun b=>?_
   .refine Z.d d [4] [(5,J 1)] [(1,31,zM)] [] [] ?_;have ho:=dI b hs1;replace b:=ho1
    try rw[ho]at b
    cases b;exact Z.q d [.g 0,.n,.n,.n,.n,.n]
   refine Z.n d [0,1,4,7,22,23,24] [(39,vb e.1)]<|Z.j b (fun b=>?_) fun b=>?_
   .refine Z.d d [4] [(5,J 7)] [(1,31,zM)] [] [] ?_;have ho:=dI b hs1;replace b:=ho1
    try rw[ho]at b
    cases b;exact Z.q d [.g 0,.n,.n,.n,.n,.n]
   refine Z.s<|M.n d 2 [0,1,4,7,22,23,24] [(44,J e.2.dh)] ?_;obtain⟨p,G,b⟩:=bI b;refine M.f (bD Tryz.call27 (kqx F e.2.dh _ G) [] [J e.2.dh] (vb p) K iR)<|M.norm (bC:=(Y9a c++[.elt (some (0,f)) false (mX m),.k 83 (mX e.2),.d 5 dA u])) K<|M.n d 2 [0,1,4,7,22,23,24] [(47,vb (!p))] ?_;obtain⟨q,hz,hpr⟩:=bI b;clear b;refine M.cutAt 5 (fun a w=>A 71 1 fx [(0,J l),(1,vs 0),(4,vp 1 0),(7,vp 2 0),(22,vs 0),(23,J (len c)),(24,J f),(52,vb q)] (Y9a c++[.k 83 (mX e.2)]) a w) ?_ ?_
   .have b:=hz;rcases bB (!p)with g|g
    .replace b:=gy b g;refine M.no rfl rfl g rfl<|M.no rfl rfl g rfl<|M.no rfl rfl g rfl<|M.no rfl rfl g rfl<|M.jg rfl g rfl rfl<|M.aV fun a w h=>?_;cases b;exact h.t [.g 0,.g 1,.g 3]
    replace b:=dU b g;refine M.yes rfl rfl g<|M.n d 1 [0,1,4,7,22,23,24,47] [(48,vp 3 2)]<|M.yes rfl rfl g<|M.n d 1 [0,1,4,7,22,23,24,47,48] [(49,J e.2.cZ)]<|M.yes rfl rfl g ?_;obtain⟨v,H,b⟩:=bI b;refine M.f (bD Tryz.call27 (kqx F e.2.cZ _ H) [] [J e.2.cZ] (vb v) K iR)<|M.yes rfl rfl g<|M.n d 1 [0,1,4,7,22,23,24,47,48,49,50] [(51,vb (!v))]<|M.iW rfl g rfl rfl<|M.aV fun a w h=>?_;cases b;exact h.t [.g 0,.g 1,.g 3]
   intro a w h;have b:=hpr;clear hpr hz;refine h.Aw<|M.n d 1 [0,1,4,7,22,23,24] [(53,vb q)] ?_;obtain⟨t,hz,hpr⟩:=bI b;clear b;refine M.cutAt 5 (fun a w=>A 71 1 fx [(0,J l),(1,vs 0),(4,vp 1 0),(7,vp 2 0),(22,vs 0),(23,J (len c)),(24,J f),(58,vb t)] (Y9a c++[.k 83 (mX e.2)]) a w) ?_ ?_
   .have b:=hz;rcases bB (q)with i|i
    .replace b:=gy b i;refine M.no rfl rfl i rfl<|M.no rfl rfl i rfl<|M.no rfl rfl i rfl<|M.no rfl rfl i rfl<|M.jg rfl i rfl rfl<|M.aV fun a w h=>?_;cases b;exact h.t (gs 3)
    replace b:=dU b i;refine M.yes rfl rfl i<|M.n d 1 [0,1,4,7,22,23,24,53] [(54,vp 2 3)]<|M.yes rfl rfl i<|M.n d 1 [0,1,4,7,22,23,24,53,54] [(55,J e.2.aA)]<|M.yes rfl rfl i ?_;obtain⟨y,L,b⟩:=bI b;refine M.f (bD Tryz.call28 (kqn F e.2.aA 0 65535 _ L) [] [J e.2.aA,J 0,J 65535] (vb y) K iR)<|M.yes rfl rfl i<|M.n d 1 [0,1,4,7,22,23,24,53,54,55,56] [(57,vb (!y))]<|M.iW rfl i rfl rfl<|M.aV fun a w h=>?_;cases b;exact h.t (gs 3)
   intro a w h;have b:=hpr;clear hpr hz;refine h.Aw<|M.n d 1 [0,1,4,7,22,23,24] [(59,vb t)] ?_;obtain⟨z,hz,hpr⟩:=bI b;clear b;refine M.cutAt 5 (fun a w=>A 71 1 fx [(0,J l),(1,vs 0),(4,vp 1 0),(22,vs 0),(23,J (len c)),(24,J f),(64,vb z)] (Y9a c) a w) ?_ ?_
   .have b:=hz;rcases bB (t)with k|k
    .replace b:=gy b k;refine M.no rfl rfl k rfl<|M.no rfl rfl k rfl<|M.no rfl rfl k rfl<|M.no rfl rfl k rfl<|M.jg rfl k rfl rfl<|M.aV fun a w h=>?_;cases b;exact h.t [.g 0,.g 1]
    replace b:=dU b k;refine M.yes rfl rfl k<|M.n d 1 [0,1,4,22,23,24,59] [(60,vp 2 4)]<|M.yes rfl rfl k<|M.n d 1 [0,1,4,22,23,24,59,60] [(61,J e.2.bh)]<|M.yes rfl rfl k ?_;obtain⟨B,P,b⟩:=bI b;refine M.f (bD Tryz.call28 (kqn F e.2.bh 0 2 _ P) [] [J e.2.bh,J 0,J 2] (vb B) K iR)<|M.yes rfl rfl k<|M.n d 1 [0,1,4,22,23,24,59,60,61,62] [(63,vb (!B))]<|M.iW rfl k rfl rfl<|M.aV fun a w h=>?_;cases b;exact h.t [.g 0,.g 1]
   intro a w h;have b:=hpr;clear hpr hz;refine h.Aw<|M.n d 1 [0,1,4,22,23,24] [(42,vb z)]<|M.nT<|Z.j b (fun b=>?_) fun b=>?_
   .refine Z.d d [4] [(5,J 5)] [(1,31,zM)] [] [] ?_;have ho:=dI b hs1;replace b:=ho1
    try rw[ho]at b
    cases b;exact Z.q d [.g 0,.n,.n,.n,.n,.n]
   refine Z.aF<|Z.reg<|M.n d 2 [0,1,4,22,23] [(24,J (aL (f+1)))]<|M.aV fun a w h=>?_;exact⟨n1,Nat.lt_succ_self _,aL (f+1),nI b hs1,h.t [.g 0,.g 1]⟩
  refine Z.xJ rfl fun a w h=>?_;have ho:=dI b hs1;replace b:=ho1
  try rw[ho]at b
  exact⟨b,h.t [.g 0,.g 1]⟩
 rintro a w ⟨b,h⟩;refine h.go<|Z.s<|M.n d 2 [4] [(67,J l),(68,vs 0)] ?_;obtain⟨R,Q,b⟩:=bI b;refine M.f (bD Tryz.call29 (kq24 F c _ Q) [.g 0] [vs 0] (vs 2) K iR)<|M.d d 3 [4] [(5,J 0)] [(1,31,[cI l,cI 0,.s 2,nl,nl,cI 1,cb false,nl,nl,cI 0,cI 27])] [] []<|M.nT ?_;cases b;exact Z.q d [.g 0,.g 2,.n,.n,.n,.n]
theorem kq42 F c r(b:q42 F c=some r):Spec Tryz.prog 69 [vs 0] [.d 14 eB c] (vs 1) [.e,.o 14 93 eB r]:=by
 refine eN Tryz.func69 rfl Tryz.ntmps69 rfl rfl fun fx=>?_;refine Z.n d [0] []<|Z.seq<|Z.s<|M.n d 1 [0] [(3,vs 0)]<|M.f (AB d rfl rfl rfl rfl K)<|M.nT<|Z.Ap 0 rfl rfl (by decide) (fun hnil=>?_)
 cases hq:rP fx 0
 .refine Z.iff rfl<|Z.aF<|Z.s<|M.f (eL (sz:=14) (E:=93) (R:=eB) (dF:=96) d [] ([]:List aQ) K trivial rfl K K)<|M.n d 1 [5] [(6,vs 0)] ?_;obtain⟨f,e,b⟩:=bI b;refine M.f (gW (i:=1) (l:=([]:List aQ)) (sz:=14) (E:=93) (R:=eB) (dF:=96) (m:=c) d rfl K rfl (.r K) e K)<|M.n d 1 [] [(2,vs 2)]<|M.nT ?_;cases b;exact Z.q d [.g 0,.g 2]
 obtain rfl:=hnil hq;have b:(some []:Option (List aQ))=some r:=by rw[<-b];first|rfl|simp[app]
 refine Z.Rl rfl<|Z.n d [] [(2,vn)] ?_;cases b;exact Z.q d [.g 0,.n]
theorem kq43 F c r(b:q43 F c=some r):Spec Tryz.prog 70 [vs 0] [.d 15 dJ c] (vs 1) [.e,.o 15 91 dJ r]:=by
 refine eN Tryz.func70 rfl Tryz.ntmps70 rfl rfl fun fx=>?_;refine Z.n d [0] []<|Z.seq<|Z.s<|M.n d 1 [0] [(3,vs 0)]<|M.f (AB d rfl rfl rfl rfl K)<|M.nT<|Z.Ap 0 rfl rfl (by decide) (fun hnil=>?_)
 cases hq:rP fx 0
 .refine Z.iff rfl<|Z.aF<|Z.s<|M.f (eL (sz:=15) (E:=91) (R:=dJ) (dF:=136) d [] ([]:List aM) K trivial rfl K K)<|M.n d 1 [5] [(6,vs 0)] ?_;obtain⟨f,e,b⟩:=bI b;refine M.f (gW (i:=1) (l:=([]:List aM)) (sz:=15) (E:=91) (R:=dJ) (dF:=136) (m:=c) d rfl K rfl (.r K) e K)<|M.n d 1 [] [(2,vs 2)]<|M.nT ?_;cases b;exact Z.q d [.g 0,.g 2]
 obtain rfl:=hnil hq;have b:(some []:Option (List aM))=some r:=by rw[<-b];first|rfl|simp[app]
 refine Z.Rl rfl<|Z.n d [] [(2,vn)] ?_;cases b;exact Z.q d [.g 0,.n]
theorem kq44 F c r(b:q44 F c=some r):Spec Tryz.prog 71 [vs 0] [.d 2 bM c] (vs 1) [.e,.o 2 116 bM r]:=by
 refine eN Tryz.func71 rfl Tryz.ntmps71 rfl rfl fun fx=>?_;refine Z.n d [0] []<|Z.seq<|Z.s<|M.n d 1 [0] [(3,vs 0)]<|M.f (AB d rfl rfl rfl rfl K)<|M.nT<|Z.Ap 0 rfl rfl (by decide) (fun hnil=>?_)
 cases hq:rP fx 0
 .refine Z.iff rfl<|Z.aF<|Z.s<|M.f (eL (sz:=2) (E:=116) (R:=bM) (dF:=32) d [] ([]:List bq) K trivial rfl K K)<|M.n d 1 [5] [(6,vs 0)] ?_;obtain⟨f,e,b⟩:=bI b;refine M.f (gW (i:=1) (l:=([]:List bq)) (sz:=2) (E:=116) (R:=bM) (dF:=32) (m:=c) d rfl K rfl (.r K) e K)<|M.n d 1 [] [(2,vs 2)]<|M.nT ?_;cases b;exact Z.q d [.g 0,.g 2]
 obtain rfl:=hnil hq;have b:(some []:Option (List bq))=some r:=by rw[<-b];first|rfl|simp[app]
 refine Z.Rl rfl<|Z.n d [] [(2,vn)] ?_;cases b;exact Z.q d [.g 0,.n]
theorem Ka F c r(b:qa F c=some r):Spec Tryz.prog 57 [vs 0] [.d 1 (aN 1 R8) c] (vs 1) [.e,.d 1 R8 r]:=by
 refine eN Tryz.func57 rfl Tryz.ntmps57 rfl rfl fun fx=>?_;refine Z.n d [0] []<|Z.n d [0] [(3,vn)]<|Z.cut (fun a w=>∃g,q6g F g=some r/\A 17 1 fx [(3,vs 1)] [.e,.o 1 5 R8 g] a w) ?_ ?_
 .refine Z.n d [3] [(6,vs 0),(7,J (len c)),(8,J 0)]<|Z.block ?_;obtain⟨o1,hi1,ho1⟩:=bI b;clear b;refine Z.loop (fun n a w=>∃(f:List Int) (e:Int),iter (fun s=>qo F c s.1 s.2) n (f,e)=some o1/\A 17 1 fx [(3,vs 1),(6,vs 0),(7,J (len c)),(8,J e)] [.d 1 (aN 1 R8) c,.o 1 5 R8 f] a w) F (fun a w h=>⟨[],0,hi1,h.t [.g 0,.n]⟩) ?_;rintro n1 a w ⟨f,e,hi1,h⟩;obtain⟨n1,q1,rfl,b,hs1⟩:=iI hi1;replace b:qo F c f e=some q1:=b;clear hi1;refine h.go<|Z.n d [3,6,7,8] [(9,vb (decide (e<len c)))]<|Z.seq<|Z.j b (fun b=>?_) fun b=>?_
  .refine Z.aF<|Z.seq<|Z.block ?_;obtain⟨i,k,b⟩:=bI b;refine Z.pre (pX (i:=0) (iv:=e) (sz:=1) (R:=(aN 1 R8)) (l:=c) K rfl k)<|Z.d d [3,6,7,8] [(5,vs 3)] [] [.el 2] [e]<|Z.reg<|M.n d 2 [3,6,7,8] [(12,vs 1),(13,vs 3)] ?_;obtain⟨l,m,b⟩:=bI b;refine M.f (gW (i:=1) (l:=f) (sz:=1) (E:=5) (R:=R8) (dF:=1) (m:=i) d rfl K rfl (.r K) m K)<|M.n d 1 [6,7,8] [(3,vs 4)]<|M.nT<|Z.reg<|M.n d 2 [3,6,7] [(8,J (aL (e+1)))]<|M.aV fun a w h=>?_;exact⟨n1,Nat.lt_succ_self _,l,aL (e+1),nI b hs1,h.t [.g 0,.g 4]⟩
  refine Z.xJ rfl fun a w h=>?_;have ho:=dI b hs1;replace b:=ho1
  try rw[ho]at b
  exact⟨f,b,h.t [.g 0,.g 1]⟩
 rintro a w ⟨g,b,h⟩;refine h.go<|Z.n d [] [(2,vs 1)] ?_;cases b;exact Z.q d [.g 0,.z 1]
theorem kq3h F f r(b:q3h F f=some r):Spec Tryz.prog 72 [vs 0] [.d 1 (aN 1 R8) f] (vs 1) [.e,.d 1 (aN 1 R8) r]:=by
 refine eN Tryz.func72 rfl Tryz.ntmps72 rfl rfl fun fx=>?_;refine Z.n d [0] []<|Z.n d [0] [(3,vn)]<|Z.cut (fun a w=>∃m,q6h F m=some r/\A 20 1 fx [(3,vs 1)] [.e,.o 1 26 (aN 1 R8) m] a w) ?_ ?_
 .refine Z.n d [3] [(6,vs 0),(7,J (len f)),(8,J 0)]<|Z.block ?_;obtain⟨o1,hi1,ho1⟩:=bI b;clear b;refine Z.loop (fun n a w=>∃(k:List (List Int)) (g:Int),iter (fun s=>ZR F f s.1 s.2) n (k,g)=some o1/\A 20 1 fx [(3,vs 1),(6,vs 0),(7,J (len f)),(8,J g)] [.d 1 (aN 1 R8) f,.o 1 26 (aN 1 R8) k] a w) F (fun a w h=>⟨[],0,hi1,h.t [.g 0,.n]⟩) ?_;rintro n1 a w ⟨k,g,hi1,h⟩;obtain⟨n1,q1,rfl,b,hs1⟩:=iI hi1;replace b:ZR F f k g=some q1:=b;clear hi1;refine h.go<|Z.n d [3,6,7,8] [(9,vb (decide (g<len f)))]<|Z.seq<|Z.j b (fun b=>?_) fun b=>?_
  .refine Z.aF<|Z.seq<|Z.block ?_;obtain⟨p,y,b⟩:=bI b;refine Z.pre (pX (i:=0) (iv:=g) (sz:=1) (R:=(aN 1 R8)) (l:=f) K rfl y)<|Z.d d [3,6,7,8] [(5,vs 3)] [] [.el 2] [g]<|Z.reg<|M.n d 2 [3,6,7,8] [(12,vs 1),(13,vs 3)]<|M.f (eL (sz:=1) (E:=26) (R:=(aN 1 R8)) (dF:=24) d [[.s 3]] [p] K ⟨dB.sl K,trivial⟩ rfl K K) ?_;obtain⟨q,z,b⟩:=bI b;refine M.pre (pF (i:=4) (sz:=1) (E:=26) (R:=(aN 1 R8)) (l:=[p]) K)<|M.f (bD Tryz.call57 (Ka F [p] _ z) [.g 4] [vs 4] (vs 5) K iR)<|M.f (eL (sz:=1) (E:=26) (R:=(aN 1 R8)) (dF:=24) d [[.s 5]] [q] K ⟨dB.sl K,trivial⟩ rfl K K) ?_;obtain⟨l,B,b⟩:=bI b;refine M.f (gW (i:=1) (l:=k) (sz:=1) (E:=26) (R:=(aN 1 R8)) (dF:=24) (m:=[q]) d rfl K rfl (.o 26 K) B K)<|M.n d 1 [6,7,8] [(3,vs 7)]<|M.nT<|Z.reg<|M.n d 2 [3,6,7] [(8,J (aL (g+1)))]<|M.aV fun a w h=>?_;exact⟨n1,Nat.lt_succ_self _,l,aL (g+1),nI b hs1,h.t [.g 0,.g 7]⟩
  refine Z.xJ rfl fun a w h=>?_;have ho:=dI b hs1;replace b:=ho1
  try rw[ho]at b
  exact⟨k,b,h.t [.g 0,.g 1]⟩
 rintro a w ⟨m,b,h⟩;refine h.go<|Z.n d [] [(2,vs 1)] ?_;cases b;exact Z.q d [.g 0,.z 1]
def Q7(c:aJ)(t:List aM)(e:aJ)(i:aM):List Item:=[.e,.e,.e,.d 1 R8 e.ay.aq,.e,.k 31 (IX ({e with ak:=c.ak,aj:=t,aB:=c.aB,Out:=c.Out}) (.s 6) (.s 7) (.s 8) (.s 3) (.s 9)),.d 5 dA c.ak,.o 15 91 dJ t,.o 14 93 eB c.aB,.o 2 116 bM c.Out,.e,.d 1 (aN 1 R8) i.Out,.d 1 R8 i.In,.k 91 (hx4 i 11)]
def adf(c:aJ)(u:List aM)(e:aJ)(i:aM)(C:List Int):List Item:=[.e,.e,.e,.d 1 R8 e.ay.aq,.e,.k 31 (IX ({e with ak:=c.ak,aj:=u,aB:=c.aB,Out:=c.Out}) (.s 6) (.s 7) (.s 8) (.s 3) (.s 9)),.d 5 dA c.ak,.o 15 91 dJ u,.o 14 93 eB c.aB,.o 2 116 bM c.Out,.e,.d 1 (aN 1 R8) i.Out,.d 1 R8 i.In,.k 91 (hx4 i 11),.e,.e,.d 1 R8 C]
def Y35c(c:aJ)(v:List bq)(l:List aM)(e:aJ):List Item:=[.e,.e,.e,.d 1 R8 e.ay.aq,.e,.k 31 (IX ({e with ak:=c.ak,aj:=l,aB:=c.aB,Out:=v}) (.s 6) (.s 7) (.s 8) (.s 3) (.s 9)),.d 5 dA c.ak,.o 15 91 dJ l,.o 14 93 eB c.aB,.o 2 116 bM v]
def V5(e:aJ):List Item:=[.e,.e,.e,.d 1 R8 e.ay.aq,.e]
def Y35e(e:aJ):List Item:=(mI e)
theorem X7 F c r(b:qg F c=some r):Spec Tryz.prog 35 [.g (bn c 0)] (mI c) (vp 5 0) [.e,.e,.e,.e,.e,.k 99 (hxa r 6),.d 5 dA r.aD.ak,.o 15 91 dJ r.aD.aj,.o 14 93 eB r.aD.aB,.d 1 R8 r.aD.ay.aq,.o 2 116 bM r.aD.Out,.o 10 81 dW r.ar]:=by
 refine eN Tryz.func35 rfl Tryz.ntmps35 rfl rfl fun fx=>?_;refine Z.s<|M.f (bR (E:=31) (bn c 0) K)<|M.n d 1 [1] []<|M.nT<|Z.cut (fun a w=>∃e,q6k F c e=some r/\A 77 5 fx [(1,vp 5 0)] (V5 c++[.k 31 [cI c.jm,cI c.bh,.s 6,.s 7,.s 8,cI c.bV,cb c.ay.On,.s 3,.s 9,cI c.aS,cI c.Length],.d 5 dA e.ak,.o 15 91 dJ e.aj,.o 14 93 eB e.aB,.o 2 116 bM e.Out]) a w) ?_ ?_
 .refine Z.rY MO ([I,I,I,I,I,O],[I,I,I,I,I,I],[13,15,17,19]) K fun E9 m=>?_;refine SD.n d m [0,1,3,4,6,7,9,10] (bm 20 1755) [1] [(8,vs 0),(11,vs 2),(14,vs 1),(17,vs 4)] ?_;obtain⟨t,X,b⟩:=bI b;refine SD.all1 (i:=2) K<|SW.f m 2 (bm 20 1759) rfl rfl rfl (bD Tryz.call29 (kq24 F c.ak _ X) [.g 0] [vs 0] (vs 6) K iR)<|SD.n d m [12] (bm 20 5855) [1,9,11,14,17] [(19,vp 5 2)] ?_;obtain⟨y,Y,b⟩:=bI b;refine SD.all1 (i:=5) K<|SW.f m 5 (bm 20 5887) rfl rfl rfl (bD Tryz.call69 (kq42 F c.aB _ Y) [.g 2] [vs 2] (vs 7) K iR) ?_;obtain⟨B,Bv,b⟩:=bI b;refine SD.all1 (i:=8) K<|SW.f m 8 (bm 20 6143) rfl rfl rfl (bD Tryz.call70 (kq43 F c.aj _ Bv) [.g 1] [vs 1] (vs 8) K iR) ?_;obtain⟨D,Bw,b⟩:=bI b;refine SD.all1 (i:=11) K<|SW.f m 11 (bm 20 8191) rfl rfl rfl (bD Tryz.call71 (kq44 F c.Out _ Bw) [.g 4] [vs 4] (vs 9) K iR)<|SD.norm (bC:=(Y35e c++[.k 31 (bn c 0),.d 5 dA t,.o 14 93 eB y,.o 15 91 dJ B,.o 2 116 bM D])) K<|SD.all1 (i:=13) K<|SW.store m d (i:=13) (q:=5) (T:=31) (cs:=(IX ({c with ak:=t}) (.s 6) (.s 1) (.s 2) (.s 3) (.s 4))) (bs':=(bm 20 16383)) rfl K K rfl K<|SD.n d m [14] (bm 20 32767) [1,12,15,18] [(20,vp 5 4)]<|SD.all1 (i:=15) K<|SW.store m d (i:=15) (q:=5) (T:=31) (cs:=(IX ({c with ak:=t,aB:=y}) (.s 6) (.s 1) (.s 7) (.s 3) (.s 4))) (bs':=(bm 20 65535)) rfl K K rfl K<|SD.n d m [16] (bm 20 131071) [1,15,18] [(21,vp 5 3)]<|SD.all1 (i:=17) K<|SW.store m d (i:=17) (q:=5) (T:=31) (cs:=(IX ({c with ak:=t,aj:=B,aB:=y}) (.s 6) (.s 8) (.s 7) (.s 3) (.s 4))) (bs':=(bm 20 262143)) rfl K K rfl K<|SD.n d m [18] (bm 20 524287) [1,18] [(22,vp 5 8)]<|SD.all1 (i:=19) K<|SW.store m d (i:=19) (q:=5) (T:=31) (cs:=(IX ({c with ak:=t,aj:=B,aB:=y,Out:=D}) (.s 6) (.s 8) (.s 7) (.s 3) (.s 9))) (bs':=(bm 20 1048575)) rfl K K rfl K<|SD.norm (bC:=(Y35e c++[.k 31 (IX ({c with ak:=t,aj:=B,aB:=y,Out:=D}) (.s 6) (.s 8) (.s 7) (.s 3) (.s 9)),.d 5 dA t,.o 14 93 eB y,.o 15 91 dJ B,.o 2 116 bM D])) K<|SD.done K fun a w h=>?_;exact⟨{c with ak:=t,aj:=B,aB:=y,Out:=D},b,h.t (gr [(0,7),(8,1),(7,1),(9,1)])⟩
 rintro a w ⟨e,b,h⟩;refine h.go<|Z.cut (fun a w=>∃p,q6j F c e p=some r/\A 77 5 fx [(1,vp 5 0)] (V5 c++[.k 31 (IX ({c with ak:=e.ak,aj:=p,aB:=e.aB,Out:=e.Out}) (.s 6) (.s 7) (.s 8) (.s 3) (.s 9)),.d 5 dA e.ak,.o 15 91 dJ p,.o 14 93 eB e.aB,.o 2 116 bM e.Out]) a w) ?_ ?_
 .refine Z.n d [1] [(24,vs 7),(25,J (len e.aj)),(26,J 0)]<|Z.block ?_;obtain⟨o2,hi2,ho2⟩:=bI b;clear b;refine Z.loop (fun n a w=>∃(k:List aM) (f:Int),iter (fun s=>ZP F e s.1 s.2) n (k,f)=some o2/\A 77 5 fx [(1,vp 5 0),(24,vs 7),(25,J (len e.aj)),(26,J f)] (V5 c++[.k 31 (IX ({c with ak:=e.ak,aj:=k,aB:=e.aB,Out:=e.Out}) (.s 6) (.s 7) (.s 8) (.s 3) (.s 9)),.d 5 dA e.ak,.o 15 91 dJ k,.o 14 93 eB e.aB,.o 2 116 bM e.Out]) a w) F (fun a w h=>⟨e.aj,0,hi2,h.t (gs 10)⟩) ?_;rintro n2 a w ⟨k,f,hi2,h⟩;obtain⟨n2,q2,rfl,b,hs2⟩:=iI hi2;replace b:ZP F e k f=some q2:=b;clear hi2;refine h.go<|Z.n d [1,24,25,26] [(27,vb (decide (f<len e.aj)))]<|Z.seq<|Z.j b (fun b=>?_) fun b=>?_
  .refine Z.aF<|Z.seq<|Z.block<|Z.s ?_;obtain⟨i,Bx,b⟩:=bI b;refine M.pre (fK (i:=7) (iv:=f) (sz:=15) (E:=91) (R:=dJ) (l:=k) K rfl Bx)<|M.d d 3 [1,24,25,26] [(28,J f),(30,.g (hx4 i 11))] [] [.el 10] [f]<|M.pre fT<|M.f (eA (E:=91) d (mg (aM.mk 0 0 0 0 0 0 0 0 0 0 [] 0 [] 0 false) nl nl) K)<|M.d d 2 [1,4,24,25,26] [(3,J f)] [(13,91,hx4 i 11)] [] []<|M.nT<|Z.draw MO (bm 14 15208) K fun Ea g=>?_;refine SD.n d g [0,1,2,3,4,5,6,7,9,10] (bm 19 1791) [1,24,25,26] [(32,vs 7),(33,J f),(35,vs 7),(36,J f),(38,vs 11),(41,vs 12)] ?_;obtain⟨z,P,b⟩:=bI b;obtain⟨u,By,b⟩:=bI b;obtain⟨Eb,Q,b⟩:=bI b;obtain⟨R,Bz,b⟩:=bI b;obtain⟨E,E0,b⟩:=bI b;obtain⟨Ec,S,b⟩:=bI b;obtain⟨T,E1,b⟩:=bI b;obtain⟨H,E2,b⟩:=bI b;refine SD.lay 0 (bm 19 524287) [(1,vp 5 0),(24,vs 7),(25,J (len e.aj)),(26,J f)] (V5 c++[.k 31 (IX ({c with ak:=e.ak,aj:=H,aB:=e.aB,Out:=e.Out}) (.s 6) (.s 7) (.s 8) (.s 3) (.s 9)),.d 5 dA e.ak,.o 15 91 dJ H,.o 14 93 eB e.aB,.o 2 116 bM e.Out,.e,.d 1 (aN 1 R8) i.Out,.d 1 R8 i.In,.k 91 (hx4 i 11)]) ?_ (fun c0=>?_)
   .refine SD.fM K<|Z.reg<|M.n d 2 [1,24,25] [(26,J (aL (f+1)))]<|M.aV fun a w h=>?_;exact⟨n2,Nat.lt_succ_self _,H,aL (f+1),nI b hs2,h.t (gs 10)⟩
   refine SD.lay 1 (bm 19 262143) [(1,vp 5 0),(24,vs 7),(25,J (len e.aj)),(26,J f),(43,vs 16),(47,vp 7 (f.toNat*15+12))] (adf e E c i u) ?_ (fun c1=>?_)
   .exact SD.all1 (i:=18) K<|SW.acY g (i:=18) (bs':=(bm 19 524287)) rfl (UM (sz:=15) (E:=91) (R:=dJ) (i:=7) (o:=12) (iv:=f) (l:=E) (e:={T with In:=u}) d rfl rfl E1 rfl rfl rfl K (KT (x:={T with In:=u}) (dB.sl K) (dB.sl K)) K K E2) rfl K<|SD.kG g (gs 14) c0 K
   refine SD.lay 2 (bm 19 131071) [(1,vp 5 0),(24,vs 7),(25,J (len e.aj)),(26,J f),(43,vs 16),(46,vp 7 (f.toNat*15))] (adf e E c i u) ?_ (fun c2=>?_)
   .exact SD.all1 (i:=17) K<|SW.f g 17 (bm 19 262143) rfl rfl rfl (UN (off:=12) (iv:=f) d rfl rfl S K)<|SD.kG g (gr [(0,14)]++[.n,.n]++[.g 16]) c1 K
   refine SD.lay 3 (bm 19 65535) [(1,vp 5 0),(24,vs 7),(25,J (len e.aj)),(26,J f),(35,vs 7),(36,J f),(43,vs 16)] (adf e E c i u) ?_ (fun c3=>?_)
   .exact SD.all1 (i:=16) K<|SW.f g 16 (bm 19 131071) rfl rfl rfl (nG (sz:=15) (E:=91) (R:=dJ) (dF:=136) (l:=E) d rfl rfl rfl S K)<|SD.kG g (gr [(0,14)]++[.n,.n]++[.g 16]) c2 K
   refine SD.lay 4 (bm 19 32767) [(1,vp 5 0),(24,vs 7),(25,J (len e.aj)),(26,J f),(35,vs 7),(36,J f),(39,vs 14),(43,vs 16),(45,vp 7 (f.toNat*15+10))] (Q7 e k c i++[.d 1 (aN 1 R8) z,.e,.d 1 R8 u]) ?_ (fun c4=>?_)
   .exact SD.all1 (i:=15) K<|SW.acY g (i:=15) (bs':=(bm 19 65535)) rfl (UM (sz:=15) (E:=91) (R:=dJ) (i:=7) (o:=10) (iv:=f) (l:=k) (e:={R with Out:=z}) d rfl rfl Bz rfl rfl rfl K (KT (x:={R with Out:=z}) (dB.sl K) (dB.sl K)) K K E0) rfl K<|SD.kG g (gr [(0,14)]++[.n,.n]++[.g 16]) c3 K
   refine SD.lay 5 (bm 19 16383) [(1,vp 5 0),(24,vs 7),(25,J (len e.aj)),(26,J f),(35,vs 7),(36,J f),(39,vs 14),(43,vs 16),(44,vp 7 (f.toNat*15))] (Q7 e k c i++[.d 1 (aN 1 R8) z,.e,.d 1 R8 u]) ?_ (fun c5=>?_)
   .exact SD.all1 (i:=14) K<|SW.f g 14 (bm 19 32767) rfl rfl rfl (UN (off:=10) (iv:=f) d rfl rfl Q K)<|SD.kG g (gr [(0,15)]++[.n]++[.g 16]) c4 K
   refine SD.lay 6 (bm 19 8191) [(1,vp 5 0),(24,vs 7),(25,J (len e.aj)),(26,J f),(32,vs 7),(33,J f),(35,vs 7),(36,J f),(39,vs 14),(43,vs 16)] (Q7 e k c i++[.d 1 (aN 1 R8) z,.e,.d 1 R8 u]) ?_ (fun c6=>?_)
   .exact SD.all1 (i:=13) K<|SW.f g 13 (bm 19 16383) rfl rfl rfl (nG (sz:=15) (E:=91) (R:=dJ) (dF:=136) (l:=k) d rfl rfl rfl Q K)<|SD.kG g (gr [(0,15)]++[.n]++[.g 16]) c5 K
   refine SD.lay 7 (bm 19 4095) [(1,vp 5 0),(24,vs 7),(25,J (len e.aj)),(26,J f),(32,vs 7),(33,J f),(35,vs 7),(36,J f),(39,vs 14),(42,vs 15)] (Q7 e k c i++[.d 1 (aN 1 R8) z,.o 1 26 (aN 1 R8) [i.In]]) ?_ (fun c7=>?_)
   .exact SD.pre (pF (i:=15) (sz:=1) (E:=26) (R:=(aN 1 R8)) (l:=[i.In]) K)<|SD.all1 (i:=12) K<|SW.f g 12 (bm 19 8191) rfl rfl rfl (bD Tryz.call57 (Ka F [i.In] _ By) [.g 15] [vs 15] (vs 16) K iR)<|SD.kG g (gr [(0,15)]++[.n]++[.g 16]) c6 K
   refine SD.lay 8 (bm 19 2047) [(1,vp 5 0),(24,vs 7),(25,J (len e.aj)),(26,J f),(32,vs 7),(33,J f),(35,vs 7),(36,J f),(39,vs 14),(41,vs 12)] (Q7 e k c i++[.d 1 (aN 1 R8) z]) ?_ (fun c8=>?_)
   .exact SD.all1 (i:=11) K<|SW.f g 11 (bm 19 4095) rfl rfl rfl (eL (sz:=1) (E:=26) (R:=(aN 1 R8)) (dF:=24) d [[.s 12]] [i.In] K ⟨dB.sl K,trivial⟩ rfl K K)<|SD.kG g (gs 16) c7 K
   refine SD.lay 8 (bm 19 3839) [(1,vp 5 0),(24,vs 7),(25,J (len e.aj)),(26,J f),(32,vs 7),(33,J f),(35,vs 7),(36,J f),(38,vs 11),(42,vs 14)] (Q7 e k c i++[.o 1 26 (aN 1 R8) [i.In]]) ?_ (fun c9=>?_)
   .exact SD.all1 (i:=8) K<|SW.f g 8 (bm 19 4095) rfl rfl rfl (bD Tryz.call72 (kq3h F i.Out _ P) [.g 11] [vs 11] (vs 15) K iR)<|SD.kG g (gr [(0,14),(15,1),(14,1)]) c7 K
   refine SD.all2 (i:=8) (j:=11) K ?_ ?_
   .exact SW.f g 8 (bm 19 2047) rfl rfl rfl (bD Tryz.call72 (kq3h F i.Out _ P) [.g 11] [vs 11] (vs 14) K iR)<|SD.kG g (gs 15) c8 K
   exact SW.f g 11 (bm 19 3839) rfl rfl rfl (eL (sz:=1) (E:=26) (R:=(aN 1 R8)) (dF:=24) d [[.s 12]] [i.In] K ⟨dB.sl K,trivial⟩ rfl K K)<|SD.kG g (gs 15) c9 K
  refine Z.xJ rfl fun a w h=>?_;have ho:=dI b hs2;replace b:=ho2
  try rw[ho]at b
  exact⟨k,b,h.t (gs 10)⟩
 rintro a w ⟨p,b,h⟩;refine h.go<|Z.cut (fun a w=>∃G,q6i F c e p G=some r/\A 77 5 fx [(1,vp 5 0)] (V5 c++[.k 31 (IX ({c with ak:=e.ak,aj:=p,aB:=e.aB,Out:=G}) (.s 6) (.s 7) (.s 8) (.s 3) (.s 9)),.d 5 dA e.ak,.o 15 91 dJ p,.o 14 93 eB e.aB,.o 2 116 bM G]) a w) ?_ ?_
 .refine Z.n d [1] [(50,vs 9),(51,J (len e.Out)),(52,J 0)]<|Z.block ?_;obtain⟨o1,hi1,ho1⟩:=bI b;clear b;refine Z.loop (fun n a w=>∃(q:List bq) (l:Int),iter (fun s=>ZQ F e s.1 s.2) n (q,l)=some o1/\A 77 5 fx [(1,vp 5 0),(50,vs 9),(51,J (len e.Out)),(52,J l)] (Y35c e q p c) a w) F (fun a w h=>⟨e.Out,0,hi1,h.t (gs 10)⟩) ?_;rintro n1 a w ⟨q,l,hi1,h⟩;obtain⟨n1,q1,rfl,b,hs1⟩:=iI hi1;replace b:ZQ F e q l=some q1:=b;clear hi1;refine h.go<|Z.n d [1,50,51,52] [(53,vb (decide (l<len e.Out)))]<|Z.seq<|Z.j b (fun b=>?_) fun b=>?_
  .refine Z.aF<|Z.seq<|Z.block<|Z.s ?_;obtain⟨v,E3,b⟩:=bI b;refine M.pre (fK (i:=9) (iv:=l) (sz:=2) (E:=116) (R:=bM) (l:=q) K rfl E3)<|M.d d 3 [1,50,51,52] [(54,J l),(56,.g [ci .u16 v.aY,.s 11])] [] [.el 10] [l]<|M.pre fT<|M.f (eA (E:=116) d [ci .u16 0,nl] K)<|M.d d 2 [1,6,50,51,52] [(5,J l)] [(12,116,[ci .u16 v.aY,.s 11])] [] []<|M.nT<|Z.draw MO (bm 13 6632) K fun Ed C=>?_;refine SD.n d C [0,1,2,3,4] (bm 10 31) [1,50,51,52] [(58,vs 9),(59,J l),(61,vs 11)]<|SD.all1 (i:=5) K<|SW.f C 5 (bm 10 63) rfl rfl rfl (eL (sz:=1) (E:=26) (R:=(aN 1 R8)) (dF:=24) d [[.s 11]] [v.am] K ⟨dB.sl K,trivial⟩ rfl K K) ?_;obtain⟨L,E4,b⟩:=bI b;refine SD.pre (pF (i:=13) (sz:=1) (E:=26) (R:=(aN 1 R8)) (l:=[v.am]) K)<|SD.all1 (i:=6) K<|SW.f C 6 (bm 10 127) rfl rfl rfl (bD Tryz.call57 (Ka F [v.am] _ E4) [.g 13] [vs 13] (vs 14) K iR) ?_;obtain⟨Ee,U,b⟩:=bI b;refine SD.all1 (i:=7) K<|SW.f C 7 (bm 10 255) rfl rfl rfl (nG (sz:=2) (E:=116) (R:=bM) (dF:=32) (l:=q) d rfl rfl rfl U K)<|SD.norm (bC:=(Y35c e q p c++[.e,.d 1 R8 v.am,.k 116 [ci .u16 v.aY,.s 11],.d 1 (aN 1 R8) [v.am],.d 1 R8 L])) K<|SD.all1 (i:=8) K<|SW.f C 8 (bm 10 511) rfl rfl rfl (UN (off:=1) (iv:=l) d rfl rfl U K) ?_;obtain⟨W,E5,b⟩:=bI b;obtain⟨E6,E7,b⟩:=bI b;refine SD.all1 (i:=9) K<|SW.acY C (i:=9) (bs':=(bm 10 1023)) rfl (UM (sz:=2) (E:=116) (R:=bM) (i:=9) (o:=1) (iv:=l) (l:=q) (e:={W with am:=L}) d rfl rfl E5 rfl rfl rfl K (Vg (x:={W with am:=L}) (dB.sl K)) K K E7) rfl K<|SD.fM K<|Z.reg<|M.n d 2 [1,50,51] [(52,J (aL (l+1)))]<|M.aV fun a w h=>?_;exact⟨n1,Nat.lt_succ_self _,E6,aL (l+1),nI b hs1,h.t (gs 10)⟩
  refine Z.xJ rfl fun a w h=>?_;have ho:=dI b hs1;replace b:=ho1
  try rw[ho]at b
  exact⟨q,b,h.t (gs 10)⟩
 rintro a w ⟨G,b,h⟩;refine h.go<|Z.s<|M.n d 3 [1] [(69,vs 3)]<|M.f (eL (sz:=1) (E:=26) (R:=(aN 1 R8)) (dF:=24) d [[.s 3]] [c.ay.aq] K ⟨dB.sl K,trivial⟩ rfl K K) ?_;obtain⟨Ef,E8,b⟩:=bI b;refine M.pre (pF (i:=10) (sz:=1) (E:=26) (R:=(aN 1 R8)) (l:=[c.ay.aq]) K)<|M.f (bD Tryz.call57 (Ka F [c.ay.aq] _ E8) [.g 10] [vs 10] (vs 11) K iR)<|M.d d 3 [1] [] [(5,31,[cI c.jm,cI c.bh,.s 6,.s 7,.s 8,cI c.bV,cb c.ay.On,.s 11,.s 9,cI c.aS,cI c.Length])] [] []<|M.nT<|Z.s<|M.n d 2 [] [(75,.g [cI c.jm,cI c.bh,.s 6,.s 7,.s 8,cI c.bV,cb c.ay.On,.s 11,.s 9,cI c.aS,cI c.Length,nl])]<|M.f (bR (E:=99) [cI c.jm,cI c.bh,.s 6,.s 7,.s 8,cI c.bV,cb c.ay.On,.s 11,.s 9,cI c.aS,cI c.Length,nl] K)<|M.n d 1 [] [(2,vp 12 0)]<|M.nT ?_;cases b;exact Z.q d (gr [(0,5),(12,1),(6,3),(11,1),(9,1)]++[.n])
theorem kq57 F e f r(b:q57 F e f=some r):Spec Tryz.prog 132 [vs 0,vi .u16 f] [.d 1 (dG .u16) e] (J r) [.e]:=by
 refine eN Tryz.func132 rfl Tryz.ntmps132 rfl rfl fun fx=>?_;refine Z.n d [0,1] []<|Z.cut (fun a w=>q8e F=some r/\A 19 1 fx [] [.e] a w) ?_ ?_
 .refine Z.n d [0,1] [(7,J (len e)),(8,J 0)]<|Z.block ?_;obtain⟨o1,hi1,ho1⟩:=bI b;clear b;refine Z.loop (fun n a w=>∃(c:Int),iter (fun s=>ZO F e f s) n c=some o1/\A 19 1 fx [(0,vs 0),(1,vi .u16 f),(7,J (len e)),(8,J c)] [.d 1 (dG .u16) e] a w) F (fun a w h=>⟨0,hi1,h.t [.g 0]⟩) ?_;rintro n1 a w ⟨c,hi1,h⟩;obtain⟨n1,q1,rfl,b,hs1⟩:=iI hi1;replace b:ZO F e f c=some q1:=b;clear hi1;refine h.go<|Z.n d [0,1,7,8] [(9,vb (decide (c<len e)))]<|Z.seq<|Z.j b (fun b=>?_) fun b=>?_
  .refine Z.aF<|Z.seq<|Z.block<|Z.n d [0,1,7,8] [(5,J c)] ?_;obtain⟨g,i,b⟩:=bI b;refine Z.pre (pX (i:=0) (iv:=c) (sz:=1) (R:=(dG .u16)) (l:=e) K rfl i)<|Z.d d [0,1,5,7,8] [(16,vb (f==g))] [] [.el 1] [c]<|Z.j b (fun b=>?_) fun b=>?_
   .refine Z.n d [] [(4,J c)] ?_;have ho:=dI b hs1;replace b:=ho1
    try rw[ho]at b
    cases b;exact Z.q d [.g 0]
   refine Z.aF<|Z.reg<|M.n d 2 [0,1,7] [(8,J (aL (c+1)))]<|M.aV fun a w h=>?_;exact⟨n1,Nat.lt_succ_self _,aL (c+1),nI b hs1,h.t [.g 0]⟩
  refine Z.xJ rfl fun a w h=>?_;have ho:=dI b hs1;replace b:=ho1
  try rw[ho]at b
  exact⟨b,h.t [.g 0]⟩
 rintro a w ⟨b,h⟩;refine h.go<|Z.n d [] [(4,J (-1))] ?_;cases b;exact Z.q d [.g 0]
theorem kq2a F e c r(b:q2a F e c=some r):Spec Tryz.prog 97 [vs 0,vi .u16 c] [.d 1 (dG .u16) e] (vb r) [.e]:=by
 refine eN Tryz.func97 rfl Tryz.ntmps97 rfl rfl fun fx=>?_;refine Z.n d [0,1] []<|Z.s<|M.n d 2 [] [(5,vs 0),(6,vi .u16 c)] ?_;obtain⟨f,g,b⟩:=bI b;refine M.f (bD Tryz.call132 (kq57 F e c _ g) [.g 0] [vs 0,vi .u16 c] (J f) K iR)<|M.n d 2 [] [(4,vb (decide (f>=0)))]<|M.nT ?_;cases b;exact Z.q d [.g 0]
theorem kq2b F c f r(b:q2b F c f=some r):Spec Tryz.prog 131 [vi .u16 c,vp 0 0] [.k 151 [.s 1],.o 1 41 (dG .u16) f] (.u []) [.k 151 [.s 2],.e,.o 1 41 (dG .u16) r]:=by
 refine eN Tryz.func131 rfl Tryz.ntmps131 rfl rfl fun fx=>?_;refine Z.s<|M.n d 2 [0,1] [(3,vs 1),(4,vi .u16 c)] ?_;obtain⟨g,i,b⟩:=bI b;refine M.f (bD Tryz.call97 (kq2a F f c _ i) [.l 1] [vs 1,vi .u16 c] (vb g) K (.inr ⟨trivial,trivial⟩))<|M.n d 1 [0,1] [(6,vb (!g))]<|M.nT<|Z.j b (fun b=>?_) fun b=>?_
 .refine Z.reg<|M.n d 2 [1] [(7,vs 1),(8,vi .u16 c)]<|M.f (eL (sz:=1) (E:=41) (R:=(dG .u16)) (dF:=2) d [[ci .u16 c]] [c] K ⟨dB.int,trivial⟩ rfl K K) ?_;obtain⟨l,k,b⟩:=bI b;refine M.f (gW (i:=1) (l:=f) (sz:=1) (E:=41) (R:=(dG .u16)) (dF:=2) (m:=[c]) d rfl K rfl (.o 41 K) k K)<|M.d d 1 [] [] [(0,151,[.s 3])] [] []<|M.aV fun a w h=>?_;cases b;exact A.re (js:=[.g 0,.g 1,.g 3]) d h K
 refine Z.kJ fun a w h=>?_;cases b;exact A.re (js:=[.g 0,.g 1,.g 1]) d h K
def V4(e:bO):List Item:=([.k 99 (hxa e 1)]++mI e.aD++[.d 10 dW e.ar,.k 151 [.s 8]])
theorem kq45 F c r(b:q45 F c=some r):Spec Tryz.prog 96 [vp 0 0] ([.k 99 (hxa c 1)]++mI c.aD++[.d 10 dW c.ar]) (vs 7) ([.k 99 (hxa c 1)]++mI c.aD++[.d 10 dW c.ar,.d 1 (dG .u16) r]):=by
 refine eN Tryz.func96 rfl Tryz.ntmps96 rfl rfl fun fx=>?_;refine Z.n d [0] []<|Z.s<|M.f (eA (E:=151) d [nl] K)<|M.nT<|Z.n d [0,3] [(4,.f 131 [.p 7 0])]<|Z.cut (fun a w=>∃m,q6l F c m=some r/\A 49 7 fx [(0,vp 0 0),(3,vp 7 0),(4,.f 131 [.p 7 0])] (V4 c++[.o 1 41 (dG .u16) m]) a w) ?_ ?_
 .refine Z.n d [0,3,4] [(14,vs 2),(15,J (len c.aD.aj)),(16,J 0)]<|Z.block ?_;obtain⟨o2,hi2,ho2⟩:=bI b;clear b;refine Z.loop (fun n a w=>∃(k:List Int) (f:Int),iter (fun s=>XF F c s.1 s.2) n (k,f)=some o2/\A 49 7 fx [(0,vp 0 0),(3,vp 7 0),(4,.f 131 [.p 7 0]),(14,vs 2),(15,J (len c.aD.aj)),(16,J f)] (V4 c++[.o 1 41 (dG .u16) k]) a w) F (fun a w h=>⟨[],0,hi2,h.t (gr [(0,8)]++[.n])⟩) ?_;rintro n2 a w ⟨k,f,hi2,h⟩;obtain⟨n2,q2,rfl,b,hs2⟩:=iI hi2;replace b:XF F c k f=some q2:=b;clear hi2;refine h.go<|Z.n d [0,3,4,14,15,16] [(17,vb (decide (f<len c.aD.aj)))]<|Z.seq<|Z.j b (fun b=>?_) fun b=>?_
  .refine Z.aF<|Z.seq<|Z.block<|Z.s ?_;obtain⟨l,t,b⟩:=bI b;refine M.pre (pX (i:=2) (iv:=f) (sz:=15) (R:=dJ) (l:=c.aD.aj) K rfl t)<|M.d d 2 [0,3,4,14,15,16] [(19,.g (hx4 l 10))] [] [.el 9] [f]<|M.f (eA (E:=91) d (mg (aM.mk 0 0 0 0 0 0 0 0 0 0 [] 0 [] 0 false) nl nl) K)<|M.d d 1 [0,3,4,6,14,15,16] [] [(12,91,hx4 l 10)] [] []<|M.nT<|Z.reg<|M.n d 3 [0,3,4,14,15,16] [(20,.f 131 [.p 7 0]),(22,vi .u16 l.ap)] ?_;obtain⟨u,v,b⟩:=bI b;refine M.f (bD Tryz.call131 (kq2b F l.ap k _ v) [.g 7,.g 8] [vi .u16 l.ap,vp 7 0] (.u []) K iR)<|M.nT<|Z.reg<|M.n d 2 [0,3,4,14,15] [(16,J (aL (f+1)))]<|M.aV fun a w h=>?_;exact⟨n2,Nat.lt_succ_self _,u,aL (f+1),nI b hs2,h.t (gr [(0,8),(13,1)])⟩
  refine Z.xJ rfl fun a w h=>?_;have ho:=dI b hs2;replace b:=ho2
  try rw[ho]at b
  exact⟨k,b,h.t (gs 9)⟩
 rintro a w ⟨m,b,h⟩;refine h.go<|Z.cut (fun a w=>∃q,q8f F q=some r/\A 49 7 fx [(3,vp 7 0)] (V4 c++[.o 1 41 (dG .u16) q]) a w) ?_ ?_
 .refine Z.n d [3,4] [(29,vs 3),(30,J (len c.aD.aB)),(31,J 0)]<|Z.block ?_;obtain⟨o1,hi1,ho1⟩:=bI b;clear b;refine Z.loop (fun n a w=>∃(g:List Int) (e:Int),iter (fun s=>XG F c s.1 s.2) n (g,e)=some o1/\A 49 7 fx [(3,vp 7 0),(4,.f 131 [.p 7 0]),(29,vs 3),(30,J (len c.aD.aB)),(31,J e)] (V4 c++[.o 1 41 (dG .u16) g]) a w) F (fun a w h=>⟨m,0,hi1,h.t (gs 9)⟩) ?_;rintro n1 a w ⟨g,e,hi1,h⟩;obtain⟨n1,q1,rfl,b,hs1⟩:=iI hi1;replace b:XG F c g e=some q1:=b;clear hi1;refine h.go<|Z.n d [3,4,29,30,31] [(32,vb (decide (e<len c.aD.aB)))]<|Z.seq<|Z.j b (fun b=>?_) fun b=>?_
  .refine Z.aF<|Z.cut (fun a w=>∃(p:List Int),q5w F e p=some q1/\A 49 7 fx [(3,vp 7 0),(4,.f 131 [.p 7 0]),(29,vs 3),(30,J (len c.aD.aB)),(31,J e)] (V4 c++[.o 1 41 (dG .u16) p]) a w) ?_ ?_
   .refine Z.block<|Z.s ?_;obtain⟨i,y,b⟩:=bI b;refine M.pre (pX (i:=3) (iv:=e) (sz:=14) (R:=eB) (l:=c.aD.aB) K rfl y)<|M.d d 2 [3,4,29,30,31] [(34,.g (bG i))] [] [.el 9] [e]<|M.f (eA (E:=93) d (bG zS) K)<|M.d d 1 [3,4,8,29,30,31] [] [(10,93,bG i)] [] []<|M.nT<|Z.n d [3,4,8,29,30,31] [(42,vb ((i.ae==20)||(i.ae==6)))]<|Z.j b (fun b=>?_) fun b=>?_
    .refine Z.reg<|M.n d 3 [3,4,29,30,31] [(43,.f 131 [.p 7 0]),(45,vi .u16 i.ab)] ?_;obtain⟨z,B,b⟩:=bI b;refine M.f (bD Tryz.call131 (kq2b F i.ab g _ B) [.g 7,.g 8] [vi .u16 i.ab,vp 7 0] (.u []) K iR)<|M.aV fun a w h=>?_;exact⟨z,b,h.t (gr [(0,8),(11,1)])⟩
    refine Z.kJ fun a w h=>?_;exact⟨g,b,h.t (gs 9)⟩
   rintro a w ⟨p,b,h⟩;refine h.go<|Z.reg<|M.n d 2 [3,4,29,30] [(31,J (aL (e+1)))]<|M.aV fun a w h=>?_;exact⟨n1,Nat.lt_succ_self _,p,aL (e+1),nI b hs1,h.t (gs 9)⟩
  refine Z.xJ rfl fun a w h=>?_;have ho:=dI b hs1;replace b:=ho1
  try rw[ho]at b
  exact⟨g,b,h.t (gs 9)⟩
 rintro a w ⟨q,b,h⟩;refine h.go<|Z.n d [] [(2,vs 8)] ?_;cases b;exact Z.q d (gr [(0,7)]++[.z 8])
def Y52a(c:bO):List Item:=([.k 99 (hxa c 1)]++mI c.aD++[.d 10 dW c.ar])
theorem ab9 F c r(b:q17 F c=some r):Spec Tryz.prog 52 [vp 0 0] ([.k 99 (hxa c 1)]++mI c.aD++[.d 10 dW c.ar]) (.u [.inl (ci .u16 r.1),.inl (cb r.2)]) ([.k 99 (hxa c 1)]++mI c.aD++[.d 10 dW c.ar]):=by
 refine eN Tryz.func52 rfl Tryz.ntmps52 rfl rfl fun fx=>?_;refine Z.n d [0] []<|Z.s<|M.n d 1 [] [(6,vp 0 0)] ?_;obtain⟨f,i,b⟩:=bI b;refine M.f (bD Tryz.call96 (kq45 F c _ i) (gs 7) [vp 0 0] (vs 7) K iR)<|M.n d 1 [] [(4,vs 7)]<|M.nT<|Z.seq<|Z.n d [4] [(10,vb (decide ((len f)>=16)))]<|Z.j b (fun b=>?_) fun b=>?_
 .refine Z.n d [] [(2,vi .u16 0),(3,vb false)] ?_;cases b;exact Z.q d (gs 7)
 refine Z.aF<|Z.n d [4] [(5,vi .u16 64)]<|Z.cut (fun a w=>∃g,q8g F g=some r/\A 17 7 fx [(5,vi .u16 g)] (Y52a c) a w) ?_ ?_
 .refine Z.block ?_;obtain⟨o1,hi1,ho1⟩:=bI b;clear b;refine Z.loop (fun n a w=>∃(e:Int),iter (fun s=>ZN F f s) n e=some o1/\A 17 7 fx [(4,vs 7),(5,vi .u16 e)] (Y52a c++[.d 1 (dG .u16) f]) a w) F (fun a w h=>⟨64,hi1,h.t (gs 8)⟩) ?_;rintro n1 a w ⟨e,hi1,h⟩;obtain⟨n1,q1,rfl,b,hs1⟩:=iI hi1;replace b:ZN F f e=some q1:=b;clear hi1;refine h.go<|Z.seq<|Z.s<|M.n d 2 [4,5] [(11,vs 7),(12,vi .u16 e)] ?_;obtain⟨k,l,b⟩:=bI b;refine M.f (bD Tryz.call97 (kq2a F f e _ l) [.g 7] [vs 7,vi .u16 e] (vb k) K iR)<|M.nT<|Z.j b (fun b=>?_) fun b=>?_
  .refine Z.aF<|Z.block<|Z.reg<|M.n d 3 [4] [(5,vi .u16 (kW (e+1)))]<|M.aV fun a w h=>?_;exact⟨n1,Nat.lt_succ_self _,kW (e+1),nI b hs1,h.t (gs 8)⟩
  refine Z.xJ rfl fun a w h=>?_;have ho:=dI b hs1;replace b:=ho1
  try rw[ho]at b
  exact⟨e,b,h.t (gs 7)⟩
 rintro a w ⟨g,b,h⟩;refine h.go<|Z.n d [] [(2,vi .u16 g),(3,vb true)] ?_;cases b;exact Z.q d (gs 7)
theorem kqy F c r(b:qy F c=some r):Spec Tryz.prog 53 [vp 0 0] ([.k 99 (hxa c 1)]++mI c.aD++[.d 10 dW c.ar]) (vb r) ([.k 99 (hxa c 1)]++mI c.aD++[.d 10 dW c.ar]):=by
 refine eN Tryz.func53 rfl Tryz.ntmps53 rfl rfl fun fx=>?_;refine Z.n d [0] []<|Z.n d [] [(2,vb (decide ((len c.aD.Out)>=64)))] ?_;cases b;exact Z.q d (gs 7)
theorem kq58 F c e r(b:q58 F c e=some r):Spec Tryz.prog 133 [.g (bG c),vp 0 0] [.k 3 [cI e]] (vb r.1) [.k 3 [cI r.2]]:=by
 refine eN Tryz.func133 rfl Tryz.ntmps133 rfl rfl fun fx=>?_;refine Z.s<|M.f (bR (E:=93) (bG c) K)<|M.n d 1 [1,2] []<|M.nT<|Z.n d [] [(3,vb (c.ID==e))] ?_;cases b;exact Z.q d [.g 0]
theorem kq59 F e g r(b:q59 F e g=some r):Spec Tryz.prog 114 [vs 0,.f 133 [.p 1 0]] [.d 14 eB e,.k 3 [cI g]] (J r.1) [.e,.k 3 [cI r.2]]:=by
 refine eN Tryz.func114 rfl Tryz.ntmps114 rfl rfl fun fx=>?_;refine Z.n d [0,1] []<|Z.cut (fun a w=>∃i,q8h F i=some r/\A 19 2 fx [] [.e,.k 3 [cI i]] a w) ?_ ?_
 .refine Z.n d [0,1] [(7,J (len e)),(8,J 0)]<|Z.block ?_;obtain⟨o1,hi1,ho1⟩:=bI b;clear b;refine Z.loop (fun n a w=>∃(f c:Int),iter (fun s=>ZM F e s.1 s.2) n (f,c)=some o1/\A 19 2 fx [(0,vs 0),(1,.f 133 [.p 1 0]),(7,J (len e)),(8,J c)] [.d 14 eB e,.k 3 [cI f]] a w) F (fun a w h=>⟨g,0,hi1,h.t [.g 0,.g 1]⟩) ?_;rintro n1 a w ⟨f,c,hi1,h⟩;obtain⟨n1,q1,rfl,b,hs1⟩:=iI hi1;replace b:ZM F e f c=some q1:=b;clear hi1;refine h.go<|Z.n d [0,1,7,8] [(9,vb (decide (c<len e)))]<|Z.seq<|Z.j b (fun b=>?_) fun b=>?_
  .refine Z.aF<|Z.seq<|Z.block<|Z.n d [0,1,7,8] [(5,J c)]<|Z.s ?_;obtain⟨k,m,b⟩:=bI b;refine M.pre (pX (i:=0) (iv:=c) (sz:=14) (R:=eB) (l:=e) K rfl m)<|M.d d 5 [0,1,5,7,8] [(11,.f 133 [.p 1 0]),(15,.g (bG k))] [] [.el 2] [c] ?_;obtain⟨l,p,b⟩:=bI b;refine M.f (bD Tryz.call133 (kq58 F k f _ p) [.g 1] [.g (bG k),vp 1 0] (vb l.1) K iR)<|M.nT<|Z.j b (fun b=>?_) fun b=>?_
   .refine Z.n d [] [(4,J c)] ?_;have ho:=dI b hs1;replace b:=ho1
    try rw[ho]at b
    cases b;exact Z.q d [.g 0,.g 1]
   refine Z.aF<|Z.reg<|M.n d 2 [0,1,7] [(8,J (aL (c+1)))]<|M.aV fun a w h=>?_;exact⟨n1,Nat.lt_succ_self _,l.2,aL (c+1),nI b hs1,h.t [.g 0,.g 1]⟩
  refine Z.xJ rfl fun a w h=>?_;have ho:=dI b hs1;replace b:=ho1
  try rw[ho]at b
  exact⟨f,b,h.t [.g 0,.g 1]⟩
 rintro a w ⟨i,b,h⟩;refine h.go<|Z.n d [] [(4,J (-1))] ?_;cases b;exact Z.q d [.g 0,.g 1]
theorem kq46 F e f r(b:q46 F e f=some r):Spec Tryz.prog 83 [vs 0,.f 133 [.p 1 0]] [.d 14 eB e,.k 3 [cI f]] (vb r.1) [.e,.k 3 [cI r.2]]:=by
 refine eN Tryz.func83 rfl Tryz.ntmps83 rfl rfl fun fx=>?_;refine Z.n d [0,1] []<|Z.s<|M.n d 2 [] [(5,vs 0),(6,.f 133 [.p 1 0])] ?_;obtain⟨g,i,b⟩:=bI b;refine M.f (bD Tryz.call114 (kq59 F e f _ i) [.g 0,.g 1] [vs 0,.f 133 [.p 1 0]] (J g.1) K iR)<|M.n d 2 [] [(4,vb (decide (g.1>=0)))]<|M.nT ?_;cases b;exact Z.q d [.g 0,.g 1]
def ade(c:bO):List Item:=[.k 99 (hxa c 1),.d 5 dA c.aD.ak,.o 15 91 dJ c.aD.aj,.o 14 93 eB c.aD.aB,.d 1 R8 c.aD.ay.aq,.o 2 116 bM c.aD.Out,.o 10 81 dW c.ar]
theorem kq1p F c r(b:q1p F c=some r):Spec Tryz.prog 98 [vp 0 0] [.k 99 (hxa c 1),.d 5 dA c.aD.ak,.o 15 91 dJ c.aD.aj,.o 14 93 eB c.aD.aB,.d 1 R8 c.aD.ay.aq,.o 2 116 bM c.aD.Out,.o 10 81 dW c.ar] (J r.1) [.k 99 (hxa r.2 7),.e,.e,.e,.e,.e,.e,.d 5 dA r.2.aD.ak,.o 15 91 dJ r.2.aD.aj,.o 14 93 eB r.2.aD.aB,.d 1 R8 r.2.aD.ay.aq,.o 2 116 bM r.2.aD.Out,.o 10 81 dW r.2.ar]:=by
 refine eN Tryz.func98 rfl Tryz.ntmps98 rfl rfl fun fx=>?_;refine Z.n d [0] []<|Z.s<|M.n d 5 [0] [(8,J c.aD.bV)]<|M.f (eA (E:=3) d [cI 0] K)<|M.d d 1 [0,3] [] [(7,3,[cI c.aD.bV])] [] []<|M.nT<|Z.cut (fun a w=>∃f,q6m F c f=some r/\A 36 7 fx [(0,vp 0 0),(3,vp 7 0)] (ade c++[.k 3 [cI f]]) a w) ?_ ?_
 .refine Z.n d [0,3] [(9,J 0)]<|Z.block ?_;obtain⟨o1,hi1,ho1⟩:=bI b;clear b;refine Z.loop (fun n a w=>∃(g e:Int),iter (fun s=>ZL F c s.1 s.2) n (g,e)=some o1/\A 36 7 fx [(0,vp 0 0),(3,vp 7 0),(9,J e)] (ade c++[.k 3 [cI g]]) a w) F (fun a w h=>⟨c.aD.bV,0,hi1,h.t (gs 8)⟩) ?_;rintro n1 a w ⟨g,e,hi1,h⟩;obtain⟨n1,q1,rfl,b,hs1⟩:=iI hi1;replace b:ZL F c g e=some q1:=b;clear hi1;refine h.go<|Z.n d [0,3,9] [(10,vb (decide (e<255)))]<|Z.seq<|Z.j b (fun b=>?_) fun b=>?_
  .refine Z.aF<|Z.seq<|Z.block<|Z.cut (fun a w=>∃(k:Int),q47 F c e k=some q1/\A 36 7 fx [(0,vp 0 0),(3,vp 7 0),(9,J e)] (ade c++[.k 3 [cI k]]) a w) ?_ ?_
   .refine Z.n d [0,3,9] [(16,vb ((decide (g<1))||(decide (g>255))))]<|Z.j b (fun b=>?_) fun b=>?_
    .refine Z.reg<|M.d d 1 [0,3,9] [] [(7,3,[cI 1])] [] []<|M.aV fun a w h=>?_;exact⟨1,b,h.t (gs 8)⟩
    refine Z.kJ fun a w h=>?_;exact⟨g,b,h.t (gs 8)⟩
   rintro a w ⟨k,b,h⟩;refine h.go<|Z.seq<|Z.s<|M.n d 6 [0,3,9] [(21,vs 3),(22,.f 133 [.p 7 0])] ?_;obtain⟨i,l,b⟩:=bI b;refine M.f (bD Tryz.call83 (kq46 F c.aD.aB k _ l) [.l 3,.g 7] [vs 3,.f 133 [.p 7 0]] (vb i.1) K (.inr ⟨trivial,trivial,trivial⟩))<|M.n d 1 [0,3,9] [(24,vb (!i.1))]<|M.nT<|Z.j b (fun b=>?_) fun b=>?_
   .refine Z.xJ rfl fun a w h=>?_;have ho:=dI b hs1;replace b:=ho1
    try rw[ho]at b
    exact⟨i.2,b,h.t (gs 8)⟩
   refine Z.aF<|Z.reg<|M.d d 3 [0,3,9] [] [(7,3,[cI (aL (i.2+1))])] [] []<|M.nT<|Z.reg<|M.n d 2 [0,3] [(9,J (aL (e+1)))]<|M.aV fun a w h=>?_;exact⟨n1,Nat.lt_succ_self _,aL (i.2+1),aL (e+1),nI b hs1,h.t (gs 8)⟩
  refine Z.xJ rfl fun a w h=>?_;have ho:=dI b hs1;replace b:=ho1
  try rw[ho]at b
  exact⟨g,b,h.t (gs 8)⟩
 rintro a w ⟨f,b,h⟩;refine h.go<|Z.d d [3] [] [(0,99,hxa ({c with aD:={c.aD with bV:=aL (iE f 255+1)}}) 1)] [.bin .rem .i64 f 255 (iE f 255) K] [f,255]<|Z.n d [] [(2,J f)] ?_;cases b;exact Z.q d (gr [(0,7),(1,6)])
theorem kq2f F c r(b:q2f F c=some r):Spec Tryz.prog 139 [J c] [] (vb r) []:=by
 refine eN Tryz.func139 rfl Tryz.ntmps139 rfl rfl fun fx=>?_;refine Z.n d [0] []<|Z.seq<|Z.n d [] [(3,J c)]<|Z.block<|Z.cut (fun a w=>∃e,Wq F e=some r/\A 13 0 fx [(4,vb e)] [] a w) ?_ ?_
 .refine Z.n d [3] [(4,vb (c==1))]<|Z.j b (fun b=>?_) fun b=>?_
  .refine Z.kJ fun a w h=>?_;exact⟨c==1,b,h.t []⟩
  refine Z.n d [3] [(4,vb (c==6))]<|Z.j b (fun b=>?_) fun b=>?_
  .refine Z.kJ fun a w h=>?_;exact⟨c==6,b,h.t []⟩
  refine Z.n d [3] [(4,vb (c==7))]<|Z.j b (fun b=>?_) fun b=>?_
  .refine Z.kJ fun a w h=>?_;exact⟨c==7,b,h.t []⟩
  refine Z.n d [3] [(4,vb (c==18))]<|Z.j b (fun b=>?_) fun b=>?_
  .refine Z.kJ fun a w h=>?_;exact⟨c==18,b,h.t []⟩
  refine Z.n d [3] [(4,vb (c==19))]<|Z.j b (fun b=>?_) fun b=>?_
  .refine Z.kJ fun a w h=>?_;exact⟨c==19,b,h.t []⟩
  refine Z.n d [3] [(4,vb (c==20))]<|Z.j b (fun b=>?_) fun b=>?_
  .refine Z.kJ fun a w h=>?_;exact⟨c==20,b,h.t []⟩
  refine Z.n d [3] [(4,vb (c==21))]<|Z.j b (fun b=>?_) fun b=>?_
  .refine Z.kJ fun a w h=>?_;exact⟨c==21,b,h.t []⟩
  refine Z.reg<|M.n d 2 [] [(4,vb (c==22))]<|M.aV fun a w h=>?_;exact⟨c==22,b,h.t []⟩
 rintro a w ⟨e,b,h⟩;refine h.go<|Z.j b (fun b=>?_) fun b=>?_
 .refine Z.n d [] [(2,vb true)] ?_;cases b;exact Z.q d []
 refine Z.aF<|Z.n d [] [(2,vb false)] ?_;cases b;exact Z.q d []
def K4(f:aQ):List Item:=[.k 93 (bG f),.k 93 (bG zS)]
theorem kq48 F c r(b:q48 F c=some r):Spec Tryz.prog 170 [.g (bG c)] [] (.g (bG r)) []:=by
 refine eN Tryz.func170 rfl Tryz.ntmps170 rfl rfl fun fx=>?_;refine Z.s<|M.f (bR (E:=93) (bG c) K)<|M.f (eA (E:=93) d (bG zS) K)<|M.nT<|Z.s<|M.n d 5 [1,2] [(8,.g (bG ({c with bT:=0,ab:=0,bK:=0,dh:=0,cZ:=0,aA:=0,Result:=0,ao:=zU})))]<|M.f (eA (E:=93) d (bG zS) K)<|M.d d 1 [1,2,3] [] [(2,93,bG ({c with bT:=0,ab:=0,bK:=0,dh:=0,cZ:=0,aA:=0,Result:=0,ao:=zU}))] [] []<|M.nT<|Z.cut (fun a w=>∃g,ZK F c g=some r/\A 76 0 fx [(2,vp 0 0),(3,vp 1 0)] [.k 93 (bG zS),.k 93 (bG ({g with ae:=c.ae,ID:=c.ID}))] a w) ?_ ?_
 .refine Z.n d [1,2,3] [(10,J c.ae)]<|Z.block<|Z.seq<|Z.block<|Z.seq<|Z.block<|Z.seq<|Z.block<|Z.seq<|Z.block<|Z.cut (fun a w=>q6n F c=some r/\A 76 0 fx [(1,vp 0 0),(2,vp 1 0),(3,vp 2 0)] (K4 c++[.k 93 (bG ({c with bT:=0,ab:=0,bK:=0,dh:=0,cZ:=0,aA:=0,Result:=0,ao:=zU}))]) a w) ?_ ?_
  .refine Z.block<|Z.block<|Z.cut (fun a w=>q6o F c=some r/\A 76 0 fx [(1,vp 0 0),(2,vp 1 0),(3,vp 2 0)] (K4 c++[.k 93 (bG ({c with bT:=0,ab:=0,bK:=0,dh:=0,cZ:=0,aA:=0,Result:=0,ao:=zU}))]) a w) ?_ ?_
   .refine Z.block<|Z.block<|Z.seq<|Z.seq<|Z.n d [1,2,3,10] [(11,vb (c.ae==19))]<|Z.j b (fun b=>?_) fun b=>?_
    .refine Z.xJ rfl fun a w h=>?_;exact⟨b,h.t (gs 3)⟩
    refine Z.aF<|Z.seq<|Z.n d [1,2,3,10] [(13,vb (c.ae==1))]<|Z.j b (fun b=>?_) fun b=>?_
    .refine Z.xJ rfl fun a w h=>?_;exact⟨b,h.t (gs 3)⟩
    refine Z.aF<|Z.seq<|Z.n d [1,2,3,10] [(15,vb (c.ae==7))]<|Z.j b (fun b=>?_) fun b=>?_
    .refine Z.xJ rfl fun a w h=>?_;exact⟨b,h.t (gs 3)⟩
    refine Z.aF<|Z.seq<|Z.n d [1,2,3,10] [(17,vb (c.ae==6))]<|Z.j b (fun b=>?_) fun b=>?_
    .refine Z.xJ rfl fun a w h=>?_;exact⟨b,h.t (gs 3)⟩
    refine Z.aF<|Z.seq<|Z.n d [1,2,3,10] [(19,vb (c.ae==18))]<|Z.j b (fun b=>?_) fun b=>?_
    .refine Z.pY rfl<|Z.d d [2,3] [] [(2,93,bG ({c with bT:=0,ab:=0,bK:=0,dh:=0,cZ:=0,aA:=0,Result:=0}))] [] []<|Z.xJ rfl fun a w h=>?_;exact⟨{c with bT:=0,ab:=0,bK:=0,dh:=0,cZ:=0,aA:=0,Result:=0},b,h.t [.g 1,.g 2]⟩
    refine Z.aF<|Z.seq<|Z.n d [1,2,3,10] [(21,vb (c.ae==20))]<|Z.j b (fun b=>?_) fun b=>?_
    .refine Z.pY rfl<|Z.cut (fun a w=>q8j F c=some r/\A 76 0 fx [(2,vp 0 0),(3,vp 1 0)] [.k 93 (bG zS),.k 93 (bG ({c with bK:=0,Result:=0,ao:=zU}))] a w) ?_ ?_
     .refine Z.rY MO ([true,true,false],[true,true,true],[11,13,15,17,19]) K fun l e=>?_;refine SD.n d e [0,1,2,3,4,5,6,7,8,9,10] (bm 20 2047) [2,3] [(40,vi .u16 c.bT),(42,vi .u16 c.ab),(44,J c.dh),(46,J c.cZ),(48,J c.aA),(49,vp 2 2)]<|SD.all1 (i:=11) K<|SW.store e d (i:=11) (q:=2) (T:=93) (cs:=(bG ({c with ab:=0,bK:=0,dh:=0,cZ:=0,aA:=0,Result:=0,ao:=zU}))) (bs':=(bm 20 4095)) rfl K K rfl K<|SD.n d e [12] (bm 20 8191) [2,3,42,44,46,48] [(50,vp 2 3)]<|SD.all1 (i:=13) K<|SW.store e d (i:=13) (q:=2) (T:=93) (cs:=(bG ({c with bK:=0,dh:=0,cZ:=0,aA:=0,Result:=0,ao:=zU}))) (bs':=(bm 20 16383)) rfl K K rfl K<|SD.norm (bC:=(K4 c++[.k 93 (bG ({c with bK:=0,dh:=0,cZ:=0,aA:=0,Result:=0,ao:=zU}))])) K<|SD.n d e [14] (bm 20 32767) [2,3,44,46,48] [(51,vp 2 5)]<|SD.all1 (i:=15) K<|SW.store e d (i:=15) (q:=2) (T:=93) (cs:=(bG ({c with bK:=0,cZ:=0,aA:=0,Result:=0,ao:=zU}))) (bs':=(bm 20 65535)) rfl K K rfl K<|SD.n d e [16] (bm 20 131071) [2,3,46,48] [(52,vp 2 6)]<|SD.all1 (i:=17) K<|SW.store e d (i:=17) (q:=2) (T:=93) (cs:=(bG ({c with bK:=0,aA:=0,Result:=0,ao:=zU}))) (bs':=(bm 20 262143)) rfl K K rfl K<|SD.n d e [18] (bm 20 524287) [2,3,48] [(53,vp 2 7)]<|SD.all1 (i:=19) K<|SW.store e d (i:=19) (q:=2) (T:=93) (cs:=(bG ({c with bK:=0,Result:=0,ao:=zU}))) (bs':=(bm 20 1048575)) rfl K K rfl K<|SD.done K fun a w h=>?_;exact⟨b,h.t [.g 1,.g 2]⟩
     rintro a w ⟨b,h⟩;refine h.go<|Z.xJ rfl fun a w h=>?_;exact⟨{c with bK:=0,Result:=0,ao:=zU},b,h.t [.g 0,.g 1]⟩
    refine Z.aF<|Z.seq<|Z.n d [1,2,3,10] [(23,vb (c.ae==21))]<|Z.j b (fun b=>?_) fun b=>?_
    .refine Z.pY rfl<|Z.cut (fun a w=>q8k F c=some r/\A 76 0 fx [(2,vp 0 0),(3,vp 1 0)] [.k 93 (bG zS),.k 93 (bG ({c with bT:=0,bK:=0,ao:=zU}))] a w) ?_ ?_
     .refine Z.rY MO ([true,true,false],[true,true,true],[11,13,15,17,19]) K fun m f=>?_;refine SD.n d f [0,1,2,3,4,5,6,7,8,9,10] (bm 20 2047) [2,3] [(55,vi .u16 c.ab),(57,J c.dh),(59,J c.cZ),(61,J c.aA),(63,J c.Result),(64,vp 2 3)]<|SD.all1 (i:=11) K<|SW.store f d (i:=11) (q:=2) (T:=93) (cs:=(bG ({c with bT:=0,bK:=0,dh:=0,cZ:=0,aA:=0,Result:=0,ao:=zU}))) (bs':=(bm 20 4095)) rfl K K rfl K<|SD.n d f [12] (bm 20 8191) [2,3,57,59,61,63] [(65,vp 2 5)]<|SD.all1 (i:=13) K<|SW.store f d (i:=13) (q:=2) (T:=93) (cs:=(bG ({c with bT:=0,bK:=0,cZ:=0,aA:=0,Result:=0,ao:=zU}))) (bs':=(bm 20 16383)) rfl K K rfl K<|SD.norm (bC:=(K4 c++[.k 93 (bG ({c with bT:=0,bK:=0,cZ:=0,aA:=0,Result:=0,ao:=zU}))])) K<|SD.n d f [14] (bm 20 32767) [2,3,59,61,63] [(66,vp 2 6)]<|SD.all1 (i:=15) K<|SW.store f d (i:=15) (q:=2) (T:=93) (cs:=(bG ({c with bT:=0,bK:=0,aA:=0,Result:=0,ao:=zU}))) (bs':=(bm 20 65535)) rfl K K rfl K<|SD.n d f [16] (bm 20 131071) [2,3,61,63] [(67,vp 2 7)]<|SD.all1 (i:=17) K<|SW.store f d (i:=17) (q:=2) (T:=93) (cs:=(bG ({c with bT:=0,bK:=0,Result:=0,ao:=zU}))) (bs':=(bm 20 262143)) rfl K K rfl K<|SD.n d f [18] (bm 20 524287) [2,3,63] [(68,vp 2 8)]<|SD.all1 (i:=19) K<|SW.store f d (i:=19) (q:=2) (T:=93) (cs:=(bG ({c with bT:=0,bK:=0,ao:=zU}))) (bs':=(bm 20 1048575)) rfl K K rfl K<|SD.done K fun a w h=>?_;exact⟨b,h.t [.g 1,.g 2]⟩
     rintro a w ⟨b,h⟩;refine h.go<|Z.xJ rfl fun a w h=>?_;exact⟨{c with bT:=0,bK:=0,ao:=zU},b,h.t [.g 0,.g 1]⟩
    refine Z.aF<|Z.n d [1,2,3] [(25,vb (c.ae==22))]<|Z.j b (fun b=>?_) fun b=>?_
    .refine Z.pY rfl<|Z.cut (fun a w=>q8l F c=some r/\A 76 0 fx [(2,vp 0 0),(3,vp 1 0)] [.k 93 (bG zS),.k 93 (bG ({c with bT:=0,bK:=0,dh:=0,cZ:=0,Result:=0,ao:=zU}))] a w) ?_ ?_
     .refine Z.rY MO ([true,true,false],[true,true,true],[5,7]) K fun p i=>?_;refine SD.n d i [0,1,2,3,4] (bm 8 31) [2,3] [(70,vi .u16 c.ab),(72,J c.aA),(73,vp 2 3)]<|SD.all1 (i:=5) K<|SW.store i d (i:=5) (q:=2) (T:=93) (cs:=(bG ({c with bT:=0,bK:=0,dh:=0,cZ:=0,aA:=0,Result:=0,ao:=zU}))) (bs':=(bm 8 63)) rfl K K rfl K<|SD.n d i [6] (bm 8 127) [2,3,72] [(74,vp 2 7)]<|SD.all1 (i:=7) K<|SW.store i d (i:=7) (q:=2) (T:=93) (cs:=(bG ({c with bT:=0,bK:=0,dh:=0,cZ:=0,Result:=0,ao:=zU}))) (bs':=(bm 8 255)) rfl K K rfl K<|SD.norm (bC:=(K4 c++[.k 93 (bG ({c with bT:=0,bK:=0,dh:=0,cZ:=0,Result:=0,ao:=zU}))])) K<|SD.done K fun a w h=>?_;exact⟨b,h.t [.g 1,.g 2]⟩
     rintro a w ⟨b,h⟩;refine h.go<|Z.xJ rfl fun a w h=>?_;exact⟨{c with bT:=0,bK:=0,dh:=0,cZ:=0,Result:=0,ao:=zU},b,h.t [.g 0,.g 1]⟩
    refine Z.aF<|Z.xJ rfl fun a w h=>?_;exact⟨{c with bT:=0,ab:=0,bK:=0,dh:=0,cZ:=0,aA:=0,Result:=0,ao:=zU},b,h.t [.g 1,.g 2]⟩
   rintro a w ⟨b,h⟩;refine h.go<|Z.d d [2,3] [] [(2,93,bG ({c with bT:=0,ab:=0,bK:=0,dh:=0,cZ:=0,aA:=0,ao:=zU}))] [] []<|Z.xJ rfl fun a w h=>?_;exact⟨{c with bT:=0,ab:=0,bK:=0,dh:=0,cZ:=0,aA:=0,ao:=zU},b,h.t [.g 1,.g 2]⟩
  rintro a w ⟨b,h⟩;refine h.go<|Z.cut (fun a w=>q8i F c=some r/\A 76 0 fx [(2,vp 0 0),(3,vp 1 0)] [.k 93 (bG zS),.k 93 (bG ({c with bT:=0,dh:=0,cZ:=0,aA:=0,Result:=0,ao:=zU}))] a w) ?_ ?_
  .refine Z.rY MO ([true,true,false],[true,true,true],[5,7]) K fun q k=>?_;refine SD.n d k [0,1,2,3,4] (bm 8 31) [2,3] [(31,vi .u16 c.ab),(33,vi .u16 c.bK),(34,vp 2 3)]<|SD.all1 (i:=5) K<|SW.store k d (i:=5) (q:=2) (T:=93) (cs:=(bG ({c with bT:=0,bK:=0,dh:=0,cZ:=0,aA:=0,Result:=0,ao:=zU}))) (bs':=(bm 8 63)) rfl K K rfl K<|SD.n d k [6] (bm 8 127) [2,3,33] [(35,vp 2 4)]<|SD.all1 (i:=7) K<|SW.store k d (i:=7) (q:=2) (T:=93) (cs:=(bG ({c with bT:=0,dh:=0,cZ:=0,aA:=0,Result:=0,ao:=zU}))) (bs':=(bm 8 255)) rfl K K rfl K<|SD.done K fun a w h=>?_;exact⟨b,h.t [.g 1,.g 2]⟩
  rintro a w ⟨b,h⟩;refine h.go<|Z.xJ rfl fun a w h=>?_;exact⟨{c with bT:=0,dh:=0,cZ:=0,aA:=0,Result:=0,ao:=zU},b,h.t [.g 0,.g 1]⟩
 rintro a w ⟨g,b,h⟩;refine h.go<|Z.d d [2] [] [(0,93,bG ({g with ae:=c.ae,ID:=c.ID}))] [] [] ?_;cases b;exact Z.q d []
theorem kq3j F c r(b:q3j F c=some r):Spec Tryz.prog 171 [.g (bG c)] [] (vb r) []:=by
 refine eN Tryz.func171 rfl Tryz.ntmps171 rfl rfl fun fx=>?_;refine Z.s<|M.f (bR (E:=93) (bG c) K)<|M.n d 1 [1] []<|M.nT<|Z.seq<|Z.n d [1] [(4,J c.ae)]<|Z.block<|Z.n d [1,4] [(5,vb (c.ae==1))]<|Z.j b (fun b=>?_) fun b=>?_
 .refine Z.n d [] [(2,vb ((c.Result==0)||(c.Result==2)))] ?_;cases b;exact Z.q d []
 refine Z.n d [1,4] [(15,vb (c.ae==19))]<|Z.j b (fun b=>?_) fun b=>?_
 .refine Z.n d [] [(2,vb ((c.Result==0)||(c.Result==1)))] ?_;cases b;exact Z.q d []
 refine Z.n d [1] [(25,vb (c.ae==21))]<|Z.j b (fun b=>?_) fun b=>?_
 .refine Z.seq<|Z.n d [] [(28,J c.Result)]<|Z.block<|Z.cut (fun a w=>∃e,q3i F e=some r/\A 35 0 fx [(29,vb e)] [] a w) ?_ ?_
  .refine Z.n d [28] [(29,vb (c.Result==0))]<|Z.j b (fun b=>?_) fun b=>?_
   .refine Z.kJ fun a w h=>?_;exact⟨c.Result==0,b,h.t []⟩
   refine Z.n d [28] [(29,vb (c.Result==2))]<|Z.j b (fun b=>?_) fun b=>?_
   .refine Z.kJ fun a w h=>?_;exact⟨c.Result==2,b,h.t []⟩
   refine Z.n d [28] [(29,vb (c.Result==4))]<|Z.j b (fun b=>?_) fun b=>?_
   .refine Z.kJ fun a w h=>?_;exact⟨c.Result==4,b,h.t []⟩
   refine Z.n d [28] [(29,vb (c.Result==5))]<|Z.j b (fun b=>?_) fun b=>?_
   .refine Z.kJ fun a w h=>?_;exact⟨c.Result==5,b,h.t []⟩
   refine Z.reg<|M.n d 2 [] [(29,vb (c.Result==9))]<|M.aV fun a w h=>?_;exact⟨c.Result==9,b,h.t []⟩
  rintro a w ⟨e,b,h⟩;refine h.go<|Z.j b (fun b=>?_) fun b=>?_
  .refine Z.n d [] [(2,vb true)] ?_;cases b;exact Z.q d []
  refine Z.aF<|Z.n d [] [(2,vb false)] ?_;cases b;exact Z.q d []
 refine Z.aF<|Z.n d [] [(2,vb true)] ?_;cases b;exact Z.q d []
theorem kqp F c r(b:qp F c=some r):Spec Tryz.prog 185 [vi .u16 c] [] (vb r) []:=by
 refine eN Tryz.func185 rfl Tryz.ntmps185 rfl rfl fun fx=>?_;refine Z.n d [0] []<|Z.n d [] [(2,vb ((decide (c>=64))&&(decide (c<=127))))] ?_;cases b;exact Z.q d []
theorem kq2h F c r(b:q2h F c=some r):Spec Tryz.prog 186 [J c] [] (vb r) []:=by
 refine eN Tryz.func186 rfl Tryz.ntmps186 rfl rfl fun fx=>?_;refine Z.n d [0] []<|Z.n d [] [(2,vb ((decide (c>=23))&&(decide (c<=4096))))] ?_;cases b;exact Z.q d []
theorem kq16 F c r(b:q16 F c=some r):Spec Tryz.prog 172 [.g (bG c)] [] (vb r) []:=by
 refine eN Tryz.func172 rfl Tryz.ntmps172 rfl rfl fun fx=>?_;refine Z.s<|M.f (bR (E:=93) (bG c) K)<|M.n d 1 [1] []<|M.nT<|Z.seq<|Z.n d [1] [(4,J c.ae)]<|Z.block<|Z.cut (fun a w=>∃i,XE F c i=some r/\A 57 0 fx [(1,vp 0 0),(4,J c.ae),(5,vb i)] [.k 93 (bG c)] a w) ?_ ?_
 .refine Z.n d [1,4] [(5,vb (c.ae==6))]<|Z.j b (fun b=>?_) fun b=>?_
  .refine Z.kJ fun a w h=>?_;exact⟨c.ae==6,b,h.t [.g 0]⟩
  refine Z.reg<|M.n d 2 [1,4] [(5,vb (c.ae==7))]<|M.aV fun a w h=>?_;exact⟨c.ae==7,b,h.t [.g 0]⟩
 rintro a w ⟨i,b,h⟩;refine h.go<|Z.j b (fun b=>?_) fun b=>?_
 .refine Z.s<|M.n d 2 [1] [(9,vi .u16 c.ab)] ?_;obtain⟨k,v,b⟩:=bI b;refine M.f (bD Tryz.call185 (kqp F c.ab _ v) [] [vi .u16 c.ab] (vb k) K iR)<|M.n d 1 [1] [(11,vb k)] ?_;obtain⟨q,hz,hpr⟩:=bI b;clear b;refine M.cutAt 4 (fun a w=>A 57 0 fx [(15,vb q)] [] a w) ?_ ?_
  .have b:=hz;rcases bB (k)with e|e
   .replace b:=gy b e;refine M.yes rfl rfl e<|M.n d 1 [11] [(12,vp 0 4)]<|M.yes rfl rfl e<|M.n d 1 [11] [(13,vi .u16 c.bK)]<|M.yes rfl rfl e ?_;obtain⟨y,z,b⟩:=bI b;refine M.f (bD Tryz.call185 (kqp F c.bK _ z) [] [vi .u16 c.bK] (vb y) K iR)<|M.jg rfl e rfl rfl<|M.aV fun a w h=>?_;cases b;exact h.t []
   replace b:=dU b e;refine M.no rfl rfl e rfl<|M.no rfl rfl e rfl<|M.no rfl rfl e rfl<|M.iW rfl e rfl rfl<|M.aV fun a w h=>?_;cases b;exact h.t []
  intro a w h;have b:=hpr;clear hpr hz;refine h.Aw<|M.n d 1 [] [(2,vb q)]<|M.nT ?_;cases b;exact Z.q d []
 refine Z.cut (fun a w=>∃l,q3k F c l=some r/\A 57 0 fx [(1,vp 0 0),(4,J c.ae),(16,vb l)] [.k 93 (bG c)] a w) ?_ ?_
 .refine Z.n d [1,4] [(16,vb (c.ae==20))]<|Z.j b (fun b=>?_) fun b=>?_
  .refine Z.kJ fun a w h=>?_;exact⟨c.ae==20,b,h.t [.g 0]⟩
  refine Z.reg<|M.n d 2 [1,4] [(16,vb (c.ae==21))]<|M.aV fun a w h=>?_;exact⟨c.ae==21,b,h.t [.g 0]⟩
 rintro a w ⟨l,b,h⟩;refine h.go<|Z.j b (fun b=>?_) fun b=>?_
 .refine Z.s<|M.n d 2 [1] [(20,vi .u16 c.ab)] ?_;obtain⟨m,B,b⟩:=bI b;refine M.f (bD Tryz.call185 (kqp F c.ab _ B) [] [vi .u16 c.ab] (vb m) K iR)<|M.n d 1 [1] [(22,vb m)] ?_;obtain⟨p,hz,hpr⟩:=bI b;clear b;refine M.cutAt 4 (fun a w=>A 57 0 fx [(1,vp 0 0),(26,vb p)] [.k 93 (bG c)] a w) ?_ ?_
  .have b:=hz;rcases bB (m)with f|f
   .replace b:=gy b f;refine M.yes rfl rfl f<|M.n d 1 [1,22] [(23,vp 0 5)]<|M.yes rfl rfl f<|M.n d 1 [1,22] [(24,J c.dh)]<|M.yes rfl rfl f ?_;obtain⟨C,D,b⟩:=bI b;refine M.f (bD Tryz.call186 (kq2h F c.dh _ D) [] [J c.dh] (vb C) K iR)<|M.jg rfl f rfl rfl<|M.aV fun a w h=>?_;cases b;exact h.t [.g 0]
   replace b:=dU b f;refine M.no rfl rfl f rfl<|M.no rfl rfl f rfl<|M.no rfl rfl f rfl<|M.iW rfl f rfl rfl<|M.aV fun a w h=>?_;cases b;exact h.t [.g 0]
  intro a w h;have b:=hpr;clear hpr hz;refine h.Aw<|M.n d 1 [1] [(27,vb p)] ?_;obtain⟨t,hz,hpr⟩:=bI b;clear b;refine M.cutAt 4 (fun a w=>A 57 0 fx [(1,vp 0 0),(31,vb t)] [.k 93 (bG c)] a w) ?_ ?_
  .have b:=hz;rcases bB (p)with g|g
   .replace b:=gy b g;refine M.yes rfl rfl g<|M.n d 1 [1,27] [(28,vp 0 6)]<|M.yes rfl rfl g<|M.n d 1 [1,27] [(29,J c.cZ)]<|M.yes rfl rfl g ?_;obtain⟨E,G,b⟩:=bI b;refine M.f (bD Tryz.call186 (kq2h F c.cZ _ G) [] [J c.cZ] (vb E) K iR)<|M.jg rfl g rfl rfl<|M.aV fun a w h=>?_;cases b;exact h.t [.g 0]
   replace b:=dU b g;refine M.no rfl rfl g rfl<|M.no rfl rfl g rfl<|M.no rfl rfl g rfl<|M.iW rfl g rfl rfl<|M.aV fun a w h=>?_;cases b;exact h.t [.g 0]
  intro a w h;have b:=hpr;clear hpr hz;refine h.Aw<|M.n d 11 [] [(2,vb ((t&&(decide (c.aA>=0)))&&(decide (c.aA<=65535))))]<|M.nT ?_;cases b;exact Z.q d []
 refine Z.n d [1] [(42,vb (c.ae==22))]<|Z.j b (fun b=>?_) fun b=>?_
 .refine Z.s<|M.n d 2 [1] [(45,vi .u16 c.ab)] ?_;obtain⟨u,H,b⟩:=bI b;refine M.f (bD Tryz.call185 (kqp F c.ab _ H) [] [vi .u16 c.ab] (vb u) K iR)<|M.n d 11 [] [(2,vb ((u&&(decide (c.aA>=1)))&&(decide (c.aA<=65535))))]<|M.nT ?_;cases b;exact Z.q d []
 refine Z.aF<|Z.n d [] [(2,vb true)] ?_;cases b;exact Z.q d []
theorem kq49 F c r(b:q49 F c=some r):Spec Tryz.prog 113 [vs 0] [.d 3 Rxb c] (vb r) [.e]:=by
 refine eN Tryz.func113 rfl Tryz.ntmps113 rfl rfl fun fx=>?_;refine Z.n d [0] []<|Z.cut (fun a w=>q8m F=some r/\A 24 1 fx [] [.e] a w) ?_ ?_
 .refine Z.n d [] [(5,vs 0),(6,J (len c)),(7,J 0)]<|Z.block ?_;obtain⟨o1,hi1,ho1⟩:=bI b;clear b;refine Z.loop (fun n a w=>∃(e:Int),iter (fun s=>ZJ F c s) n e=some o1/\A 24 1 fx [(5,vs 0),(6,J (len c)),(7,J e)] [.d 3 Rxb c] a w) F (fun a w h=>⟨0,hi1,h.t [.g 0]⟩) ?_;rintro n1 a w ⟨e,hi1,h⟩;obtain⟨n1,q1,rfl,b,hs1⟩:=iI hi1;replace b:ZJ F c e=some q1:=b;clear hi1;refine h.go<|Z.n d [5,6,7] [(8,vb (decide (e<len c)))]<|Z.seq<|Z.j b (fun b=>?_) fun b=>?_
  .refine Z.aF<|Z.seq<|Z.block<|Z.s ?_;obtain⟨f,g,b⟩:=bI b;refine M.pre (pX (i:=0) (iv:=e) (sz:=3) (R:=Rxb) (l:=c) K rfl g)<|M.d d 2 [5,6,7] [(10,.g (Cxb f))] [] [.el 1] [e]<|M.f (eA (E:=179) d [cI 0,cI 0,cI 0] K)<|M.d d 1 [4,5,6,7] [] [(2,179,Cxb f)] [] []<|M.nT<|Z.n d [5,6,7] [(22,vb ((decide (f.n<f.br))||(decide (f.n>f.bp))))]<|Z.j b (fun b=>?_) fun b=>?_
   .refine Z.n d [] [(2,vb false)] ?_;have ho:=dI b hs1;replace b:=ho1
    try rw[ho]at b
    cases b;exact Z.q d [.g 0]
   refine Z.aF<|Z.reg<|M.n d 2 [5,6] [(7,J (aL (e+1)))]<|M.aV fun a w h=>?_;exact⟨n1,Nat.lt_succ_self _,aL (e+1),nI b hs1,h.t [.g 0]⟩
  refine Z.xJ rfl fun a w h=>?_;have ho:=dI b hs1;replace b:=ho1
  try rw[ho]at b
  exact⟨b,h.t [.g 0]⟩
 rintro a w ⟨b,h⟩;refine h.go<|Z.n d [] [(2,vb true)] ?_;cases b;exact Z.q d [.g 0]
theorem kq2j F c r(b:q2j F c=some r):Spec Tryz.prog 82 [.g (DU c)] [] (J r) []:=by
 refine eN Tryz.func82 rfl Tryz.ntmps82 rfl rfl fun fx=>?_;refine Z.s<|M.f (bR (E:=43) (DU c) K)<|M.n d 1 [1] []<|M.nT<|Z.seq<|Z.s<|M.n d 15 [1] [(5,.g [cI c.bQ,cI 1,cI 8]),(8,.g [cI c.aZ,cI 0,cI 3200]),(11,.g [cI c.aE,cI 6,cI 3200]),(14,.g [cI c.aO,cI 0,cI 499]),(17,.g [cI c.bc,cI 10,cI 3200])]<|M.f (eL (sz:=3) (E:=179) (R:=Rxb) (dF:=24) d [[cI c.bQ,cI 1,cI 8],[cI c.aZ,cI 0,cI 3200],[cI c.aE,cI 6,cI 3200],[cI c.aO,cI 0,cI 499],[cI c.bc,cI 10,cI 3200]] [xM.mk c.bQ 1 8,xM.mk c.aZ 0 3200,xM.mk c.aE 6 3200,xM.mk c.aO 0 499,xM.mk c.bc 10 3200] K ⟨Vf (x:=(xM.mk c.bQ 1 8)),⟨Vf (x:=(xM.mk c.aZ 0 3200)),⟨Vf (x:=(xM.mk c.aE 6 3200)),⟨Vf (x:=(xM.mk c.aO 0 499)),⟨Vf (x:=(xM.mk c.bc 10 3200)),trivial⟩⟩⟩⟩⟩ rfl K K) ?_;obtain⟨e,f,b⟩:=bI b;refine M.f (bD Tryz.call113 (kq49 F [xM.mk c.bQ 1 8,xM.mk c.aZ 0 3200,xM.mk c.aE 6 3200,xM.mk c.aO 0 499,xM.mk c.bc 10 3200] _ f) [.l 1] [vs 1] (vb e) K (.inr ⟨trivial,trivial⟩))<|M.n d 1 [1] [(20,vb (!e))]<|M.nT<|Z.j b (fun b=>?_) fun b=>?_
 .refine Z.n d [] [(2,J 5)] ?_;cases b;exact Z.q d []
 refine Z.aF<|Z.seq<|Z.n d [] [(46,vb (((decide (c.bQ>=c.aE))||(decide (c.aZ>c.aE)))||(decide (aL (c.bc*10000)<=aL (aL (aL (2*aL (c.aO+1))*c.aE)*1250)))))]<|Z.j b (fun b=>?_) fun b=>?_
 .refine Z.n d [] [(2,J 11)] ?_;cases b;exact Z.q d []
 refine Z.aF<|Z.n d [] [(2,J 0)] ?_;cases b;exact Z.q d []
theorem kq2k F c r(b:q2k F c=some r):Spec Tryz.prog 142 [.g (bG c)] [] (J r) []:=by
 refine eN Tryz.func142 rfl Tryz.ntmps142 rfl rfl fun fx=>?_;refine Z.s<|M.f (bR (E:=93) (bG c) K)<|M.n d 1 [1] []<|M.nT<|Z.seq<|Z.block<|Z.s<|M.n d 2 [1] [(5,J c.ae)] ?_;obtain⟨i,p,b⟩:=bI b;refine M.f (bD Tryz.call139 (kq2f F c.ae _ p) [] [J c.ae] (vb i) K iR)<|M.n d 2 [1] [(3,vb (!i))]<|M.nT<|Z.j b (fun b=>?_) fun b=>?_
 .refine Z.n d [] [(2,J 12)] ?_;cases b;exact Z.q d []
 refine Z.n d [1] [(8,vb ((decide (c.ID<1))||(decide (c.ID>255))))]<|Z.j b (fun b=>?_) fun b=>?_
 .refine Z.n d [] [(2,J 5)] ?_;cases b;exact Z.q d []
 refine Z.cut (fun a w=>∃g,q6p F c g=some r/\A 73 0 fx [(1,vp 0 0),(17,vb g)] [.k 93 (bG c)] a w) ?_ ?_
 .refine Z.draw MO [true] K fun y f=>?_;refine SD.n d f [0,1] [true,true,false,false,false] [1] [(18,.g (bG c)),(19,.g (bG c))] ?_;obtain⟨e,q,b⟩:=bI b;refine SD.all1 (i:=2) K<|SW.f f 2 [true,true,true,false,false] rfl rfl rfl (bD Tryz.call170 (kq48 F c _ q) [] [.g (bG c)] (.g (bG e)) K iR)<|SD.all1 (i:=3) K<|SW.f f 3 [true,true,true,true,false] rfl rfl rfl (agA d (cs:=(bG c)) (ds:=(bG e)) [c.ae==e.ae,c.ID==e.ID,c.bT==e.bT,c.ab==e.ab,c.bK==e.bK,c.dh==e.dh,c.cZ==e.cZ,c.aA==e.aA,c.Result==e.Result,c.ao.bQ==e.ao.bQ,c.ao.aZ==e.ao.aZ,c.ao.aE==e.ao.aE,c.ao.aO==e.ao.aO,c.ao.bc==e.ao.bc] (!((c.ae==e.ae)&&((c.ID==e.ID)&&((c.bT==e.bT)&&((c.ab==e.ab)&&((c.bK==e.bK)&&((c.dh==e.dh)&&((c.cZ==e.cZ)&&((c.aA==e.aA)&&((c.Result==e.Result)&&((c.ao.bQ==e.ao.bQ)&&((c.ao.aZ==e.ao.aZ)&&((c.ao.aE==e.ao.aE)&&((c.ao.aO==e.ao.aO)&&(c.ao.bc==e.ao.bc))))))))))))))) rfl rfl K K K (.inr ⟨rfl,K⟩))<|SD.n d f [4] [true,true,true,true,true] [1] [(17,vb (!((c.ae==e.ae)&&((c.ID==e.ID)&&((c.bT==e.bT)&&((c.ab==e.ab)&&((c.bK==e.bK)&&((c.dh==e.dh)&&((c.cZ==e.cZ)&&((c.aA==e.aA)&&((c.Result==e.Result)&&((c.ao.bQ==e.ao.bQ)&&((c.ao.aZ==e.ao.aZ)&&((c.ao.aE==e.ao.aE)&&((c.ao.aO==e.ao.aO)&&(c.ao.bc==e.ao.bc))))))))))))))))]<|SD.done K fun a w h=>?_;exact⟨(!((c.ae==e.ae)&&((c.ID==e.ID)&&((c.bT==e.bT)&&((c.ab==e.ab)&&((c.bK==e.bK)&&((c.dh==e.dh)&&((c.cZ==e.cZ)&&((c.aA==e.aA)&&((c.Result==e.Result)&&((c.ao.bQ==e.ao.bQ)&&((c.ao.aZ==e.ao.aZ)&&((c.ao.aE==e.ao.aE)&&((c.ao.aO==e.ao.aO)&&(c.ao.bc==e.ao.bc))))))))))))))),b,h.t [.g 0]⟩
 rintro a w ⟨g,b,h⟩;refine h.go<|Z.j b (fun b=>?_) fun b=>?_
 .refine Z.n d [] [(2,J 1)] ?_;cases b;exact Z.q d []
 refine Z.s<|M.n d 1 [1] [(23,.g (bG c))] ?_;obtain⟨k,t,b⟩:=bI b;refine M.f (bD Tryz.call171 (kq3j F c _ t) [] [.g (bG c)] (vb k) K iR)<|M.n d 2 [1] [(22,vb (!k))]<|M.nT<|Z.j b (fun b=>?_) fun b=>?_
 .refine Z.n d [] [(2,J 5)] ?_;cases b;exact Z.q d []
 refine Z.n d [1] [(26,vb ((c.ae==21)&&(c.Result != 0)))]<|Z.j b (fun b=>?_) fun b=>?_
 .refine Z.seq<|Z.n d [] [(52,vb ((((c.ab != 0)||(c.dh != 0))||(c.cZ != 0))||(c.aA != 0)))]<|Z.j b (fun b=>?_) fun b=>?_
  .refine Z.n d [] [(2,J 1)] ?_;cases b;exact Z.q d []
  refine Z.aF<|Z.n d [] [(2,J 0)] ?_;cases b;exact Z.q d []
 refine Z.n d [1] [(53,vb ((c.ae==20)&&(c.bT==0)))]<|Z.j b (fun b=>?_) fun b=>?_
 .refine Z.n d [] [(2,J 1)] ?_;cases b;exact Z.q d []
 refine Z.s<|M.n d 1 [1] [(63,.g (bG c))] ?_;obtain⟨l,u,b⟩:=bI b;refine M.f (bD Tryz.call172 (kq16 F c _ u) [] [.g (bG c)] (vb l) K iR)<|M.n d 2 [1] [(62,vb (!l))]<|M.nT<|Z.j b (fun b=>?_) fun b=>?_
 .refine Z.n d [] [(2,J 5)] ?_;cases b;exact Z.q d []
 refine Z.n d [1] [(66,vb (c.ae==18))]<|Z.j b (fun b=>?_) fun b=>?_
 .refine Z.s<|M.n d 2 [] [(71,.g (DU c.ao))] ?_;obtain⟨m,v,b⟩:=bI b;refine M.f (bD Tryz.call82 (kq2j F c.ao _ v) [] [.g (DU c.ao)] (J m) K iR)<|M.n d 1 [] [(2,J m)]<|M.nT ?_;cases b;exact Z.q d []
 refine Z.aF<|Z.n d [] [(2,J 0)] ?_;cases b;exact Z.q d []
theorem kqq F c r(b:qq F c=some r):Spec Tryz.prog 138 [J c] [] (vs 0) [.d 1 (dG .i64) r]:=by
 refine eN Tryz.func138 rfl Tryz.ntmps138 rfl rfl fun fx=>?_;refine Z.n d [0] []<|Z.seq<|Z.n d [] [(3,J c)]<|Z.block<|Z.cut (fun a w=>∃e,q5x F c e=some r/\A 17 0 fx [(3,J c),(4,vb e)] [] a w) ?_ ?_
 .refine Z.n d [3] [(4,vb (c==1))]<|Z.j b (fun b=>?_) fun b=>?_
  .refine Z.kJ fun a w h=>?_;exact⟨c==1,b,h.t []⟩
  refine Z.reg<|M.n d 2 [3] [(4,vb (c==19))]<|M.aV fun a w h=>?_;exact⟨c==19,b,h.t []⟩
 rintro a w ⟨e,b,h⟩;refine h.go<|Z.j b (fun b=>?_) fun b=>?_
 .refine Z.s<|M.f (eL (sz:=1) (E:=3) (R:=(dG .i64)) (dF:=8) d [[cI 2]] [2] K ⟨dB.int,trivial⟩ rfl K K)<|M.n d 1 [] [(2,vs 0)]<|M.nT ?_;cases b;exact Z.q d [.z 0]
 refine Z.cut (fun a w=>∃f,q5a F c f=some r/\A 17 0 fx [(3,J c),(8,vb f)] [] a w) ?_ ?_
 .refine Z.n d [3] [(8,vb (c==6))]<|Z.j b (fun b=>?_) fun b=>?_
  .refine Z.kJ fun a w h=>?_;exact⟨c==6,b,h.t []⟩
  refine Z.n d [3] [(8,vb (c==7))]<|Z.j b (fun b=>?_) fun b=>?_
  .refine Z.kJ fun a w h=>?_;exact⟨c==7,b,h.t []⟩
  refine Z.reg<|M.n d 2 [3] [(8,vb (c==22))]<|M.aV fun a w h=>?_;exact⟨c==22,b,h.t []⟩
 rintro a w ⟨f,b,h⟩;refine h.go<|Z.j b (fun b=>?_) fun b=>?_
 .refine Z.s<|M.f (eL (sz:=1) (E:=3) (R:=(dG .i64)) (dF:=8) d [[cI 2],[cI 2]] [2,2] K ⟨dB.int,⟨dB.int,trivial⟩⟩ rfl K K)<|M.n d 1 [] [(2,vs 0)]<|M.nT ?_;cases b;exact Z.q d [.z 0]
 refine Z.n d [] [(13,vb (c==18))]<|Z.j b (fun b=>?_) fun b=>?_
 .refine Z.s<|M.f (eL (sz:=1) (E:=3) (R:=(dG .i64)) (dF:=8) d [[cI 1],[cI 2],[cI 2],[cI 2],[cI 2]] [1,2,2,2,2] K ⟨dB.int,⟨dB.int,⟨dB.int,⟨dB.int,⟨dB.int,trivial⟩⟩⟩⟩⟩ rfl K K)<|M.n d 1 [] [(2,vs 0)]<|M.nT ?_;cases b;exact Z.q d [.z 0]
 refine Z.aF<|Z.s<|M.f (eL (sz:=1) (E:=3) (R:=(dG .i64)) (dF:=8) d [[cI 2],[cI 2],[cI 2],[cI 2],[cI 2]] [2,2,2,2,2] K ⟨dB.int,⟨dB.int,⟨dB.int,⟨dB.int,⟨dB.int,trivial⟩⟩⟩⟩⟩ rfl K K)<|M.n d 1 [] [(2,vs 0)]<|M.nT ?_;cases b;exact Z.q d [.z 0]
theorem kq5b F c r(b:q5b F c=some r):Spec Tryz.prog 154 [.g (bG c)] [] (vs 0) [.d 1 (dG .i64) r]:=by
 refine eN Tryz.func154 rfl Tryz.ntmps154 rfl rfl fun fx=>?_;refine Z.s<|M.f (bR (E:=93) (bG c) K)<|M.n d 1 [1] []<|M.nT<|Z.s<|M.n d 2 [1] [(5,.g (DU c.ao))]<|M.f (eA (E:=43) d (DU zU) K)<|M.d d 1 [1,3] [] [(1,43,DU c.ao)] [] []<|M.nT<|Z.seq<|Z.n d [1,3] [(7,J c.ae)]<|Z.block<|Z.cut (fun a w=>∃e,q6r F c e=some r/\A 72 0 fx [(1,vp 0 0),(3,vp 1 0),(7,J c.ae),(8,vb e)] [.k 93 (bG c),.k 43 (DU c.ao)] a w) ?_ ?_
 .refine Z.n d [1,3,7] [(8,vb (c.ae==1))]<|Z.j b (fun b=>?_) fun b=>?_
  .refine Z.kJ fun a w h=>?_;exact⟨c.ae==1,b,h.t [.g 0,.g 1]⟩
  refine Z.reg<|M.n d 2 [1,3,7] [(8,vb (c.ae==19))]<|M.aV fun a w h=>?_;exact⟨c.ae==19,b,h.t [.g 0,.g 1]⟩
 rintro a w ⟨e,b,h⟩;refine h.go<|Z.j b (fun b=>?_) fun b=>?_
 .refine Z.s<|M.n d 2 [] [(12,J c.Result)]<|M.f (eL (sz:=1) (E:=3) (R:=(dG .i64)) (dF:=8) d [[cI c.Result]] [c.Result] K ⟨dB.int,trivial⟩ rfl K K)<|M.n d 1 [] [(2,vs 2)]<|M.nT ?_;cases b;exact Z.q d [.z 2]
 refine Z.cut (fun a w=>∃f,q6q F c f=some r/\A 72 0 fx [(1,vp 0 0),(3,vp 1 0),(7,J c.ae),(14,vb f)] [.k 93 (bG c),.k 43 (DU c.ao)] a w) ?_ ?_
 .refine Z.n d [1,3,7] [(14,vb (c.ae==6))]<|Z.j b (fun b=>?_) fun b=>?_
  .refine Z.kJ fun a w h=>?_;exact⟨c.ae==6,b,h.t [.g 0,.g 1]⟩
  refine Z.reg<|M.n d 2 [1,3,7] [(14,vb (c.ae==7))]<|M.aV fun a w h=>?_;exact⟨c.ae==7,b,h.t [.g 0,.g 1]⟩
 rintro a w ⟨f,b,h⟩;refine h.go<|Z.j b (fun b=>?_) fun b=>?_
 .refine Z.s<|M.n d 6 [] [(19,J (aL c.ab)),(22,J (aL c.bK))]<|M.f (eL (sz:=1) (E:=3) (R:=(dG .i64)) (dF:=8) d [[cI (aL c.ab)],[cI (aL c.bK)]] [aL c.ab,aL c.bK] K ⟨dB.int,⟨dB.int,trivial⟩⟩ rfl K K)<|M.n d 1 [] [(2,vs 2)]<|M.nT ?_;cases b;exact Z.q d [.z 2]
 refine Z.n d [1,3,7] [(24,vb (c.ae==18))]<|Z.j b (fun b=>?_) fun b=>?_
 .refine Z.s<|M.n d 10 [] [(27,J c.ao.bQ),(29,J c.ao.aZ),(31,J c.ao.aE),(33,J c.ao.aO),(35,J c.ao.bc)]<|M.f (eL (sz:=1) (E:=3) (R:=(dG .i64)) (dF:=8) d [[cI c.ao.bQ],[cI c.ao.aZ],[cI c.ao.aE],[cI c.ao.aO],[cI c.ao.bc]] [c.ao.bQ,c.ao.aZ,c.ao.aE,c.ao.aO,c.ao.bc] K ⟨dB.int,⟨dB.int,⟨dB.int,⟨dB.int,⟨dB.int,trivial⟩⟩⟩⟩⟩ rfl K K)<|M.n d 1 [] [(2,vs 2)]<|M.nT ?_;cases b;exact Z.q d [.z 2]
 refine Z.n d [1,7] [(37,vb (c.ae==20))]<|Z.j b (fun b=>?_) fun b=>?_
 .refine Z.s<|M.n d 12 [] [(41,J (aL c.bT)),(44,J (aL c.ab)),(46,J c.dh),(48,J c.cZ),(50,J c.aA)]<|M.f (eL (sz:=1) (E:=3) (R:=(dG .i64)) (dF:=8) d [[cI (aL c.bT)],[cI (aL c.ab)],[cI c.dh],[cI c.cZ],[cI c.aA]] [aL c.bT,aL c.ab,c.dh,c.cZ,c.aA] K ⟨dB.int,⟨dB.int,⟨dB.int,⟨dB.int,⟨dB.int,trivial⟩⟩⟩⟩⟩ rfl K K)<|M.n d 1 [] [(2,vs 2)]<|M.nT ?_;cases b;exact Z.q d [.z 2]
 refine Z.n d [1] [(52,vb (c.ae==21))]<|Z.j b (fun b=>?_) fun b=>?_
 .refine Z.s<|M.n d 11 [] [(56,J (aL c.ab)),(58,J c.dh),(60,J c.cZ),(62,J c.aA),(64,J c.Result)]<|M.f (eL (sz:=1) (E:=3) (R:=(dG .i64)) (dF:=8) d [[cI (aL c.ab)],[cI c.dh],[cI c.cZ],[cI c.aA],[cI c.Result]] [aL c.ab,c.dh,c.cZ,c.aA,c.Result] K ⟨dB.int,⟨dB.int,⟨dB.int,⟨dB.int,⟨dB.int,trivial⟩⟩⟩⟩⟩ rfl K K)<|M.n d 1 [] [(2,vs 2)]<|M.nT ?_;cases b;exact Z.q d [.z 2]
 refine Z.aF<|Z.s<|M.n d 5 [] [(68,J (aL c.ab)),(70,J c.aA)]<|M.f (eL (sz:=1) (E:=3) (R:=(dG .i64)) (dF:=8) d [[cI (aL c.ab)],[cI c.aA]] [aL c.ab,c.aA] K ⟨dB.int,⟨dB.int,trivial⟩⟩ rfl K K)<|M.n d 1 [] [(2,vs 2)]<|M.nT ?_;cases b;exact Z.q d [.z 2]
theorem kq2l F c r(b:q2l F c=some r):Spec Tryz.prog 136 [J c] [] (vb r) []:=by
 refine eN Tryz.func136 rfl Tryz.ntmps136 rfl rfl fun fx=>?_;refine Z.n d [0] []<|Z.n d [] [(2,vb ((decide (c>=1))&&(decide (c<=8))))] ?_;cases b;exact Z.q d []
theorem kq2n F g r(b:q2n F g=some r):Spec Tryz.prog 100 [vs 0] [.d 2 Rxc g] (.u [.inl (.s 1),.inl (cI r.2)]) [.e,.d 1 R8 r.1]:=by
 refine eN Tryz.func100 rfl Tryz.ntmps100 rfl rfl fun fx=>?_;refine Z.n d [0] []<|Z.n d [0] [(4,vn)]<|Z.cut (fun a w=>∃t,q8n F t=some r/\A 49 1 fx [(4,vs 1)] [.e,.o 1 5 R8 t] a w) ?_ ?_
 .refine Z.n d [4] [(8,vs 0),(9,J (len g)),(10,J 0)]<|Z.block ?_;obtain⟨o1,hi1,ho1⟩:=bI b;clear b;refine Z.loop (fun n a w=>∃(l:List Int) (i:Int),iter (fun s=>ZI F g s.1 s.2) n (l,i)=some o1/\A 49 1 fx [(4,vs 1),(8,vs 0),(9,J (len g)),(10,J i)] [.d 2 Rxc g,.o 1 5 R8 l] a w) F (fun a w h=>⟨[],0,hi1,h.t [.g 0,.n]⟩) ?_;rintro n1 a w ⟨l,i,hi1,h⟩;obtain⟨n1,q1,rfl,b,hs1⟩:=iI hi1;replace b:ZI F g l i=some q1:=b;clear hi1;refine h.go<|Z.n d [4,8,9,10] [(11,vb (decide (i<len g)))]<|Z.seq<|Z.j b (fun b=>?_) fun b=>?_
  .refine Z.aF<|Z.cut (fun a w=>∃(q:List Int),q6s F i q=some q1/\A 49 1 fx [(4,vs 1),(8,vs 0),(9,J (len g)),(10,J i)] [.d 2 Rxc g,.o 1 5 R8 q] a w) ?_ ?_
   .refine Z.block<|Z.s ?_;obtain⟨c,y,b⟩:=bI b;refine M.pre (pX (i:=0) (iv:=i) (sz:=2) (R:=Rxc) (l:=g) K rfl y)<|M.d d 2 [4,8,9,10] [(13,.g (Cxc c))] [] [.el 2] [i]<|M.f (eA (E:=161) d [cI 0,ci .u64 0] K)<|M.d d 1 [4,6,8,9,10] [] [(3,161,Cxc c)] [] []<|M.nT<|Z.seq<|Z.s<|M.n d 2 [4,6,8,9,10] [(15,J c.bo)] ?_;obtain⟨u,z,b⟩:=bI b;refine M.f (bD Tryz.call136 (kq2l F c.bo _ z) [] [J c.bo] (vb u) K iR)<|M.n d 2 [4,6,8,9,10] [(18,vb (!u))] ?_;obtain⟨B,hz,hpr⟩:=bI b;clear b;refine M.cutAt 13 (fun a w=>A 49 1 fx [(4,vs 1),(6,vp 2 0),(8,vs 0),(9,J (len g)),(10,J i),(31,vb B)] [.d 2 Rxc g,.o 1 5 R8 l,.k 161 (Cxc c)] a w) ?_ ?_
    .have b:=hz;rcases bB (!u)with f|f
     .replace b:=gy b f;refine M.no rfl rfl f rfl<|M.no rfl rfl f rfl<|M.no rfl rfl f rfl<|M.no rfl rfl f rfl<|M.Ws rfl rfl rfl<|M.Ws rfl rfl rfl<|M.Ws rfl rfl rfl<|M.Ws rfl rfl rfl<|M.Ws rfl rfl rfl<|M.Ws rfl rfl rfl<|M.Ws rfl rfl rfl<|M.no rfl rfl f rfl<|M.jg rfl f rfl rfl<|M.aV fun a w h=>?_;cases b;exact h.t [.g 0,.g 1,.g 3]
     replace b:=dU b f;refine M.yes rfl rfl f<|M.n d 1 [4,6,8,9,10,18] [(19,vp 3 0)]<|M.yes rfl rfl f<|M.n d 1 [4,6,8,9,10,18,19] [(20,J c.bo)]<|M.yes rfl rfl f<|M.n d 1 [4,6,8,9,10,18,19,20] [(21,vb (decide (c.bo<8)))]<|M.yes rfl rfl f<|M.n d 1 [4,6,8,9,10,18,19,20,21] [(22,vb (decide (c.bo<8)))] ?_
     rcases bB (decide (c.bo<8))with e|e
     .replace b:=gy b e;refine M.yes rfl rfl e<|M.n d 1 [4,6,8,9,10,18,19,20,21,22] [(23,vp 3 1)]<|M.yes rfl rfl e<|M.n d 1 [4,6,8,9,10,18,19,20,21,22,23] [(24,vi .u64 c.Value)]<|M.yes rfl rfl e<|M.n d 1 [4,6,8,9,10,18,19,20,21,22,23,24] [(25,vp 3 0)]<|M.yes rfl rfl e<|M.n d 1 [4,6,8,9,10,18,19,20,21,22,23,24,25] [(26,J c.bo)]<|M.yes rfl rfl e<|M.n d 1 [4,6,8,9,10,18,19,20,21,22,23,24,25,26] [(27,J (aL (8*c.bo)))]<|M.yes rfl rfl e ?_;obtain⟨v,C,b⟩:=bI b;refine M.d d 1 [4,6,8,9,10,18,19,20,21,22,23,24,25,26,27] [(28,vi .u64 v)] [] [.bin .shr .u64 c.Value (aL (8*c.bo)) v C] [c.Value,aL (8*c.bo)]<|M.yes rfl rfl e<|M.n d 1 [4,6,8,9,10,18,19,20,21,22,23,24,25,26,27,28] [(29,vb (v != 0))]<|M.yes rfl rfl f<|M.jg rfl e rfl rfl<|M.iW rfl f rfl rfl<|M.aV fun a w h=>?_;cases b;exact h.t [.g 0,.g 1,.g 3]
     replace b:=dU b e;refine M.no rfl rfl e rfl<|M.no rfl rfl e rfl<|M.no rfl rfl e rfl<|M.no rfl rfl e rfl<|M.no rfl rfl e rfl<|M.no rfl rfl e rfl<|M.no rfl rfl e rfl<|M.yes rfl rfl f<|M.iW rfl e rfl rfl<|M.iW rfl f rfl rfl<|M.aV fun a w h=>?_;cases b;exact h.t [.g 0,.g 1,.g 3]
    intro a w h;have b:=hpr;clear hpr hz;refine h.Aw<|M.nT<|Z.j b (fun b=>?_) fun b=>?_
    .refine Z.n d [] [(2,vn),(3,J 5)] ?_;have ho:=dI b hs1;replace b:=ho1
     try rw[ho]at b
     cases b;exact Z.q d [.g 0,.n]
    refine Z.aF<|Z.n d [4,6,8,9,10] [(33,J c.bo),(34,J 0)]<|Z.block ?_;obtain⟨o2,hi2,ho2⟩:=bI b;clear b;refine Z.loop (fun n a w=>∃(m:List Int) (k:Int),iter (fun s=>XD F c s.1 s.2) n (m,k)=some o2/\A 49 1 fx [(4,vs 1),(6,vp 2 0),(8,vs 0),(9,J (len g)),(10,J i),(33,J c.bo),(34,J k)] [.d 2 Rxc g,.o 1 5 R8 m,.k 161 (Cxc c)] a w) F (fun a w h=>⟨l,0,hi2,h.t (gs 3)⟩) ?_;rintro n2 a w ⟨m,k,hi2,h⟩;obtain⟨n2,q2,rfl,b,hs2⟩:=iI hi2;replace b:XD F c m k=some q2:=b;clear hi2;refine h.go<|Z.n d [4,6,8,9,10,33,34] [(35,vb (decide (k<c.bo)))]<|Z.seq<|Z.j b (fun b=>?_) fun b=>?_
    .refine Z.aF<|Z.seq<|Z.block<|Z.n d [4,6,8,9,10,33,34] [(7,J k)]<|Z.reg ?_;obtain⟨p,D,b⟩:=bI b;refine M.d d 7 [4,6,8,9,10,33,34] [(37,vs 1),(43,vi .u8 (lg p))] [] [.bin .shr .u64 c.Value (aL (8*k)) p D] [c.Value,aL (8*k)]<|M.f (eL (sz:=1) (E:=5) (R:=R8) (dF:=1) d [[ci .u8 (lg p)]] [lg p] K ⟨dB.int,trivial⟩ rfl K K) ?_;obtain⟨E,G,b⟩:=bI b;refine M.f (gW (i:=1) (l:=m) (sz:=1) (E:=5) (R:=R8) (dF:=1) (m:=[lg p]) d rfl K rfl (.o 5 K) G K)<|M.n d 1 [6,8,9,10,33,34] [(4,vs 4)]<|M.nT<|Z.reg<|M.n d 2 [4,6,8,9,10,33] [(34,J (aL (k+1)))]<|M.aV fun a w h=>?_;exact⟨n2,Nat.lt_succ_self _,E,aL (k+1),nI b hs2,h.t [.g 0,.g 4,.g 2]⟩
    refine Z.xJ rfl fun a w h=>?_;have ho:=dI b hs2;replace b:=ho2
    try rw[ho]at b
    exact⟨m,b,h.t [.g 0,.g 1]⟩
   rintro a w ⟨q,b,h⟩;refine h.go<|Z.reg<|M.n d 2 [4,8,9] [(10,J (aL (i+1)))]<|M.aV fun a w h=>?_;exact⟨n1,Nat.lt_succ_self _,q,aL (i+1),nI b hs1,h.t [.g 0,.g 1]⟩
  refine Z.xJ rfl fun a w h=>?_;have ho:=dI b hs1;replace b:=ho1
  try rw[ho]at b
  exact⟨l,b,h.t [.g 0,.g 1]⟩
 rintro a w ⟨t,b,h⟩;refine h.go<|Z.n d [] [(2,vs 1),(3,J 0)] ?_;cases b;exact Z.q d [.g 0,.z 1]
theorem kq4a F c r(b:q4a F c=some r):Spec Tryz.prog 116 [.g (bG c)] [] (.u [.inl (.s 0),.inl (cI r.2)]) [.d 1 R8 r.1]:=by
 refine eN Tryz.func116 rfl Tryz.ntmps116 rfl rfl fun fx=>?_;refine Z.s<|M.f (bR (E:=93) (bG c) K)<|M.n d 2 [1] []<|M.nT<|Z.seq<|Z.s<|M.n d 1 [1] [(12,.g (bG c))] ?_;obtain⟨u,y,b⟩:=bI b;refine M.f (bD Tryz.call142 (kq2k F c _ y) [] [.g (bG c)] (J u) K iR)<|M.n d 1 [1] [(4,J u)]<|M.nT<|Z.n d [1,4] [(15,vb (u != 0))]<|Z.j b (fun b=>?_) fun b=>?_
 .refine Z.n d [] [(2,vn),(3,J u)] ?_;cases b;exact Z.q d [.n]
 refine Z.aF<|Z.n d [1] [(5,vn)]<|Z.s<|M.n d 2 [1,5] [(18,J c.ae)] ?_;obtain⟨p,z,b⟩:=bI b;refine M.f (bD Tryz.call138 (kqq F c.ae _ z) [] [J c.ae] (vs 1) K iR)<|M.n d 2 [1,5] [(6,vs 1),(7,J 0)]<|M.nT<|Z.cut (fun a w=>∃q f,q6t F c q f=some r/\A 65 0 fx [(1,vp 0 0),(5,vs 1),(7,J f)] [.k 93 (bG c),.o 2 161 Rxc q] a w) ?_ ?_
 .refine Z.s<|M.n d 1 [1,5,6,7] [(20,.g (bG c))] ?_;obtain⟨g,B,b⟩:=bI b;refine M.f (bD Tryz.call154 (kq5b F c _ B) [] [.g (bG c)] (vs 2) K iR)<|M.n d 2 [1,5,6,7,21] [(22,J (len g)),(23,J 0)]<|M.nT<|Z.block ?_;obtain⟨o1,hi1,ho1⟩:=bI b;clear b;refine Z.loop (fun n a w=>∃(l:List uP) (i e:Int),iter (fun s=>Rj F p g s.1 s.2.1 s.2.2) n (l,i,e)=some o1/\A 65 0 fx [(1,vp 0 0),(5,vs 1),(6,vs 2),(7,J i),(21,vs 3),(22,J (len g)),(23,J e)] [.k 93 (bG c),.o 2 161 Rxc l,.d 1 (dG .i64) p,.d 1 (dG .i64) g] a w) F (fun a w h=>⟨[],0,0,hi1,h.t [.g 0,.n,.g 1,.g 2]⟩) ?_;rintro n1 a w ⟨l,i,e,hi1,h⟩;obtain⟨n1,q1,rfl,b,hs1⟩:=iI hi1;replace b:Rj F p g l i e=some q1:=b;clear hi1;refine h.go<|Z.n d [1,5,6,7,21,22,23] [(24,vb (decide (e<len g)))]<|Z.seq<|Z.j b (fun b=>?_) fun b=>?_
  .refine Z.aF<|Z.seq<|Z.block ?_;obtain⟨m,C,b⟩:=bI b;refine Z.pre (pX (i:=3) (iv:=e) (sz:=1) (R:=(dG .i64)) (l:=g) K rfl C)<|Z.d d [1,5,6,7,21,22,23] [(8,J e),(9,J m)] [] [.el 4] [e]<|Z.s ?_;obtain⟨t,D,b⟩:=bI b;refine M.pre (pX (i:=2) (iv:=e) (sz:=1) (R:=(dG .i64)) (l:=p) K rfl D)<|M.d d 8 [1,5,6,7,8,21,22,23] [(28,vs 1),(35,.g [cI t,ci .u64 (wu64 m)])] [] [.el 5] [e]<|M.f (eL (sz:=2) (E:=161) (R:=Rxc) (dF:=16) d [[cI t,ci .u64 (wu64 m)]] [uP.mk t (wu64 m)] K ⟨ac5 (x:=(uP.mk t (wu64 m))),trivial⟩ rfl K K) ?_;obtain⟨E,G,b⟩:=bI b;refine M.f (gW (i:=1) (l:=l) (sz:=2) (E:=161) (R:=Rxc) (dF:=16) (m:=[uP.mk t (wu64 m)]) d rfl K rfl (.o 161 K) G K)<|M.n d 1 [1,6,7,8,21,22,23] [(5,vs 7)]<|M.nT<|Z.reg ?_;obtain⟨v,H,b⟩:=bI b;refine M.pre (pX (i:=2) (iv:=e) (sz:=1) (R:=(dG .i64)) (l:=p) K rfl H)<|M.d d 7 [1,5,6,21,22,23] [(7,J (aL (i+v)))] [] [.el 8] [e]<|M.nT<|Z.reg<|M.n d 2 [1,5,6,7,21,22] [(23,J (aL (e+1)))]<|M.aV fun a w h=>?_;exact⟨n1,Nat.lt_succ_self _,E,aL (i+v),aL (e+1),nI b hs1,h.t [.g 0,.g 7,.g 2,.g 3]⟩
  refine Z.xJ rfl fun a w h=>?_;have ho:=dI b hs1;replace b:=ho1
  try rw[ho]at b
  exact⟨l,i,b,h.t [.g 0,.g 1]⟩
 rintro a w ⟨q,f,b,h⟩;refine h.go<|Z.s<|M.n d 1 [1,7] [(46,vs 1)] ?_;obtain⟨k,L,b⟩:=bI b;refine M.pre (pF (i:=1) (sz:=2) (E:=161) (R:=Rxc) (l:=q) K)<|M.f (bD Tryz.call100 (kq2n F q _ L) [.g 1] [vs 1] (.u [.inl (.s 2),.inl (cI k.2)]) K iR)<|M.n d 5 [1,7] [(10,vs 2),(11,J k.2)]<|M.nT<|Z.seq<|Z.n d [1,7,10,11] [(51,vb (k.2 != 0))]<|Z.j b (fun b=>?_) fun b=>?_
 .refine Z.n d [] [(2,vn),(3,J k.2)] ?_;cases b;exact Z.q d [.n]
 refine Z.aF<|Z.s<|M.n d 8 [10] [(55,vi .u8 (lg c.ae)),(58,vi .u8 (lg c.ID)),(60,vi .u8 (lg f))]<|M.f (eL (sz:=1) (E:=5) (R:=R8) (dF:=1) d [[ci .u8 (lg c.ae)],[ci .u8 (lg c.ID)],[ci .u8 (lg f)],[ci .u8 0]] [lg c.ae,lg c.ID,lg f,0] K ⟨dB.int,⟨dB.int,⟨dB.int,⟨dB.int,trivial⟩⟩⟩⟩ rfl K K)<|M.n d 1 [61] [(62,vs 2)]<|M.pre (pF (i:=3) (sz:=1) (E:=5) (R:=R8) (l:=[lg c.ae,lg c.ID,lg f,0]) K)<|M.f (eL (sz:=1) (E:=26) (R:=(aN 1 R8)) (dF:=24) d [[.s 3],[.s 2]] [[lg c.ae,lg c.ID,lg f,0],k.1] K ⟨dB.sl K,⟨dB.sl K,trivial⟩⟩ rfl K K) ?_;obtain⟨Q,P,b⟩:=bI b;refine M.pre (pF (i:=4) (sz:=1) (E:=26) (R:=(aN 1 R8)) (l:=[[lg c.ae,lg c.ID,lg f,0],k.1]) K)<|M.f (bD Tryz.call57 (Ka F [[lg c.ae,lg c.ID,lg f,0],k.1] _ P) [.g 4] [vs 4] (vs 5) K iR)<|M.n d 2 [] [(2,vs 5),(3,J 0)]<|M.nT ?_;cases b;exact Z.q d [.g 5]
theorem ab8 F c e g r(b:q19 F c e g=some r):Spec Tryz.prog 64 [vp 0 0,vi .u16 e,vs 7] [.k 99 (hxa c 1),.d 5 dA c.aD.ak,.o 15 91 dJ c.aD.aj,.o 14 93 eB c.aD.aB,.d 1 R8 c.aD.ay.aq,.o 2 116 bM c.aD.Out,.o 10 81 dW c.ar,.d 1 R8 g] (.u []) [.k 99 (hxa r 8),.e,.e,.e,.e,.e,.e,.e,.d 5 dA r.aD.ak,.o 15 91 dJ r.aD.aj,.o 14 93 eB r.aD.aB,.d 1 R8 r.aD.ay.aq,.o 2 116 bM r.aD.Out,.o 10 81 dW r.ar]:=by
 refine eN Tryz.func64 rfl Tryz.ntmps64 rfl rfl fun fx=>?_;refine Z.rY MO (bm 8 222,bm 8 223,[16]) K fun p f=>?_;refine SD.n d f [0,1,2,3,4,5,6,7] (bm 17 255) [] [(6,vp 0 0),(11,vs 5),(12,vi .u16 e),(13,vs 7)]<|SD.all1 (i:=8) K<|SW.f f 8 (bm 17 511) rfl rfl rfl (eL (sz:=1) (E:=26) (R:=(aN 1 R8)) (dF:=24) d [[.s 7]] [g] K ⟨dB.sl K,trivial⟩ rfl K K) ?_;obtain⟨i,k,b⟩:=bI b;refine SD.pre (pF (i:=8) (sz:=1) (E:=26) (R:=(aN 1 R8)) (l:=[g]) K)<|SD.all1 (i:=9) K<|SW.f f 9 (bm 17 1023) rfl rfl rfl (bD Tryz.call57 (Ka F [g] _ k) [.g 8] [vs 8] (vs 9) K iR)<|SD.all1 (i:=10) K<|SW.w d f 10 (.g [ci .u16 e,.s 9]) (bm 17 2047) rfl<|SD.all1 (i:=11) K<|SW.f f 11 (bm 17 4095) rfl rfl rfl (eL (sz:=2) (E:=116) (R:=bM) (dF:=32) d [[ci .u16 e,.s 9]] [bq.mk e i] K ⟨Vg (x:=(bq.mk e i)) (dB.sl K),trivial⟩ rfl K K)<|SD.norm (bC:=[.k 99 (hxa c 1),.d 5 dA c.aD.ak,.o 15 91 dJ c.aD.aj,.o 14 93 eB c.aD.aB,.d 1 R8 c.aD.ay.aq,.o 2 116 bM c.aD.Out,.o 10 81 dW c.ar,.d 1 R8 g,.d 1 (aN 1 R8) [g],.d 1 R8 i,.o 2 116 bM [bq.mk e i]]) K ?_;obtain⟨l,m,b⟩:=bI b;refine SD.all1 (i:=12) K<|SW.f f 12 (bm 17 8191) rfl rfl rfl (gW (i:=5) (l:=c.aD.Out) (sz:=2) (E:=116) (R:=bM) (dF:=32) (m:=[bq.mk e i]) d rfl K rfl (.o 116 K) m K)<|SD.n d f [13,14,15] (bm 17 65535) [18] [(21,vp 0 8)]<|SD.all1 (i:=16) K<|SW.store f d (i:=16) (q:=0) (T:=99) (cs:=(Gq ({c with aD:={c.aD with Out:=l}}) (.s 1) (.s 2) (.s 3) (.s 4) (.s 11) (.s 6))) (bs':=(bm 17 131071)) rfl K K rfl K<|SD.done K fun a w h=>?_;cases b;exact A.re (js:=(gr [(0,8),(1,4),(11,1),(6,1)])) d h K
theorem X8 F c e r(b:qf F c e=some r):Spec Tryz.prog 87 [vp 0 0,.g (bG e)] [.k 99 (hxa c 1),.d 5 dA c.aD.ak,.o 15 91 dJ c.aD.aj,.o 14 93 eB c.aD.aB,.d 1 R8 c.aD.ay.aq,.o 2 116 bM c.aD.Out,.o 10 81 dW c.ar] (.u []) [.k 99 (hxa r 7),.e,.e,.e,.e,.e,.e,.d 5 dA r.aD.ak,.o 15 91 dJ r.aD.aj,.o 14 93 eB r.aD.aB,.d 1 R8 r.aD.ay.aq,.o 2 116 bM r.aD.Out,.o 10 81 dW r.ar]:=by
 refine eN Tryz.func87 rfl Tryz.ntmps87 rfl rfl fun fx=>?_;refine Z.s<|M.f (bR (E:=93) (bG e) K)<|M.nT<|Z.s<|M.n d 1 [0] [(7,.g (bG e))] ?_;obtain⟨f,g,b⟩:=bI b;refine M.f (bD Tryz.call116 (kq4a F e _ g) [] [.g (bG e)] (.u [.inl (.s 8),.inl (cI f.2)]) K iR)<|M.n d 5 [0] [(4,vs 8),(5,J f.2)]<|M.nT<|Z.n d [0,4] [(12,vb (f.2==0))]<|Z.j b (fun b=>?_) fun b=>?_
 .refine Z.reg<|M.n d 2 [] [(13,vp 0 0),(14,vs 8)] ?_;obtain⟨k,i,b⟩:=bI b;refine M.f (bD Tryz.call64 (ab8 F c 5 f.1 _ i) (gr [(0,7),(8,1)]) [vp 0 0,vi .u16 5,vs 8] (.u []) K iR)<|M.aV fun a w h=>?_;cases b;exact A.re (js:=(gr [(0,7),(9,6)])) d h K
 refine Z.kJ fun a w h=>?_;cases b;exact A.re (js:=(gr [(0,7),(1,6)])) d h K
theorem ab7 F f e r(b:q1a F f e=some r):Spec Tryz.prog 54 [vp 0 0,.g (bG e)] [.k 99 (hxa f 1),.d 5 dA f.aD.ak,.o 15 91 dJ f.aD.aj,.o 14 93 eB f.aD.aB,.d 1 R8 f.aD.ay.aq,.o 2 116 bM f.aD.Out,.o 10 81 dW f.ar] (.u []) [.k 99 (hxa r 7),.e,.e,.e,.e,.e,.e,.d 5 dA r.aD.ak,.o 15 91 dJ r.aD.aj,.o 14 93 eB r.aD.aB,.d 1 R8 r.aD.ay.aq,.o 2 116 bM r.aD.Out,.o 10 81 dW r.ar]:=by
 refine eN Tryz.func54 rfl Tryz.ntmps54 rfl rfl fun fx=>?_;refine Z.s<|M.f (bR (E:=93) (bG e) K)<|M.nT<|Z.s<|M.n d 1 [0,3] [(4,vp 0 0)] ?_;obtain⟨c,l,b⟩:=bI b;refine M.f (bD Tryz.call98 (kq1p F f _ l) (gs 7) [vp 0 0] (J c.1) K iR)<|M.d d 2 [0,3] [] [(7,93,bG ({e with ID:=c.1}))] [] []<|M.nT<|Z.s<|M.n d 2 [0,3] [(7,vp 0 0),(8,.g (bG ({e with ID:=c.1})))] ?_;obtain⟨g,m,b⟩:=bI b;refine M.f (bD Tryz.call87 (X8 F c.2 ({e with ID:=c.1}) _ m) (gr [(0,1),(8,6)]) [vp 0 0,.g (bG ({e with ID:=c.1}))] (.u []) K iR)<|M.nT<|Z.rY MO (bm 20 969106,bm 20 969107,[12]) K fun t k=>?_;refine SD.n d k [0,1,2,3,4,5,6] (bm 13 127) [] [(10,vp 0 0),(15,vs 16),(16,.g (bG ({e with ID:=c.1})))]<|SD.all1 (i:=7) K<|SW.f k 7 (bm 13 255) rfl rfl rfl (eL (sz:=14) (E:=93) (R:=eB) (dF:=96) d [bG ({e with ID:=c.1})] [{e with ID:=c.1}] K ⟨c_x5 (x:={e with ID:=c.1}),trivial⟩ rfl K K)<|SD.norm (bC:=[.k 99 (hxa g 14),.d 5 dA f.aD.ak,.e,.e,.d 1 R8 f.aD.ay.aq,.e,.e,.k 93 (bG ({e with ID:=c.1})),.d 5 dA c.2.aD.ak,.e,.e,.d 1 R8 c.2.aD.ay.aq,.e,.e,.d 5 dA g.aD.ak,.o 15 91 dJ g.aD.aj,.o 14 93 eB g.aD.aB,.d 1 R8 g.aD.ay.aq,.o 2 116 bM g.aD.Out,.o 10 81 dW g.ar,.o 14 93 eB [{e with ID:=c.1}]]) K ?_;obtain⟨p,q,b⟩:=bI b;refine SD.all1 (i:=8) K<|SW.f k 8 (bm 13 511) rfl rfl rfl (gW (i:=16) (l:=g.aD.aB) (sz:=14) (E:=93) (R:=eB) (dF:=96) (m:=[{e with ID:=c.1}]) d rfl K rfl (.o 93 K) q K)<|SD.n d k [9,10,11] (bm 13 4095) [18] [(21,vp 0 4)]<|SD.all1 (i:=12) K<|SW.store k d (i:=12) (q:=0) (T:=99) (cs:=(Gq ({g with aD:={g.aD with aB:=p}}) (.s 14) (.s 15) (.s 21) (.s 17) (.s 18) (.s 19))) (bs':=(bm 13 8191)) rfl K K rfl K<|SD.done K fun a w h=>?_;cases b;exact A.re (js:=(gr [(0,7),(14,2),(21,1),(17,3)])) d h K
def adj(i:bO):List Item:=[.e,.e,.e,.e,.e,.k 31 zM,.k 99 (hxa i 7),.d 5 dA i.aD.ak,.o 15 91 dJ i.aD.aj,.o 14 93 eB i.aD.aB,.d 1 R8 i.aD.ay.aq,.o 2 116 bM i.aD.Out,.o 10 81 dW i.ar]
theorem ab6 F c p g i k r(b:q1b F c p g i k=some r):Spec Tryz.prog 19 [.g (bn c 0),vi .u16 p,J g,J i,J k] (mI c) (.u [.inr (bn r.1 5),.inl (ci .u16 r.2.1),.inl (cI r.2.2)]) ([.e,.e,.e,.e,.e]++mI r.1):=by
 refine eN Tryz.func19 rfl Tryz.ntmps19 rfl rfl fun fx=>?_;refine Z.s<|M.f (bR (E:=31) (bn c 0) K)<|M.f (eA (E:=31) d zM K)<|M.n d 2 [1,2,3,4,5,10] []<|M.nT<|Z.s<|M.n d 1 [1,2,3,4,10] [(16,.g (bn c 0))] ?_;obtain⟨e,C,b⟩:=bI b;refine M.f (bD Tryz.call35 (X7 F c _ C) (gs 5) [.g (bn c 0)] (vp 7 0) K iR)<|M.n d 1 [1,2,3,4,10] [(13,vp 7 0)]<|M.nT<|Z.s<|M.n d 1 [1,2,3,4,10,13] [(19,vp 7 0)] ?_;obtain⟨f,D,b⟩:=bI b;refine M.f (bD Tryz.call52 (ab9 F e _ D) [.g 7,.g 8,.l 9,.l 10,.g 11,.l 12,.l 13] [vp 7 0] (.u [.inl (ci .u16 f.1),.inl (cb f.2)]) K (.inr (tT0 7)))<|M.n d 5 [1,2,3,4,10,13] [(14,vi .u16 f.1),(15,vb f.2)]<|M.nT<|Z.seq<|Z.block<|Z.n d [1,2,3,4,10,13,14,15] [(23,vb (p==0))]<|Z.j b (fun b=>?_) fun b=>?_
 .refine Z.d d [10] [(11,vi .u16 0),(12,J 1)] [(6,31,bn e.aD 8)] [] [] ?_;cases b;exact Z.q d (gr [(0,5),(8,1)]++[.z 9,.z 10]++[.g 11]++[.z 12])
 refine Z.s<|M.n d 1 [1,2,3,4,10,13,14,15] [(31,J g)] ?_;obtain⟨t,E,b⟩:=bI b;refine M.f (bD Tryz.call27 (kqx F g _ E) [] [J g] (vb t) K iR)<|M.norm (bC:=(mI c++[.k 31 (bn c 0),.k 31 zM,.k 99 (hxa e 8),.d 5 dA e.aD.ak,.o 15 91 dJ e.aD.aj,.o 14 93 eB e.aD.aB,.d 1 R8 e.aD.ay.aq,.o 2 116 bM e.aD.Out,.o 10 81 dW e.ar])) K<|M.n d 2 [1,2,3,4,10,13,14,15] [(34,vb (!t))] ?_;obtain⟨u,hz,hpr⟩:=bI b;clear b;refine M.cutAt 4 (fun a w=>A 72 5 fx [(1,vi .u16 p),(2,J g),(3,J i),(4,J k),(10,vp 5 0),(13,vp 6 0),(14,vi .u16 f.1),(15,vb f.2),(38,vb u)] (adj e) a w) ?_ ?_
 .have b:=hz;rcases bB (!t)with l|l
  .replace b:=gy b l;refine M.no rfl rfl l rfl<|M.no rfl rfl l rfl<|M.no rfl rfl l rfl<|M.jg rfl l rfl rfl<|M.aV fun a w h=>?_;cases b;exact h.t (gr [(0,5),(6,8)])
  replace b:=dU b l;refine M.yes rfl rfl l<|M.n d 1 [1,2,3,4,10,13,14,15,34] [(35,J i)]<|M.yes rfl rfl l ?_;obtain⟨v,G,b⟩:=bI b;refine M.f (bD Tryz.call27 (kqx F i _ G) [] [J i] (vb v) K iR)<|M.yes rfl rfl l<|M.n d 1 [1,2,3,4,10,13,14,15,34] [(37,vb (!v))]<|M.iW rfl l rfl rfl<|M.aV fun a w h=>?_;cases b;exact h.t (gr [(0,5),(6,8)])
 intro a w h;have b:=hpr;clear hpr hz;refine h.Aw<|M.n d 1 [1,2,3,4,10,13,14,15] [(39,vb u)] ?_;obtain⟨y,hz,hpr⟩:=bI b;clear b;refine M.cutAt 4 (fun a w=>A 72 5 fx [(1,vi .u16 p),(2,J g),(3,J i),(4,J k),(10,vp 5 0),(13,vp 6 0),(14,vi .u16 f.1),(15,vb f.2),(43,vb y)] (adj e) a w) ?_ ?_
 .have b:=hz;rcases bB (u)with m|m
  .replace b:=gy b m;refine M.no rfl rfl m rfl<|M.no rfl rfl m rfl<|M.no rfl rfl m rfl<|M.jg rfl m rfl rfl<|M.aV fun a w h=>?_;cases b;exact h.t (gs 13)
  replace b:=dU b m;refine M.yes rfl rfl m<|M.n d 1 [1,2,3,4,10,13,14,15,39] [(40,J k)]<|M.yes rfl rfl m ?_;obtain⟨z,H,b⟩:=bI b;refine M.f (bD Tryz.call28 (kqn F k 0 65535 _ H) [] [J k,J 0,J 65535] (vb z) K iR)<|M.yes rfl rfl m<|M.n d 1 [1,2,3,4,10,13,14,15,39] [(42,vb (!z))]<|M.iW rfl m rfl rfl<|M.aV fun a w h=>?_;cases b;exact h.t (gs 13)
 intro a w h;have b:=hpr;clear hpr hz;refine h.Aw<|M.n d 1 [1,2,3,4,10,13,14,15] [(30,vb y)]<|M.nT<|Z.j b (fun b=>?_) fun b=>?_
 .refine Z.d d [10] [(11,vi .u16 0),(12,J 5)] [(5,31,bn e.aD 7)] [] [] ?_;cases b;exact Z.q d (gr [(0,5),(7,1)]++[.z 8,.z 9]++[.g 10]++[.z 11])
 refine Z.s<|M.n d 3 [1,2,3,4,10,13,14] [(51,vb (!f.2))] ?_;obtain⟨B,hz,hpr⟩:=bI b;clear b;refine M.cutAt 3 (fun a w=>A 72 5 fx [(1,vi .u16 p),(2,J g),(3,J i),(4,J k),(10,vp 5 0),(13,vp 6 0),(14,vi .u16 f.1),(54,vb B)] (adj e) a w) ?_ ?_
 .have b:=hz;rcases bB (!f.2)with q|q
  .replace b:=gy b q;refine M.no rfl rfl q rfl<|M.no rfl rfl q rfl<|M.jg rfl q rfl rfl<|M.aV fun a w h=>?_;cases b;exact h.t (gs 13)
  replace b:=dU b q;refine M.yes rfl rfl q<|M.n d 1 [1,2,3,4,10,13,14,51] [(52,vp 6 0)]<|M.yes rfl rfl q ?_;obtain⟨L,P,b⟩:=bI b;refine M.f (bD Tryz.call53 (kqy F e _ P) [.g 6,.g 7,.l 8,.l 9,.g 10,.l 11,.l 12] [vp 6 0] (vb L) K (.inr (tT0 7)))<|M.iW rfl q rfl rfl<|M.aV fun a w h=>?_;cases b;exact h.t (gs 13)
 intro a w h;have b:=hpr;clear hpr hz;refine h.Aw<|M.n d 1 [1,2,3,4,10,13,14] [(48,vb B)]<|M.nT<|Z.j b (fun b=>?_) fun b=>?_
 .refine Z.d d [10] [(11,vi .u16 0),(12,J 8)] [(5,31,bn e.aD 7)] [] [] ?_;cases b;exact Z.q d (gr [(0,5),(7,1)]++[.z 8,.z 9]++[.g 10]++[.z 11])
 refine Z.aF<|Z.s<|M.n d 7 [10,13,14] [(59,vp 6 0),(65,.g (bG (aQ.mk 20 0 p f.1 0 g i k 0 zU)))] ?_;obtain⟨Q,R,b⟩:=bI b;refine M.f (bD Tryz.call54 (ab7 F e (aQ.mk 20 0 p f.1 0 g i k 0 zU) _ R) (gr [(6,7)]) [vp 6 0,.g (bG (aQ.mk 20 0 p f.1 0 g i k 0 zU))] (.u []) K iR)<|M.nT<|Z.d d [10] [(11,vi .u16 f.1),(12,J 0)] [(5,31,bn Q.aD 13)] [] [] ?_;cases b;exact Z.q d (gr [(0,5),(13,1)]++[.z 14,.z 15]++[.g 16]++[.z 17])
theorem kq5c F c e r(b:q5c F c e=some r):Spec Tryz.prog 107 [.g (bG c),vp 0 0] [.k 91 (hx4 e 1),.d 1 (aN 1 R8) e.Out,.d 1 R8 e.In] (vb r.1) [.k 91 (hx4 r.2 3),.e,.e,.d 1 (aN 1 R8) r.2.Out,.d 1 R8 r.2.In]:=by
 refine eN Tryz.func107 rfl Tryz.ntmps107 rfl rfl fun fx=>?_;refine Z.s<|M.f (bR (E:=93) (bG c) K)<|M.n d 1 [1,2] []<|M.nT<|Z.n d [] [(3,vb ((c.ae==6)&&(c.ab==e.ap)))] ?_;cases b;exact Z.q d (gr [(0,3),(1,2)])
theorem kq5d F e g r(b:q5d F e g=some r):Spec Tryz.prog 114 [vs 0,.f 107 [.p 1 0]] [.d 14 eB e,.k 91 (hx4 g 2),.d 1 (aN 1 R8) g.Out,.d 1 R8 g.In] (J r.1) [.e,.k 91 (hx4 r.2 4),.e,.e,.d 1 (aN 1 R8) r.2.Out,.d 1 R8 r.2.In]:=by
 refine eN Tryz.func114 rfl Tryz.ntmps114 rfl rfl fun fx=>?_;refine Z.n d [0,1] []<|Z.cut (fun a w=>∃i,q8o F i=some r/\A 19 4 fx [] [.e,.k 91 (hx4 i 4),.e,.e,.d 1 (aN 1 R8) i.Out,.d 1 R8 i.In] a w) ?_ ?_
 .refine Z.n d [0,1] [(7,J (len e)),(8,J 0)]<|Z.block ?_;obtain⟨o1,hi1,ho1⟩:=bI b;clear b;refine Z.loop (fun n a w=>∃(f:aM) (c:Int),iter (fun s=>ZH F e s.1 s.2) n (f,c)=some o1/\A 19 4 fx [(0,vs 0),(1,.f 107 [.p 1 0]),(7,J (len e)),(8,J c)] [.d 14 eB e,.k 91 (hx4 f 4),.e,.e,.d 1 (aN 1 R8) f.Out,.d 1 R8 f.In] a w) F (fun a w h=>⟨g,0,hi1,h.t (gr [(0,4),(2,2)])⟩) ?_;rintro n1 a w ⟨f,c,hi1,h⟩;obtain⟨n1,q1,rfl,b,hs1⟩:=iI hi1;replace b:ZH F e f c=some q1:=b;clear hi1;refine h.go<|Z.n d [0,1,7,8] [(9,vb (decide (c<len e)))]<|Z.seq<|Z.j b (fun b=>?_) fun b=>?_
  .refine Z.aF<|Z.seq<|Z.block<|Z.n d [0,1,7,8] [(5,J c)]<|Z.s ?_;obtain⟨k,m,b⟩:=bI b;refine M.pre (pX (i:=0) (iv:=c) (sz:=14) (R:=eB) (l:=e) K rfl m)<|M.d d 5 [0,1,5,7,8] [(11,.f 107 [.p 1 0]),(15,.g (bG k))] [] [.el 6] [c] ?_;obtain⟨l,p,b⟩:=bI b;refine M.f (bD Tryz.call107 (kq5c F k f _ p) [.g 1,.g 4,.g 5] [.g (bG k),vp 1 0] (vb l.1) K iR)<|M.nT<|Z.j b (fun b=>?_) fun b=>?_
   .refine Z.n d [] [(4,J c)] ?_;have ho:=dI b hs1;replace b:=ho1
    try rw[ho]at b
    cases b;exact Z.q d (gr [(0,4),(7,2)])
   refine Z.aF<|Z.reg<|M.n d 2 [0,1,7] [(8,J (aL (c+1)))]<|M.aV fun a w h=>?_;exact⟨n1,Nat.lt_succ_self _,l.2,aL (c+1),nI b hs1,h.t (gr [(0,4),(7,2)])⟩
  refine Z.xJ rfl fun a w h=>?_;have ho:=dI b hs1;replace b:=ho1
  try rw[ho]at b
  exact⟨f,b,h.t (gs 6)⟩
 rintro a w ⟨i,b,h⟩;refine h.go<|Z.n d [] [(4,J (-1))] ?_;cases b;exact Z.q d (gs 6)
theorem kq4b F e c r(b:q4b F e c=some r):Spec Tryz.prog 83 [vs 0,.f 107 [.p 1 0]] [.d 14 eB e,.k 91 (hx4 c 2),.d 1 (aN 1 R8) c.Out,.d 1 R8 c.In] (vb r.1) [.e,.k 91 (hx4 r.2 4),.e,.e,.d 1 (aN 1 R8) r.2.Out,.d 1 R8 r.2.In]:=by
 refine eN Tryz.func83 rfl Tryz.ntmps83 rfl rfl fun fx=>?_;refine Z.n d [0,1] []<|Z.s<|M.n d 2 [] [(5,vs 0),(6,.f 107 [.p 1 0])] ?_;obtain⟨f,g,b⟩:=bI b;refine M.f (bD Tryz.call114 (kq5d F e c _ g) (gs 4) [vs 0,.f 107 [.p 1 0]] (J f.1) K iR)<|M.n d 2 [] [(4,vb (decide (f.1>=0)))]<|M.nT ?_;cases b;exact Z.q d (gs 6)
theorem kqr F c e r(b:qr F c e=some r):Spec Tryz.prog 62 [vp 0 0,.g (hx4 e 7)] ([.k 99 (hxa c 1)]++mI c.aD++[.d 10 dW c.ar,.d 1 (aN 1 R8) e.Out,.d 1 R8 e.In]) (vb r) ([.k 99 (hxa c 1)]++mI c.aD++[.d 10 dW c.ar,.e,.e]):=by
 refine eN Tryz.func62 rfl Tryz.ntmps62 rfl rfl fun fx=>?_;refine Z.s<|M.f (bR (E:=91) (hx4 e 7) K)<|M.n d 1 [0,3] []<|M.nT<|Z.s<|M.n d 6 [] [(9,vs 3),(10,.f 107 [.p 9 0])] ?_;obtain⟨g,i,b⟩:=bI b;refine M.f (bD Tryz.call83 (kq4b F c.aD.aB e _ i) [.g 3,.g 9,.g 7,.g 8] [vs 3,.f 107 [.p 9 0]] (vb g.1) K iR)<|M.n d 1 [] [(4,vb g.1)]<|M.nT ?_;cases b;exact Z.q d (gs 9)
def aai(f:aM):List Item:=[.d 1 (aN 1 R8) f.Out,.d 1 R8 f.In,.k 91 (hx4 f 0),.k 91 (mg (aM.mk 0 0 0 0 0 0 0 0 0 0 [] 0 [] 0 false) nl nl)]
theorem kqt F c r(b:qt F c=some r):Spec Tryz.prog 110 [.g (hx4 c 0)] [.d 1 (aN 1 R8) c.Out,.d 1 R8 c.In] (.g (hx4 r 2)) [.e,.e,.o 1 26 (aN 1 R8) r.Out,.d 1 R8 r.In]:=by
 refine eN Tryz.func110 rfl Tryz.ntmps110 rfl rfl fun fx=>?_;refine Z.s<|M.f (bR (E:=91) (hx4 c 0) K)<|M.f (eA (E:=91) d (mg (aM.mk 0 0 0 0 0 0 0 0 0 0 [] 0 [] 0 false) nl nl) K)<|M.nT<|Z.n d [1,2] [(3,vn)]<|Z.cut (fun a w=>∃f,q6u F c f=some r/\A 33 2 fx [(1,vp 2 0),(2,vp 3 0),(3,vs 4)] (aai c++[.o 1 26 (aN 1 R8) f]) a w) ?_ ?_
 .refine Z.n d [1,2,3] [(8,vs 0),(9,J (len c.Out)),(10,J 0)]<|Z.block ?_;obtain⟨o1,hi1,ho1⟩:=bI b;clear b;refine Z.loop (fun n a w=>∃(g:List (List Int)) (e:Int),iter (fun s=>ZG F c s.1 s.2) n (g,e)=some o1/\A 33 2 fx [(1,vp 2 0),(2,vp 3 0),(3,vs 4),(8,vs 0),(9,J (len c.Out)),(10,J e)] (aai c++[.o 1 26 (aN 1 R8) g]) a w) F (fun a w h=>⟨[],0,hi1,h.t (gr [(0,4)]++[.n])⟩) ?_;rintro n1 a w ⟨g,e,hi1,h⟩;obtain⟨n1,q1,rfl,b,hs1⟩:=iI hi1;replace b:ZG F c g e=some q1:=b;clear hi1;refine h.go<|Z.n d [1,2,3,8,9,10] [(11,vb (decide (e<len c.Out)))]<|Z.seq<|Z.j b (fun b=>?_) fun b=>?_
  .refine Z.aF<|Z.seq<|Z.block ?_;obtain⟨i,m,b⟩:=bI b;refine Z.pre (pX (i:=0) (iv:=e) (sz:=1) (R:=(aN 1 R8)) (l:=c.Out) K rfl m)<|Z.d d [1,2,3,8,9,10] [(5,vs 6)] [] [.el 5] [e]<|Z.s<|M.n d 2 [1,2,3,5,8,9,10] [(15,J (len i))] ?_;obtain⟨k,p,b⟩:=bI b;refine M.f (MN (sz:=1) (E:=5) (R:=R8) d rfl rfl rfl (fun _ _=>rfl) p K) ?_;refine M.n d 1 [1,2,3,5,8,9,10] [(6,vs 7)]<|M.nT<|Z.s<|M.n d 2 [1,2,3,6,8,9,10] [(17,vs 7),(18,vs 6)]<|M.f (UO (i:=7) (l:=k) (E:=5) (R:=R8) (dF:=1) (m:=i) d rfl K rfl (.r K) K)<|M.nT<|Z.reg<|M.n d 2 [1,2,3,8,9,10] [(20,vs 4),(21,vs 7)]<|M.pre (pF (i:=7) (sz:=1) (E:=5) (R:=R8) (l:=FY k i) K)<|M.f (eL (sz:=1) (E:=26) (R:=(aN 1 R8)) (dF:=24) d [[.s 7]] [FY k i] K ⟨dB.sl K,trivial⟩ rfl K K) ?_;obtain⟨q,t,b⟩:=bI b;refine M.f (gW (i:=4) (l:=g) (sz:=1) (E:=26) (R:=(aN 1 R8)) (dF:=24) (m:=[FY k i]) d rfl K rfl (.o 26 K) t K)<|M.n d 1 [1,2,8,9,10] [(3,vs 9)]<|M.nT<|Z.reg<|M.n d 2 [1,2,3,8,9] [(10,J (aL (e+1)))]<|M.aV fun a w h=>?_;exact⟨n1,Nat.lt_succ_self _,q,aL (e+1),nI b hs1,h.t (gr [(0,4),(9,1)])⟩
  refine Z.xJ rfl fun a w h=>?_;have ho:=dI b hs1;replace b:=ho1
  try rw[ho]at b
  exact⟨g,b,h.t (gs 5)⟩
 rintro a w ⟨f,b,h⟩;refine h.go<|Z.d d [1,2] [] [(2,91,mg ({c with Out:=f}) (.s 4) (.s 1))] [] []<|Z.s<|M.n d 2 [1,2] [(28,vs 1)]<|M.f (eL (sz:=1) (E:=26) (R:=(aN 1 R8)) (dF:=24) d [[.s 1]] [c.In] K ⟨dB.sl K,trivial⟩ rfl K K) ?_;obtain⟨l,u,b⟩:=bI b;refine M.pre (pF (i:=5) (sz:=1) (E:=26) (R:=(aN 1 R8)) (l:=[c.In]) K)<|M.f (bD Tryz.call57 (Ka F [c.In] _ u) [.g 5] [vs 5] (vs 6) K iR)<|M.d d 2 [1,2] [] [(2,91,mg ({c with Out:=f,In:=l}) (.s 4) (.s 6))] [] []<|M.nT<|Z.d d [2] [] [(3,91,mg ({c with Out:=f,In:=l}) (.s 4) (.s 6))] [] [] ?_;cases b;exact Z.q d [.g 0,.g 1,.g 4,.g 6]
theorem kq4c F c r(b:q4c F c=some r):Spec Tryz.prog 135 [vs 0] [.d 1 R8 c] (vs 1) [.e,.d 1 R8 r]:=by
 refine eN Tryz.func135 rfl Tryz.ntmps135 rfl rfl fun fx=>?_;refine Z.n d [0] []<|Z.s<|M.d d 7 [0] [(5,vi .u8 (lg (len c))),(9,vi .u8 (lg (BO (len c) 8)))] [] [.bin .shr .i64 (len c) 8 (BO (len c) 8) K] [len c,8]<|M.f (eL (sz:=1) (E:=5) (R:=R8) (dF:=1) d [[ci .u8 (lg (len c))],[ci .u8 (lg (BO (len c) 8))]] [lg (len c),lg (BO (len c) 8)] K ⟨dB.int,⟨dB.int,trivial⟩⟩ rfl K K)<|M.n d 1 [10] [(11,vs 0)]<|M.pre (pF (i:=1) (sz:=1) (E:=5) (R:=R8) (l:=[lg (len c),lg (BO (len c) 8)]) K)<|M.f (eL (sz:=1) (E:=26) (R:=(aN 1 R8)) (dF:=24) d [[.s 1],[.s 0]] [[lg (len c),lg (BO (len c) 8)],c] K ⟨dB.sl K,⟨dB.sl K,trivial⟩⟩ rfl K K) ?_;obtain⟨f,e,b⟩:=bI b;refine M.pre (pF (i:=2) (sz:=1) (E:=26) (R:=(aN 1 R8)) (l:=[[lg (len c),lg (BO (len c) 8)],c]) K)<|M.f (bD Tryz.call57 (Ka F [[lg (len c),lg (BO (len c) 8)],c] _ e) [.g 2] [vs 2] (vs 3) K iR)<|M.n d 1 [] [(2,vs 3)]<|M.nT ?_;cases b;exact Z.q d [.g 0,.g 3]
theorem kq4d F c i r(b:q4d F c i=some r):Spec Tryz.prog 134 [vp 0 0,vp 3 0] [.k 91 (hx4 c 1),.d 1 (aN 1 R8) c.Out,.d 1 R8 c.In,.k 63 [.s 4],.o 1 26 (aN 1 R8) i] (.u []) [.k 91 (hx4 r.1 5),.e,.e,.k 63 [.s 7],.e,.d 1 (aN 1 R8) r.1.Out,.d 1 R8 r.1.In,.o 1 26 (aN 1 R8) r.2]:=by
 refine eN Tryz.func134 rfl Tryz.ntmps134 rfl rfl fun fx=>?_;refine Z.s ?_;obtain⟨k,l,b⟩:=bI b;refine M.pre (pX (i:=1) (iv:=0) (sz:=1) (R:=(aN 1 R8)) (l:=c.Out) K rfl l)<|M.d d 4 [0,1] [(9,vs 6)] [] [.el 5] [0] ?_;obtain⟨e,m,b⟩:=bI b;refine M.f (bD Tryz.call135 (kq4c F k _ m) [.g 6] [vs 6] (vs 7) K iR)<|M.n d 1 [0,1] [(2,vs 7)]<|M.nT<|Z.n d [0,1,2] [(3,J (imax 0 (cO c.aS (len e))))]<|Z.n d [0,1,2,3] [(4,J (imax 1 (cO c.bJ (aL ((len e)-(imax 0 (cO c.aS (len e))))))))]<|Z.s<|M.n d 6 [0,1,2,3,4] [(30,J (cO (imax 1 (cO c.bJ (aL ((len e)-(imax 0 (cO c.aS (len e))))))) (aL ((len e)-(imax 0 (cO c.aS (len e)))))))] ?_;obtain⟨g,p,b⟩:=bI b;refine M.f (MN (sz:=1) (E:=5) (R:=R8) d rfl rfl rfl (fun _ _=>rfl) p K) ?_;refine M.n d 1 [0,1,2,3,4] [(5,vs 8)]<|M.nT<|Z.s<|M.n d 3 [0,1,2,3,4,5] [(32,vs 8),(33,vs 7),(34,J (imax 0 (cO c.aS (len e))))] ?_;obtain⟨f,q,b⟩:=bI b;refine M.f (Dp (sz:=1) (E:=5) (R:=R8) (dF:=1) (l:=e) d rfl (.inl ⟨7,rfl,K⟩) rfl rfl q K)<|M.f (UO (i:=8) (l:=g) (E:=5) (R:=R8) (dF:=1) (m:=f) d rfl K rfl (.r K) K)<|M.nT<|Z.s<|M.n d 2 [0,1,2,3,4] [(37,vs 4),(38,vs 8)]<|M.pre (pF (i:=8) (sz:=1) (E:=5) (R:=R8) (l:=FY g f) K)<|M.f (eL (sz:=1) (E:=26) (R:=(aN 1 R8)) (dF:=24) d [[.s 8]] [FY g f] K ⟨dB.sl K,trivial⟩ rfl K K) ?_;obtain⟨t,u,b⟩:=bI b;refine M.f (gW (i:=4) (l:=i) (sz:=1) (E:=26) (R:=(aN 1 R8)) (dF:=24) (m:=[FY g f]) d rfl K rfl (.o 26 K) u K)<|M.norm (bC:=[.k 91 (hx4 c 1),.d 1 (aN 1 R8) c.Out,.d 1 R8 c.In,.k 63 [.s 4],.e,.elt (some (1,0)) false [.s 6],.d 1 R8 k,.d 1 R8 e,.d 1 R8 (FY g f),.d 1 R8 f,.o 1 26 (aN 1 R8) [FY g f],.o 1 26 (aN 1 R8) t]) K<|M.d d 1 [0,2,3,4] [] [(3,63,[.s 11])] [] []<|M.nT<|Z.d d [0,2,3,4] [] [(0,91,hx4 ({c with aG:=aL (c.aG-1)}) 1)] [] []<|Z.d d [0,2] [] [(0,91,mg ({c with aG:=aL (c.aG-1),aS:=aL (imax 0 (cO c.aS (len e))+imax 1 (cO c.bJ (aL ((len e)-(imax 0 (cO c.aS (len e)))))))}) (.s 1) (.s 2))] [] []<|Z.n d [0] [(53,vb (decide ((aL (imax 0 (cO c.aS (len e))+imax 1 (cO c.bJ (aL ((len e)-(imax 0 (cO c.aS (len e))))))))>=(len e))))]<|Z.j b (fun b=>?_) fun b=>?_
 .refine Z.reg<|M.n d 2 [0] [(55,vs 1)] ?_;obtain⟨v,y,b⟩:=bI b;refine M.f (Dp (sz:=1) (E:=26) (R:=(aN 1 R8)) (dF:=24) (l:=c.Out) d rfl (.inl ⟨1,rfl,K⟩) rfl rfl y K)<|M.d d 4 [] [] [(0,91,mg ({c with aG:=aL (c.aG-1),Out:=v,aS:=0}) (.s 12) (.s 2))] [] []<|M.aV fun a w h=>?_;cases b;exact A.re (js:=(gr [(0,5),(12,1),(2,1),(11,1)])) d h K
 refine Z.kJ fun a w h=>?_;cases b;exact A.re (js:=(gr [(0,5),(1,2),(11,1)])) d h K
theorem kq4e F f r(b:q4e F f=some r):Spec Tryz.prog 99 [.g (hx4 f 0)] [.d 1 (aN 1 R8) f.Out,.d 1 R8 f.In] (.u [.inr (hx4 r.1 2),.inl (.s 4)]) [.e,.e,.d 1 (aN 1 R8) r.1.Out,.d 1 R8 r.1.In,.d 1 (aN 1 R8) r.2]:=by
 refine eN Tryz.func99 rfl Tryz.ntmps99 rfl rfl fun fx=>?_;refine Z.s<|M.f (bR (E:=91) (hx4 f 0) K)<|M.f (eA (E:=91) d (mg (aM.mk 0 0 0 0 0 0 0 0 0 0 [] 0 [] 0 false) nl nl) K)<|M.n d 1 [1,2] []<|M.nT<|Z.s<|M.n d 1 [1,2] [(6,.g (hx4 f 0))] ?_;obtain⟨i,p,b⟩:=bI b;refine M.f (bD Tryz.call110 (kqt F f _ p) [.g 0,.g 1] [.g (hx4 f 0)] (.g (hx4 i 4)) K iR)<|M.d d 1 [1,2] [] [(2,91,hx4 i 4)] [] []<|M.nT<|Z.seq<|Z.n d [1,2] [(9,vb i.ba)]<|Z.j b (fun b=>?_) fun b=>?_
 .refine Z.d d [2] [(3,vn)] [(3,91,hx4 i 4)] [] [] ?_;cases b;exact Z.q d [.g 0,.g 1,.z 4,.g 5,.n]
 refine Z.aF<|Z.s<|M.f (eA (E:=63) d [nl] K)<|M.nT<|Z.n d [1,2,4] [(5,.f 134 [.p 2 0,.p 6 0])]<|Z.cut (fun a w=>∃c k,q6w F c k=some r/\A 25 2 fx [(1,vp 2 0),(2,vp 5 0),(4,vp 6 0)] [.e,.e,.k 91 (hx4 c 3),.d 1 (aN 1 R8) c.Out,.d 1 R8 c.In,.k 91 (mg (aM.mk 0 0 0 0 0 0 0 0 0 0 [] 0 [] 0 false) nl nl),.k 63 [.s 7],.o 1 26 (aN 1 R8) k] a w) ?_ ?_
 .refine Z.block ?_;obtain⟨o1,hi1,ho1⟩:=bI b;clear b;refine Z.loop (fun n a w=>∃(e:aM) (g:List (List Int)),iter (fun s=>Wp F s.1 s.2) n (e,g)=some o1/\A 25 2 fx [(1,vp 2 0),(2,vp 5 0),(4,vp 6 0),(5,.f 134 [.p 2 0,.p 6 0])] [.e,.e,.k 91 (hx4 e 3),.d 1 (aN 1 R8) e.Out,.d 1 R8 e.In,.k 91 (mg (aM.mk 0 0 0 0 0 0 0 0 0 0 [] 0 [] 0 false) nl nl),.k 63 [.s 7],.o 1 26 (aN 1 R8) g] a w) F (fun a w h=>⟨i,[],hi1,h.t [.g 0,.g 1,.g 2,.z 4,.g 5,.g 3,.g 6,.n]⟩) ?_;rintro n1 a w ⟨e,g,hi1,h⟩;obtain⟨n1,q1,rfl,b,hs1⟩:=iI hi1;replace b:Wp F e g=some q1:=b;clear hi1;refine h.go<|Z.seq<|Z.n d [1,2,4,5] [(20,vb ((decide (len e.Out>0))&&(decide (e.aG>0))))]<|Z.j b (fun b=>?_) fun b=>?_
  .refine Z.aF<|Z.block<|Z.reg<|M.n d 1 [1,2,4,5] [(21,.f 134 [.p 2 0,.p 6 0])] ?_;obtain⟨m,q,b⟩:=bI b;refine M.f (bD Tryz.call134 (kq4d F e g _ q) (gr [(2,3),(6,2)]) [vp 2 0,vp 6 0] (.u []) K iR)<|M.aV fun a w h=>?_;exact⟨n1,Nat.lt_succ_self _,m.1,m.2,nI b hs1,h.t (gr [(0,3),(8,2),(5,2),(10,1)])⟩
  refine Z.xJ rfl fun a w h=>?_;have ho:=dI b hs1;replace b:=ho1
  try rw[ho]at b
  exact⟨e,g,b,h.t (gs 8)⟩
 rintro a w ⟨c,k,b,h⟩;refine h.go<|Z.cut (fun a w=>q6v F c k=some r/\A 25 2 fx [(2,vp 2 0),(3,vs 5)] [.e,.e,.k 91 (hx4 c 3),.d 1 (aN 1 R8) c.Out,.d 1 R8 c.In,.o 1 26 (aN 1 R8) k] a w) ?_ ?_
 .refine Z.rY MO (bm 8 220,bm 8 252,[2]) K fun t l=>?_;refine SD.n d l [0,1] [true,true,false,false] [2] [(23,.g (hx4 c 3)),(24,vs 7)]<|SD.all1 (i:=2) K<|SW.store l d (i:=2) (q:=5) (T:=91) (cs:=(hx4 c 3)) (bs':=[true,true,true,false]) rfl K K rfl K<|SD.n d l [3] [true,true,true,true] [2] [(3,vs 7)]<|SD.done K fun a w h=>?_;exact⟨b,h.t (gr [(0,2),(5,1),(3,2),(7,1)])⟩
 rintro a w ⟨b,h⟩;refine h.go ?_;cases b;exact Z.q d [.g 0,.g 1,.g 3,.g 4,.z 5]
end V
end Go.Proofs.YtbgfhaahhdnogaaGreat
