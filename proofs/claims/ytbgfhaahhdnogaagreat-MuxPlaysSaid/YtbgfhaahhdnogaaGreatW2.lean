/- Walks, wn by program: each Go function returns what its -/
import Derived.Test.YtbgfhaahhdnogaaGreatW1
namespace Go.Proofs.YtbgfhaahhdnogaaGreat
namespace V
theorem kq62(F:Nat)(f:aS)(g:List Int)(r:aS×(List (List Int))×Int)(b:q62 F f g=some r):Spec Tryz.prog 108 [.g (hx5 f 0),vs 2] [.d 1 (aZ 1 R8) f.Out,.d 1 R8 f.In,.d 1 R8 g] (.u [.inr (hx5 r.1 3),.inl (.s 5),.inl (cI r.2.2)]) [.e,.e,.e,.d 1 (aZ 1 R8) r.1.Out,.d 1 R8 r.1.In,.d 1 (aZ 1 R8) r.2.1]:=by
 refine Spec.enter Tryz.func108 rfl Tryz.ntmps108 rfl rfl fun fx=>?_;refine Z.s<|M.f (aR (E:=91) (hx5 f 0) K)<|M.f (eA (E:=91) d (gu (aS.mk 0 0 0 0 0 0 0 0 0 0 [] 0 [] 0 false) nl nl) K)<|M.n d 2 [1,2,4] []<|M.nT<|Z.s<|M.n d 1 [1,2,4] [(11,.g (hx5 f 0))] ?_;obtain⟨c,k,b⟩:=bI b;refine M.f (aQ Tryz.call110 (Xh F f _ k) [.g 0,.g 1] [.g (hx5 f 0)] (.g (hx5 c 5)) K iR)<|M.d d 1 [1,2,4] [] [(3,91,(hx5 c 5))] [] []<|M.nT<|Z.seq<|Z.n d [1,2,4] [(14,vb c.Failed)]<|Z.j b (fun b=>?_) fun b=>?_
 ·refine Z.d d [4] [(5,vn),(6,J 9)] [(4,91,(hx5 c 5))] [] [] ?_;cases b;exact Z.q d [.g 0,.g 1,.g 2,.z 5,.g 6,.n]
 refine Z.ak<|Z.s<|M.n d 2 [2,4] [(17,.g (hx5 c 5)),(18,vs 2)] ?_;obtain⟨e,l,b⟩:=bI b;refine M.pre (pF (i:=5) (sz:=1) (E:=26) (R:=(aZ 1 R8)) (l:=c.Out) K)<|M.f (aQ Tryz.call151 (kq61 F c g _ l) [.g 5,.g 6,.g 2] [.g (hx5 c 5),vs 2] (.u [.inl (.s 7),.inl (cI e.2.1),.inl (cI e.2.2)]) K iR)<|M.n d 7 [2,4] [(7,vs 7),(8,J e.2.1),(9,J e.2.2)]<|M.nT<|Z.seq<|Z.n d [2,4,7,8,9] [(24,vb (e.2.2 != 0))]<|Z.j b (fun b=>?_) fun b=>?_
 ·refine Z.d d [2,4,9] [] [(3,91,(hx5 ({ c with Failed:=true }) 5))] [] []<|Z.d d [4] [(5,vn),(6,J e.2.2)] [(4,91,(hx5 ({ c with Failed:=true }) 5))] [] [] ?_;cases b;exact Z.q d ((gr [(0,3),(5,2)])++[.n])
 refine Z.ak<|Z.d d [2,4,7,8] [] [(3,91,(hx5 ({ c with aC:=aH (c.aC - 1) }) 5))] [] []<|Z.s<|M.n d 3 [2,4,8] [(33,vs 6),(34,vs 7)]<|M.f (eL (sz:=1) (E:=26) (R:=(aZ 1 R8)) (bK:=24) d [[.s 6],[.s 7]] [c.In,e.1] K ⟨(bU.sl K),⟨(bU.sl K),trivial⟩⟩ rfl K K)<|M.norm (bN:=[.d 1 (aZ 1 R8) f.Out,.d 1 R8 f.In,.d 1 R8 g,.k 91 (hx5 ({ c with aC:=aH (c.aC - 1) }) 5),.k 91 (gu (aS.mk 0 0 0 0 0 0 0 0 0 0 [] 0 [] 0 false) nl nl),.d 1 (aZ 1 R8) c.Out,.d 1 R8 c.In,.d 1 R8 e.1,.o 1 26 (aZ 1 R8) [c.In,e.1]]) K ?_;obtain⟨i,m,b⟩:=bI b;refine M.pre (pF (i:=8) (sz:=1) (E:=26) (R:=(aZ 1 R8)) (l:=[c.In,e.1]) K)<|M.f (aQ Tryz.call57 (C9 F [c.In,e.1] _ m) [.g 8] [vs 8] (vs 9) K iR)<|M.d d 5 [2,4] [] [(3,91,(gu ({ c with aC:=aH (c.aC - 1),In:=i,Want:=e.2.1 }) (.s 5) (.s 9)))] [] []<|M.nT<|Z.seq<|Z.n d [2,4] [(45,vb (decide ((len i)<e.2.1)))]<|Z.j b (fun b=>?_) fun b=>?_
 ·refine Z.d d [4] [(5,vn),(6,J 0)] [(4,91,(gu ({ c with aC:=aH (c.aC - 1),In:=i,Want:=e.2.1 }) (.s 5) (.s 9)))] [] [] ?_;cases b;exact Z.q d [.g 0,.g 1,.g 2,.g 5,.g 9,.n]
 refine Z.ak<|Z.n d [2,4] [(10,vs 9)]<|Z.d d [2,4,10] [] [(3,91,(gu ({ c with aC:=aH (c.aC - 1),In:=[],Want:=(-1) }) (.s 5) nl))] [] []<|Z.s<|M.n d 2 [4] [(51,.g (gu ({ c with aC:=aH (c.aC - 1),In:=[],Want:=(-1) }) (.s 5) nl)),(52,vs 9)]<|M.f (eL (sz:=1) (E:=26) (R:=(aZ 1 R8)) (bK:=24) d [[.s 9]] [i] K ⟨(bU.sl K),trivial⟩ rfl K K)<|M.d d 3 [4] [(5,vs 10),(6,J 0)] [(4,91,(gu ({ c with aC:=aH (c.aC - 1),In:=[],Want:=(-1) }) (.s 5) nl))] [] []<|M.nT ?_;cases b;exact Z.q d [.g 0,.g 1,.g 2,.g 5,.n,.z 10]
theorem kq63(F:Nat)(e:aS)(f:Int)(r:aS×Int)(b:q63 F e f=some r):Spec Tryz.prog 109 [.g (hx5 e 0),J f] [.d 1 (aZ 1 R8) e.Out,.d 1 R8 e.In] (.u [.inr (hx5 r.1 2),.inl (cI r.2)]) [.e,.e,.d 1 (aZ 1 R8) r.1.Out,.d 1 R8 r.1.In]:=by
 refine Spec.enter Tryz.func109 rfl Tryz.ntmps109 rfl rfl fun fx=>?_;refine Z.s<|M.f (aR (E:=91) (hx5 e 0) K)<|M.f (eA (E:=91) d (gu (aS.mk 0 0 0 0 0 0 0 0 0 0 [] 0 [] 0 false) nl nl) K)<|M.n d 1 [1,2,4] []<|M.nT<|Z.s<|M.n d 1 [1,2,4] [(7,.g (hx5 e 0))] ?_;obtain⟨c,m,b⟩:=bI b;refine M.f (aQ Tryz.call110 (Xh F e _ m) [.g 0,.g 1] [.g (hx5 e 0)] (.g (hx5 c 4)) K iR)<|M.d d 1 [1,2,4] [] [(2,91,(hx5 c 4))] [] []<|M.nT<|Z.seq<|Z.n d [1,2,4] [(10,vb c.Failed)]<|Z.j b (fun b=>?_) fun b=>?_
 ·refine Z.d d [4] [(5,J 9)] [(3,91,(hx5 c 4))] [] [] ?_;cases b;exact Z.q d [.g 0,.g 1,.z 4,.g 5]
 refine Z.ak<|Z.s<|M.n d 3 [1,2,4] [(13,J c.aC),(14,J f)] ?_;obtain⟨i,p,b⟩:=bI b;refine M.f (aQ Tryz.call152 (XD F c.aC f _ p) [] [J c.aC,J f] (J i) K iR)<|M.n d 1 [1,2,4] [(6,J i)]<|M.nT<|Z.cut (fun a w=>∃k,Zc F c i k=some r∧A 25 2 fx [(2,vp 2 0),(4,vp 5 0),(6,J i)] [.e,.e,.k 91 (hx5 ({ c with aC:=k }) 3),.o 1 26 (aZ 1 R8) c.Out,.d 1 R8 c.In,.k 91 (gu (aS.mk 0 0 0 0 0 0 0 0 0 0 [] 0 [] 0 false) nl nl)] a w) ?_ ?_
 ·refine Z.n d [1,2,4,6] [(17,vb (i == 0))]<|Z.j b (fun b=>?_) fun b=>?_
  ·refine Z.reg<|M.d d 6 [2,4,6] [] [(2,91,(hx5 ({ c with aC:=aH (c.aC+f) }) 4))] [] []<|M.aK fun a w h=>?_;exact⟨aH (c.aC+f),b,h.t (gr [(0,3),(4,2),(3,1)])⟩
  refine Z.kJ fun a w h=>?_;exact⟨c.aC,b,h.t (gr [(0,3),(4,2),(3,1)])⟩
 rintro a w ⟨k,b,h⟩;refine h.go<|Z.d d [4] [(5,J i)] [(5,91,(hx5 ({ c with aC:=k }) 3))] [] [] ?_;cases b;exact Z.q d [.g 0,.g 1,.z 3,.g 4]
def YH(g:bG)(l:aS×(List (List Int))×Int):List Item:=[.k 99 (hxb g 8),.e,.e,.e,.e,.e,.e,.e,.d 5 dn g.aD.ay,.o 15 91 bR g.aD.aj,.o 14 93 bY g.aD.aB,.d 1 R8 g.aD.aA.Buffer,.o 2 116 dh g.aD.Out,.o 10 81 bS g.events,.k 91 (hx5 l.1 15),.d 1 (aZ 1 R8) l.1.Out,.d 1 R8 l.1.In]
theorem kq4s(F:Nat)(e:bG)(f:Int)(C:List Int)(r:bG)(b:Wo F e f C=some r):Spec Tryz.prog 63 [vp 0 0,J f,vs 7] [.k 99 (hxb e 1),.d 5 dn e.aD.ay,.o 15 91 bR e.aD.aj,.o 14 93 bY e.aD.aB,.d 1 R8 e.aD.aA.Buffer,.o 2 116 dh e.aD.Out,.o 10 81 bS e.events,.d 1 R8 C] (.u []) [.k 99 (hxb r 8),.e,.e,.e,.e,.e,.e,.e,.d 5 dn r.aD.ay,.o 15 91 bR r.aD.aj,.o 14 93 bY r.aD.aB,.d 1 R8 r.aD.aA.Buffer,.o 2 116 dh r.aD.Out,.o 10 81 bS r.events]:=by
 refine Spec.enter Tryz.func63 rfl Tryz.ntmps63 rfl rfl fun fx=>?_;refine Z.mid (fun a w=>∃m,qa7 F m=some r∧A 91 8 fx [] [.k 99 (hxb m 8),.e,.e,.e,.e,.e,.e,.e,.d 5 dn m.aD.ay,.o 15 91 bR m.aD.aj,.o 14 93 bY m.aD.aB,.d 1 R8 m.aD.aA.Buffer,.o 2 116 dh m.aD.Out,.o 10 81 bS m.events] a w) ?_ ?_
 ·refine Z.s ?_;obtain⟨y,Q,b⟩:=bI b;refine M.pre (fF (i:=2) (iv:=f) (sz:=15) (E:=91) (R:=bR) (l:=e.aD.aj) K rfl Q)<|M.d d 9 [0,1] [(20,.g (hx5 y 9)),(21,vs 7)] [] [.el 8] [f] ?_;obtain⟨c,R,b⟩:=bI b;refine M.pre (fP)<|M.f (aQ Tryz.call108 (kq62 F y C _ R) [.g 9,.g 10,.g 7] [.g (hx5 y 9),vs 7] (.u [.inr (hx5 c.1 11),.inl (.s 13),.inl (cI c.2.2)]) K iR)<|M.n d 4 [0,1] [(23,.g (hx5 c.1 11)),(24,vs 13),(25,J c.2.2)]<|M.f (eA (E:=91) d (gu (aS.mk 0 0 0 0 0 0 0 0 0 0 [] 0 [] 0 false) nl nl) K)<|M.d d 3 [0,1,6] [(7,vs 13),(8,J c.2.2)] [(14,91,(hx5 c.1 11))] [] []<|M.nT<|Z.cut (fun a w=>∃u,qaa F e f c u=some r∧A 91 8 fx [(0,vp 0 0),(1,J f),(6,vp 8 0),(7,vs 11),(8,J c.2.2)] [.k 99 (hxb ({ e with aD:={ e.aD with aj:=u } }) 1),.d 5 dn e.aD.ay,.o 15 91 bR u,.o 14 93 bY e.aD.aB,.d 1 R8 e.aD.aA.Buffer,.o 2 116 dh e.aD.Out,.o 10 81 bS e.events,.e,.k 91 (hx5 c.1 9),.d 1 (aZ 1 R8) c.1.Out,.d 1 R8 c.1.In,.d 1 (aZ 1 R8) c.2.1] a w) ?_ ?_
  ·refine Z.draw MO (bm 15 32507) K fun E3 E=>?_;refine SD.n d E [0,1,2,3,4,5,6] (bm 9 127) [0,1,6,7,8] [(30,vs 2),(31,J f),(32,.g (hx5 c.1 11))] ?_;obtain⟨E4,S,b⟩:=bI b;refine SD.all1 (i:=7) K<|SW.f E 7 (bm 9 255) rfl rfl rfl (nO (sz:=15) (E:=91) (R:=bR) (bK:=136) (l:=e.aD.aj) d rfl rfl rfl S K) ?_;obtain⟨G,T,b⟩:=bI b;refine SD.all1 (i:=8) K<|SW.Jb E (i:=8) (bs':=(bm 9 511)) rfl (zR (sz:=15) (E:=91) (R:=bR) (i:=2) (iv:=f) (l:=e.aD.aj) (e:=c.1) d rfl rfl rfl rfl (vg (x:=c.1) (bU.sl K) (bU.sl K)) K K T) rfl K<|SD.norm (bN:=[.k 99 (hxb ({ e with aD:={ e.aD with aj:=G } }) 1),.d 5 dn e.aD.ay,.o 15 91 bR G,.o 14 93 bY e.aD.aB,.d 1 R8 e.aD.aA.Buffer,.o 2 116 dh e.aD.Out,.o 10 81 bS e.events,.d 1 R8 C,.e,.d 1 (aZ 1 R8) y.Out,.d 1 R8 y.In,.d 1 (aZ 1 R8) c.1.Out,.d 1 R8 c.1.In,.d 1 (aZ 1 R8) c.2.1,.k 91 (hx5 c.1 11)]) K<|SD.done K fun a w h=>?_;exact⟨G,b,h.t (gr [(0,8),(14,1),(11,3)])⟩
  rintro a w ⟨u,b,h⟩;refine h.go<|Z.seq<|Z.n d [0,1,6,7] [(35,vb (c.2.2 != 0))]<|Z.j b (fun b=>?_) fun b=>?_
  ·refine Z.s<|M.n d 2 [] [(36,vp 0 0),(37,J f)] ?_;obtain⟨E5,U,b⟩:=bI b;refine M.f (aQ Tryz.call75 (Tn F ({ e with aD:={ e.aD with aj:=u } }) f _ U) (gs 7) [vp 0 0,J f] (.u []) K iR)<|M.nT ?_;cases b;exact Z.q d (gr [(0,8),(12,6)])
  refine Z.ak<|Z.cut (fun a w=>∃g,qa9 F f c g=some r∧A 91 8 fx [(0,vp 0 0),(1,J f),(6,vp 14 0)] (YH g c) a w) ?_ ?_
  ·refine Z.n d [0,1,6] [(39,vs 11),(40,J (len c.2.1)),(41,J 0)]<|Z.block ?_;obtain⟨o1,hi1,ho1⟩:=bI b;clear b;refine Z.loop (fun n a w=>∃(l:bG) (p:Int),iter (fun s=>MI F c s.1 s.2) n (l,p)=some o1∧A 91 8 fx [(0,vp 0 0),(1,J f),(6,vp 14 0),(39,vs 17),(40,J (len c.2.1)),(41,J p)] [.k 99 (hxb l 8),.e,.e,.e,.e,.e,.e,.e,.d 5 dn l.aD.ay,.o 15 91 bR l.aD.aj,.o 14 93 bY l.aD.aB,.d 1 R8 l.aD.aA.Buffer,.o 2 116 dh l.aD.Out,.o 10 81 bS l.events,.k 91 (hx5 c.1 15),.d 1 (aZ 1 R8) c.1.Out,.d 1 R8 c.1.In,.d 1 (aZ 1 R8) c.2.1] a w) F (fun a w h=>⟨{ e with aD:={ e.aD with aj:=u } },0,hi1,h.t (gr [(0,8),(1,6),(8,4)])⟩) ?_;rintro n1 a w ⟨l,p,hi1,h⟩;obtain⟨n1,q1,rfl,b,hs1⟩:=iI hi1;replace b:MI F c l p=some q1:=b;clear hi1;refine h.go<|Z.n d [0,1,6,39,40,41] [(42,vb (decide (p<(len c.2.1))))]<|Z.seq<|Z.j b (fun b=>?_) fun b=>?_
   ·refine Z.ak<|Z.seq<|Z.block ?_;obtain⟨H,W,b⟩:=bI b;refine Z.pre (pX (i:=17) (iv:=p) (sz:=1) (R:=(aZ 1 R8)) (l:=c.2.1) K rfl W)<|Z.d d [0,1,6,39,40,41] [(10,vs 19)] [] [.el 18] [p]<|Z.reg<|M.n d 5 [0,1,6,39,40,41] [(45,vp 0 0),(49,.g (fU (bM.mk 3 c.1.Local H 0 zU 0) (.s 19)))] ?_;obtain⟨X,Y,b⟩:=bI b;refine M.f (aQ Tryz.call60 (MP F l (bM.mk 3 c.1.Local H 0 zU 0) _ Y) (gr [(0,1),(8,6),(19,1)]) [vp 0 0,.g (fU (bM.mk 3 c.1.Local H 0 zU 0) (.s 19))] (.u []) K iR)<|M.nT<|Z.reg<|M.n d 2 [0,1,6,39,40] [(41,J (aH (p+1)))]<|M.aK fun a w h=>?_;exact⟨n1,Nat.lt_succ_self _,X,aH (p+1),nI b hs1,h.t (gr [(0,8),(20,6),(14,4)])⟩
   refine Z.xJ rfl fun a w h=>?_;have ho:=dI b hs1;replace b:=ho1
   try rw[ho]at b
   exact⟨l,b,h.t (gs 17)⟩
  rintro a w ⟨g,b,h⟩;refine h.go<|Z.n d [0,1,6] [(11,J (aH (c.1.Given - c.1.aC)))]<|Z.seq<|Z.s<|M.n d 3 [0,1,6,11] [(59,vb (decide ((aH (c.1.Given - c.1.aC))≤0)))] ?_;obtain⟨Bv,hz,hpr⟩:=bI b;clear b;refine M.cutAt 7 (fun a w=>A 91 8 fx [(0,vp 0 0),(1,J f),(6,vp 14 0),(11,J (aH (c.1.Given - c.1.aC))),(66,vb Bv)] (YH g c) a w) ?_ ?_
  ·have b:=hz
   rcases bB (decide ((aH (c.1.Given - c.1.aC))≤0))with i | i
   ·replace b:=dL b i;refine M.no rfl rfl i rfl<|M.no rfl rfl i rfl<|M.no rfl rfl i rfl<|M.no rfl rfl i rfl<|M.no rfl rfl i rfl<|M.no rfl rfl i rfl<|M.dw rfl i rfl rfl<|M.aK fun a w h=>?_;cases b;exact h.t (gs 17)
   replace b:=bX b i;refine M.yes rfl rfl i<|M.n d 1 [0,1,6,11,59] [(60,vp 14 8)]<|M.yes rfl rfl i<|M.n d 1 [0,1,6,11,59] [(61,J c.1.aC)]<|M.yes rfl rfl i<|M.n d 1 [0,1,6,11,59,61] [(62,vp 14 9)]<|M.yes rfl rfl i<|M.n d 1 [0,1,6,11,59,61] [(63,J c.1.Given)]<|M.yes rfl rfl i<|M.d d 1 [0,1,6,11,59,61] [(64,J (wP .i64 c.1.Given 2))] [] [.bin .quo .i64 c.1.Given 2 (wP .i64 c.1.Given 2) K] [c.1.Given,2]<|M.yes rfl rfl i<|M.n d 1 [0,1,6,11,59] [(65,vb (decide (c.1.aC > (wP .i64 c.1.Given 2))))]<|M.cZ rfl i rfl rfl<|M.aK fun a w h=>?_;cases b;exact h.t (gs 17)
  intro a w h;have b:=hpr; clear hpr hz;refine h.jX<|M.nT<|Z.j b (fun b=>?_) fun b=>?_
  ·cases b;exact Z.q d (gs 14)
  refine Z.ak<|Z.s<|M.n d 2 [0,1,6,11] [(68,.g (hx5 c.1 15)),(69,J (aH (c.1.Given - c.1.aC)))] ?_;obtain⟨k,Bw,b⟩:=bI b;refine M.f (aQ Tryz.call109 (kq63 F c.1 (aH (c.1.Given - c.1.aC)) _ Bw) [.g 15,.g 16] [.g (hx5 c.1 15),J (aH (c.1.Given - c.1.aC))] (.u [.inr (hx5 k.1 17),.inl (cI k.2)]) K iR)<|M.d d 5 [0,1,6,11] [(8,J k.2)] [(14,91,(hx5 k.1 17))] [] []<|M.nT<|Z.n d [0,1,6,11] [(74,vb (k.2 == 0))]<|Z.j b (fun b=>?_) fun b=>?_
  ·refine Z.cut (fun a w=>∃z,qa8 F c g k z=some r∧A 91 8 fx [(0,vp 0 0),(6,vp 14 0),(11,J (aH (c.1.Given - c.1.aC)))] [.k 99 (hxb ({ g with aD:={ g.aD with aj:=z } }) 8),.e,.e,.e,.e,.e,.e,.e,.d 5 dn g.aD.ay,.o 15 91 bR z,.o 14 93 bY g.aD.aB,.d 1 R8 g.aD.aA.Buffer,.o 2 116 dh g.aD.Out,.o 10 81 bS g.events,.k 91 (hx5 k.1 15),.d 1 (aZ 1 R8) k.1.Out,.d 1 R8 k.1.In] a w) ?_ ?_
   ·refine Z.draw MO (bm 19 523521) K fun E6 L=>?_;refine SD.n d L [0,1,2,3,4,5,6] (bm 9 127) [0,6,11] [(79,vs 9),(80,J f),(81,.g (hx5 k.1 17))] ?_;obtain⟨E7,Bx,b⟩:=bI b;refine SD.all1 (i:=7) K<|SW.f L 7 (bm 9 255) rfl rfl rfl (nO (sz:=15) (E:=91) (R:=bR) (bK:=136) (l:=g.aD.aj) d rfl rfl rfl Bx K) ?_;obtain⟨By,Bz,b⟩:=bI b;refine SD.all1 (i:=8) K<|SW.Jb L (i:=8) (bs':=(bm 9 511)) rfl (zR (sz:=15) (E:=91) (R:=bR) (i:=9) (iv:=f) (l:=g.aD.aj) (e:=k.1) d rfl rfl rfl rfl (vg (x:=k.1) (bU.sl K) (bU.sl K)) K K Bz) rfl K<|SD.done K fun a w h=>?_;exact⟨By,b,h.t (gr [(0,15),(17,2)])⟩
   rintro a w ⟨z,b,h⟩;refine h.go<|Z.kQ MO ((bm 17 116992),(bm 17 116993),[2,7]) K fun E8 D=>?_;refine SD.n d D [0,1,3,4,5] (bm 8 59) [] [(83,vp 0 0),(84,vp 0 0),(87,vi .u16 k.1.Local),(88,J (aH (c.1.Given - c.1.aC)))] ?_;obtain⟨B,E0,b⟩:=bI b;refine SD.all1 (i:=2) K<|SW.f D 2 (bm 8 63) rfl rfl rfl (aQ Tryz.call98 (XU F ({ g with aD:={ g.aD with aj:=z } }) _ E0) (gr [(0,1),(8,6)]) [vp 0 0] (J B.1) K iR)<|SD.n d D [6] (bm 8 127) [83] [(89,.g (aM (aO.mk 22 B.1 0 k.1.Local 0 0 0 (aH (c.1.Given - c.1.aC)) 0 zU)))] ?_;obtain⟨E1,E2,b⟩:=bI b;refine SD.all1 (i:=7) K<|SW.f D 7 (bm 8 255) rfl rfl rfl (aQ Tryz.call87 (Oj F B.2 (aO.mk 22 B.1 0 k.1.Local 0 0 0 (aH (c.1.Given - c.1.aC)) 0 zU) _ E2) (gr [(0,1),(17,6)]) [vp 0 0,.g (aM (aO.mk 22 B.1 0 k.1.Local 0 0 0 (aH (c.1.Given - c.1.aC)) 0 zU))] (.u []) K iR)<|SD.done K fun a w h=>?_;exact⟨E1,b,h.t (gr [(0,8),(23,6)])⟩
  refine Z.kJ fun a w h=>?_;exact⟨g,b,h.t (gs 14)⟩
 rintro a w ⟨m,b,h⟩;cases b;exact A.re (js:=(gs 14)) d h K
def O5(v:aJ)(P:jL)(q:bG):List Item:=(mI v++[.d 1 R8 P.Payload,.k 31 (aF v 0),.k 45 [cI P.bF,.s 5],.k 31 zM,.k 99 (hxb q 10),.d 5 dn q.aD.ay,.o 15 91 bR q.aD.aj,.o 14 93 bY q.aD.aB,.d 1 R8 q.aD.aA.Buffer,.o 2 116 dh q.aD.Out,.o 10 81 bS q.events])
def Us(t:bG):List Item:=[.e,.e,.e,.e,.e,.e,.k 31 zM,.k 99 (hxb t 8),.d 5 dn t.aD.ay,.o 15 91 bR t.aD.aj,.o 14 93 bY t.aD.aB,.d 1 R8 t.aD.aA.Buffer,.o 2 116 dh t.aD.Out,.o 10 81 bS t.events]
def Ur:List Item:=[.e,.e,.e,.e,.e,.e,.k 31 zM]
theorem Ta(F:Nat)(k:aJ)(m:jL)(r:aJ×List bM)(b:q24 F k m=some r):Spec Tryz.prog 21 [.g (aF k 0),.g [cI m.bF,.s 5]] (mI k++[.d 1 R8 m.Payload]) (.u [.inr (aF r.1 6),.inl (.s 11)]) ([.e,.e,.e,.e,.e,.e]++mI r.1++[.d 10 bS r.2]):=by
 refine Spec.enter Tryz.func21 rfl Tryz.ntmps21 rfl rfl fun fx=>?_;refine Z.s<|M.f (aR (E:=31) (aF k 0) K)<|M.f (aR (E:=45) [cI m.bF,.s 5] K)<|M.f (eA (E:=31) d zM K)<|M.n d 1 [2,3,4] []<|M.nT<|Z.s<|M.n d 1 [3,4] [(13,.g (aF k 0))] ?_;obtain⟨e,G,b⟩:=bI b;refine M.f (aQ Tryz.call35 (Oh F k _ G) (gs 5) [.g (aF k 0)] (vp 9 0) K iR)<|M.n d 1 [3,4] [(6,vp 9 0)]<|M.nT<|Z.cut (fun a w=>∃y l,qad F e y l=some r∧A 95 6 fx [(4,vp 6 0),(6,vp 7 0),(7,vp 14 0),(8,vs 16)] (Ur++[.k 99 (hxb e 8),.d 5 dn e.aD.ay,.o 15 91 bR e.aD.aj,.o 14 93 bY e.aD.aB,.d 1 R8 e.aD.aA.Buffer,.o 2 116 dh e.aD.Out,.o 10 81 bS e.events,.k 28 [cb y.On,.s 15],.d 1 R8 y.Buffer,.d 2 dh l]) a w) ?_ ?_
 ·refine Z.draw MO (bm 16 65535) K fun Y p=>?_;refine SD.n d p [0,1,2,3,4,5] (bm 15 63) [4,6] [(20,.g [cb e.aD.aA.On,.s 13]),(21,.g [cI m.bF,.s 5])] ?_;obtain⟨f,C,b⟩:=bI b;refine SD.lay 0 (bm 15 32767) [(4,vp 8 0),(6,vp 9 0),(7,vp 18 0),(8,vs 17)] (O5 k m e++[.d 1 R8 f.1.Buffer,.d 2 dh f.2.1,.k 28 [cb f.1.On,.s 16]]) ?_ (fun c0=>?_)
  ·refine SD.done K fun a w h=>?_;exact⟨f.1,f.2.1,b,h.t (gr [(0,6),(8,8),(18,1),(16,2)])⟩
  refine SD.lay 3 (bm 15 4095) [(4,vp 8 0),(6,vp 9 0),(7,vp 18 0),(23,.g [cb f.1.On,.s 16]),(24,vs 17),(25,J f.2.2)] (O5 k m e++[.d 1 R8 f.1.Buffer,.d 2 dh f.2.1,.k 28 [cb false,nl]]) ?_ (fun c1=>?_)
  ·exact SD.all1 (i:=12) K<|SW.store p d (i:=12) (q:=18) (T:=28) (cs:=[cb f.1.On,.s 16]) (bs':=(bm 15 8191)) rfl K rfl rfl K<|SD.n d p [13,14] (bm 15 32767) [4,6,7] [(8,vs 17)]<|SD.fE p (gs 19) c0 K
  refine SD.lay 4 (bm 15 2047) [(4,vp 8 0),(6,vp 9 0),(23,.g [cb f.1.On,.s 16]),(24,vs 17),(25,J f.2.2)] (O5 k m e++[.d 1 R8 f.1.Buffer,.d 2 dh f.2.1]) ?_ (fun c2=>?_)
  ·exact SD.all1 (i:=11) K<|SW.f p 11 (bm 15 4095) rfl rfl rfl (eA (E:=28) d [cb false,nl] K)<|SD.fE p (gs 19) c1 K
  refine SD.lay 8 (bm 15 2111) [(4,vp 8 0),(6,vp 9 0),(7,vp 16 0),(20,.g [cb e.aD.aA.On,.s 13]),(21,.g [cI m.bF,.s 5])] (O5 k m e++[.k 28 [cb false,nl]]) ?_ (fun c3=>?_)
  ·exact SD.all1 (i:=6) K<|SW.f p 6 (bm 15 2175) rfl rfl rfl (aQ Tryz.call58 (Xp F e.aD.aA m _ C) [.g 13,.g 5] [.g [cb e.aD.aA.On,.s 13],.g [cI m.bF,.s 5]] (.u [.inr [cb f.1.On,.s 17],.inl (.s 18),.inl (cI f.2.2)]) K iR)<|SD.n d p [7,8,9,10] (bm 15 4095) [4,6,7] [(23,.g [cb f.1.On,.s 17]),(24,vs 18),(25,J f.2.2)]<|SD.fE p (gr [(0,16),(17,2),(16,1)]) c1 K
  refine SD.all2 (i:=6) (j:=11) K ?_ ?_
  ·exact SW.f p 6 (bm 15 127) rfl rfl rfl (aQ Tryz.call58 (Xp F e.aD.aA m _ C) [.g 13,.g 5] [.g [cb e.aD.aA.On,.s 13],.g [cI m.bF,.s 5]] (.u [.inr [cb f.1.On,.s 16],.inl (.s 17),.inl (cI f.2.2)]) K iR)<|SD.n d p [7,8,9,10] (bm 15 2047) [4,6] [(23,.g [cb f.1.On,.s 16]),(24,vs 17),(25,J f.2.2)]<|SD.fE p (gs 18) c2 K
  exact SW.f p 11 (bm 15 2111) rfl rfl rfl (eA (E:=28) d [cb false,nl] K)<|SD.fE p (gs 17) c3 K
 rintro a w ⟨y,l,b,h⟩;refine h.go<|Z.d d [4,6,8] [] [(7,99,(yj ({ e with aD:={ e.aD with aA:=y } }) (.s 8) (.s 9) (.s 10) (.s 15) (.s 12) (.s 13)))] [] []<|Z.cut (fun a w=>∃i,qac F i=some r∧A 95 6 fx [(4,vp 6 0),(6,vp 7 0)] (Ur++[.k 99 (hxb i 8),.d 5 dn i.aD.ay,.o 15 91 bR i.aD.aj,.o 14 93 bY i.aD.aB,.d 1 R8 i.aD.aA.Buffer,.o 2 116 dh i.aD.Out,.o 10 81 bS i.events]) a w) ?_ ?_
 ·refine Z.n d [4,6] [(31,vs 16),(32,J (len l)),(33,J 0)]<|Z.block ?_;obtain⟨o1,hi1,ho1⟩:=bI b;clear b;refine Z.loop (fun n a w=>∃(q:bG) (t:Int),iter (fun s=>NK F l s.1 s.2) n (q,t)=some o1∧A 95 6 fx [(4,vp 6 0),(6,vp 7 0),(31,vs 14),(32,J (len l)),(33,J t)] (Us q++[.d 2 dh l]) a w) F (fun a w h=>⟨{ e with aD:={ e.aD with aA:=y } },0,hi1,h.t (gr [(0,11),(15,1),(12,2),(16,1)])⟩) ?_;rintro n1 a w ⟨q,t,hi1,h⟩;obtain⟨n1,q1,rfl,b,hs1⟩:=iI hi1;replace b:NK F l q t=some q1:=b;clear hi1;refine h.go<|Z.n d [4,6,31,32,33] [(34,vb (decide (t<(len l))))]<|Z.seq<|Z.j b (fun b=>?_) fun b=>?_
  ·refine Z.ak<|Z.cut (fun a w=>∃(v:bG),UK F t v=some q1∧A 95 6 fx [(4,vp 6 0),(6,vp 7 0),(31,vs 14),(32,J (len l)),(33,J t)] (Ur++[.k 99 (hxb v 8),.d 5 dn v.aD.ay,.o 15 91 bR v.aD.aj,.o 14 93 bY v.aD.aB,.d 1 R8 v.aD.aA.Buffer,.o 2 116 dh v.aD.Out,.o 10 81 bS v.events,.d 2 dh l]) a w) ?_ ?_
   ·refine Z.block<|Z.s ?_;obtain⟨g,H,b⟩:=bI b;refine M.pre (pX (i:=14) (iv:=t) (sz:=2) (R:=dh) (l:=l) K rfl H)<|M.d d 2 [4,6,31,32,33] [(36,.g [ci .u16 g.cO,.s 16])] [] [.el 15] [t]<|M.f (eA (E:=116) d [ci .u16 0,nl] K)<|M.d d 1 [4,6,11,31,32,33] [] [(17,116,[ci .u16 g.cO,.s 16])] [] []<|M.nT<|Z.s<|M.n d 3 [4,6,11,31,32,33] [(37,vp 7 0),(39,vi .u16 g.cO)] ?_;obtain⟨u,L,b⟩:=bI b;refine M.f (aQ Tryz.call59 (Oq F q g.cO _ L) [.g 7,.g 8,.l 9,.l 10,.g 11,.l 12,.l 13] [vp 7 0,vi .u16 g.cO] (J u) K (.inr ⟨trivial,trivial,trivial,trivial,trivial,trivial,trivial,trivial⟩))<|M.n d 1 [4,6,11,31,32,33] [(12,J u)]<|M.nT<|Z.block<|Z.n d [4,6,11,12,31,32,33] [(41,vb ((g.cO == 4)||(g.cO == 6)))]<|Z.j b (fun b=>?_) fun b=>?_
    ·refine Z.reg<|M.n d 6 [4,6,31,32,33] [(50,vp 7 0),(55,.g (fU (bM.mk 1 g.cO g.Payload 0 zU 0) (.s 16)))] ?_;obtain⟨P,Q,b⟩:=bI b;refine M.f (aQ Tryz.call60 (MP F q (bM.mk 1 g.cO g.Payload 0 zU 0) _ Q) (gr [(7,7),(16,1)]) [vp 7 0,.g (fU (bM.mk 1 g.cO g.Payload 0 zU 0) (.s 16))] (.u []) K iR)<|M.aK fun a w h=>?_;exact⟨P,b,h.t (gr [(0,8),(18,6),(14,1)])⟩
    refine Z.n d [4,6,11,12,31,32,33] [(57,vb (g.cO == 5))]<|Z.j b (fun b=>?_) fun b=>?_
    ·refine Z.reg<|M.n d 3 [4,6,31,32,33] [(61,vp 7 0),(63,vs 16)] ?_;obtain⟨R,S,b⟩:=bI b;refine M.f (aQ Tryz.call61 (kq2k F q g.Payload _ S) (gr [(7,7),(16,1)]) [vp 7 0,vs 16] (.u []) K iR)<|M.aK fun a w h=>?_;exact⟨R,b,h.t (gr [(0,8),(18,6),(14,1)])⟩
    refine Z.s<|M.n d 3 [4,6,11,12,31,32,33] [(68,vb (decide (u≥0)))] ?_;obtain⟨D,hz,hpr⟩:=bI b;clear b;refine M.cutAt 12 (fun a w=>A 95 6 fx [(4,vp 6 0),(6,vp 7 0),(11,vp 14 0),(12,J u),(31,vs 16),(32,J (len l)),(33,J t),(80,vb D)] (Us q++[.k 116 [ci .u16 g.cO,.s 15],.d 1 R8 g.Payload,.d 2 dh l]) a w) ?_ ?_
    ·have b:=hz
     rcases bB (decide (u≥0))with c | c
     ·replace b:=dL b c;refine M.yes rfl rfl c<|M.n d 1 [4,6,11,12,31,32,33,68] [(69,vp 7 0)]<|M.yes rfl rfl c<|M.n d 1 [4,6,11,12,31,32,33,68,69] [(70,vp 7 0)]<|M.yes rfl rfl c<|M.n d 1 [4,6,11,12,31,32,33,68,69,70] [(71,vp 7 0)]<|M.yes rfl rfl c<|M.n d 1 [4,6,11,12,31,32,33,68,69,70,71] [(72,vp 7 0)]<|M.yes rfl rfl c<|M.n d 1 [4,6,11,12,31,32,33,68,69,70,71,72] [(73,vp 7 3)]<|M.yes rfl rfl c<|M.n d 1 [4,6,11,12,31,32,33,68,69,70,71,72,73] [(74,vs 9)]<|M.yes rfl rfl c<|M.n d 1 [4,6,11,12,31,32,33,68,69,70,71,72,73,74] [(75,J u)]<|M.yes rfl rfl c ?_;obtain⟨z,T,b⟩:=bI b;refine M.pre (fF (i:=9) (iv:=u) (sz:=15) (E:=91) (R:=bR) (l:=q.aD.aj) K rfl T)<|M.d d 1 [4,6,11,12,31,32,33,68,69,70,71,72,73,74,75] [(76,vp 18 0)] [] [.el 18] [u]<|M.yes rfl rfl c<|M.n d 1 [4,6,11,12,31,32,33,68,69,70,71,72,73,74,75,76] [(77,.g (hx5 z 19))]<|M.yes rfl rfl c ?_;obtain⟨E,U,b⟩:=bI b;refine M.pre (fP)<|M.f (aQ Tryz.call62 (Xi F q z _ U) [.g 7,.g 8,.l 9,.l 10,.g 11,.l 12,.l 13,.g 19,.g 20] [vp 7 0,.g (hx5 z 19)] (vb E) K (.inr ⟨trivial,trivial,trivial,trivial,trivial,trivial,trivial,trivial,trivial,trivial⟩))<|M.norm (bN:=(Us q++[.d 2 dh l,.elt (some (14,t)) false [ci .u16 g.cO,.s 16],.d 1 R8 g.Payload,.k 116 [ci .u16 g.cO,.s 16],.e,.d 1 (aZ 1 R8) z.Out,.d 1 R8 z.In])) K<|M.yes rfl rfl c<|M.n d 1 [4,6,11,12,31,32,33,68,69,70,71,72,73,74,75,76,77,78] [(79,vb (!E))]<|M.dw rfl c rfl rfl<|M.aK fun a w h=>?_;cases b;exact h.t (gr [(0,14),(17,1),(16,1),(14,1)])
     replace b:=bX b c;refine M.no rfl rfl c rfl<|M.no rfl rfl c rfl<|M.no rfl rfl c rfl<|M.no rfl rfl c rfl<|M.no rfl rfl c rfl<|M.no rfl rfl c rfl<|M.no rfl rfl c rfl<|M.no rfl rfl c rfl<|M.no rfl rfl c rfl<|M.no rfl rfl c rfl<|M.no rfl rfl c rfl<|M.cZ rfl c rfl rfl<|M.aK fun a w h=>?_;cases b;exact h.t (gr [(0,14),(17,1),(16,1),(14,1)])
    intro a w h;have b:=hpr; clear hpr hz;refine h.jX<|M.n d 1 [4,6,11,12,31,32,33] [(65,vb D)]<|M.nT<|Z.j b (fun b=>?_) fun b=>?_
    ·refine Z.reg<|M.n d 4 [4,6,31,32,33] [(81,vp 7 0),(82,J u),(84,vs 15)] ?_;obtain⟨W,X,b⟩:=bI b;refine M.f (aQ Tryz.call63 (kq4s F q u g.Payload _ X) (gr [(7,7),(15,1)]) [vp 7 0,J u,vs 15] (.u []) K iR)<|M.aK fun a w h=>?_;exact⟨W,b,h.t (gr [(0,8),(17,6),(16,1)])⟩
    refine Z.kJ fun a w h=>?_;exact⟨q,b,h.t (gr [(0,14),(16,1)])⟩
   rintro a w ⟨v,b,h⟩;refine h.go<|Z.reg<|M.n d 2 [4,6,31,32] [(33,J (aH (t+1)))]<|M.aK fun a w h=>?_;exact⟨n1,Nat.lt_succ_self _,v,aH (t+1),nI b hs1,h.t (gs 15)⟩
  refine Z.xJ rfl fun a w h=>?_;have ho:=dI b hs1;replace b:=ho1
  try rw[ho]at b
  exact⟨q,b,h.t (gs 14)⟩
 rintro a w ⟨i,b,h⟩;refine h.go<|Z.cut (fun a w=>qab F i=some r∧A 95 6 fx [(4,vp 6 0),(5,vs 12)] [.e,.e,.e,.e,.e,.e,.k 31 (aF i.aD 7),.d 5 dn i.aD.ay,.o 15 91 bR i.aD.aj,.o 14 93 bY i.aD.aB,.d 1 R8 i.aD.aA.Buffer,.o 2 116 dh i.aD.Out,.o 10 81 bS i.events] a w) ?_ ?_
 ·refine Z.kQ MO ((bm 14 16256),(bm 14 16320),[8]) K fun Bv B=>?_;refine SD.n d B [0,1,2,3,4,5,6,7] (bm 10 255) [4] [(90,.g (aF i.aD 8)),(94,vs 13)]<|SD.all1 (i:=8) K<|SW.store B d (i:=8) (q:=6) (T:=31) (cs:=(aF i.aD 8)) (bs':=(bm 10 511)) rfl K rfl rfl K<|SD.n d B [9] (bm 10 1023) [4] [(5,vs 13)]<|SD.done K fun a w h=>?_;exact⟨b,h.t (gr [(0,7),(8,6)])⟩
 rintro a w ⟨b,h⟩;refine h.go ?_;cases b;exact Z.q d ((gr [(0,6),(7,1)])++[.z 8,.z 9]++[.g 10]++[.z 11,.z 12])
theorem XC(F:Nat)(c:aJ)(f:Int)(i:List Int)(r:aJ×Int)(b:WH F c f i=some r):Spec Tryz.prog 22 [.g (aF c 0),vi .u16 f,vs 5] (mI c++[.d 1 R8 i]) (.u [.inr (aF r.1 6),.inl (cI r.2)]) ([.e,.e,.e,.e,.e,.e]++mI r.1):=by
 refine Spec.enter Tryz.func22 rfl Tryz.ntmps22 rfl rfl fun fx=>?_;refine Z.s<|M.f (aR (E:=31) (aF c 0) K)<|M.f (eA (E:=31) d zM K)<|M.n d 1 [1,2,3,6] []<|M.nT<|Z.s<|M.n d 1 [1,2,6] [(9,.g (aF c 0))] ?_;obtain⟨g,l,b⟩:=bI b;refine M.f (aQ Tryz.call35 (Oh F c _ l) (gs 5) [.g (aF c 0)] (vp 8 0) K iR)<|M.n d 1 [1,2,6] [(8,vp 8 0)]<|M.nT<|Z.seq<|Z.block<|Z.n d [1,2,6,8] [(11,vb ((f != 4)&&(f != 6)))]<|Z.j b (fun b=>?_) fun b=>?_
 ·refine Z.d d [6] [(7,J 5)] [(7,31,(aF g.aD 9))] [] [] ?_;cases b;exact Z.q d ((gr [(0,6),(9,1)])++[.z 10,.z 11]++[.g 12]++[.z 13])
 refine Z.n d [1,2,6,8] [(22,vb (decide ((len i) > 4096)))]<|Z.j b (fun b=>?_) fun b=>?_
 ·refine Z.d d [6] [(7,J 4)] [(7,31,(aF g.aD 9))] [] [] ?_;cases b;exact Z.q d ((gr [(0,6),(9,1)])++[.z 10,.z 11]++[.g 12]++[.z 13])
 refine Z.s<|M.n d 1 [1,2,6,8] [(31,vp 8 0)] ?_;obtain⟨k,m,b⟩:=bI b;refine M.f (aQ Tryz.call53 (KY F g _ m) [.g 8,.g 9,.l 10,.l 11,.g 12,.l 13,.l 14] [vp 8 0] (vb k) K (.inr ⟨trivial,trivial,trivial,trivial,trivial,trivial,trivial,trivial⟩))<|M.n d 1 [1,2,6,8] [(30,vb k)]<|M.nT<|Z.j b (fun b=>?_) fun b=>?_
 ·refine Z.d d [6] [(7,J 8)] [(7,31,(aF g.aD 9))] [] [] ?_;cases b;exact Z.q d ((gr [(0,6),(9,1)])++[.z 10,.z 11]++[.g 12]++[.z 13])
 refine Z.ak<|Z.s<|M.n d 3 [6,8] [(37,vp 8 0),(38,vi .u16 f),(39,vs 5)] ?_;obtain⟨e,p,b⟩:=bI b;refine M.f (aQ Tryz.call64 (Tf F g f i _ p) (gr [(8,7),(5,1)]) [vp 8 0,vi .u16 f,vs 5] (.u []) K iR)<|M.norm (bN:=(mI c++[.d 1 R8 i,.k 31 (aF c 0),.k 31 zM,.k 99 (hxb e 15),.d 5 dn g.aD.ay,.e,.e,.d 1 R8 g.aD.aA.Buffer,.e,.e,.d 5 dn e.aD.ay,.o 15 91 bR e.aD.aj,.o 14 93 bY e.aD.aB,.d 1 R8 e.aD.aA.Buffer,.o 2 116 dh e.aD.Out,.o 10 81 bS e.events])) K<|M.nT<|Z.d d [6] [(7,J 0)] [(7,31,(aF e.aD 15))] [] [] ?_;cases b;exact Z.q d ((gr [(0,6),(15,1)])++[.z 16,.z 17]++[.g 18]++[.z 19])
theorem XB(F:Nat)(c:bG)(f:Int)(r:Int×Int)(b:WG F c f=some r):Spec Tryz.prog 65 [vp 0 0,vi .u16 f] ([.k 99 (hxb c 1)]++mI c.aD++[.d 10 bS c.events]) (.u [.inl (cI r.1),.inl (cI r.2)]) ([.k 99 (hxb c 1)]++mI c.aD++[.d 10 bS c.events]):=by
 refine Spec.enter Tryz.func65 rfl Tryz.ntmps65 rfl rfl fun fx=>?_;refine Z.n d [0,1] []<|Z.s<|M.n d 2 [0] [(7,vp 0 0),(8,vi .u16 f)] ?_;obtain⟨e,k,b⟩:=bI b;refine M.f (aQ Tryz.call59 (Oq F c f _ k) (gs 7) [vp 0 0,vi .u16 f] (J e) K iR)<|M.n d 1 [0] [(6,J e)]<|M.nT<|Z.seq<|Z.block<|Z.n d [0,6] [(10,vb (decide (e<0)))]<|Z.j b (fun b=>?_) fun b=>?_
 ·refine Z.n d [] [(4,J 0),(5,J 6)] ?_;cases b;exact Z.q d (gs 7)
 refine Z.s ?_;obtain⟨g,l,b⟩:=bI b;refine M.pre (pX (i:=2) (iv:=e) (sz:=15) (R:=bR) (l:=c.aD.aj) K rfl l)<|M.d d 9 [6] [(14,vp 0 0),(22,.g (hx5 g 8))] [] [.el 7] [e] ?_;obtain⟨i,m,b⟩:=bI b;refine M.f (aQ Tryz.call62 (Xi F c g _ m) (gr [(0,7),(8,2)]) [vp 0 0,.g (hx5 g 8)] (vb i) K iR)<|M.n d 1 [6] [(13,vb i)]<|M.nT<|Z.j b (fun b=>?_) fun b=>?_
 ·refine Z.n d [] [(4,J 0),(5,J 9)] ?_;cases b;exact Z.q d (gs 7)
 refine Z.ak<|Z.n d [] [(4,J e),(5,J 0)] ?_;cases b;exact Z.q d (gs 7)
theorem kq65(F:Nat)(e:aS)(f:List Int)(r:aS×Int)(b:Z9 F e f=some r):Spec Tryz.prog 66 [.g (hx5 e 0),vs 2] [.d 1 (aZ 1 R8) e.Out,.d 1 R8 e.In,.d 1 R8 f] (.u [.inr (hx5 r.1 3),.inl (cI r.2)]) [.e,.e,.e,.d 1 (aZ 1 R8) r.1.Out,.d 1 R8 r.1.In]:=by
 refine Spec.enter Tryz.func66 rfl Tryz.ntmps66 rfl rfl fun fx=>?_;refine Z.s<|M.f (aR (E:=91) (hx5 e 0) K)<|M.f (eA (E:=91) d (gu (aS.mk 0 0 0 0 0 0 0 0 0 0 [] 0 [] 0 false) nl nl) K)<|M.n d 1 [1,2,4] []<|M.nT<|Z.s<|M.n d 1 [1,2,4] [(6,.g (hx5 e 0))] ?_;obtain⟨c,m,b⟩:=bI b;refine M.f (aQ Tryz.call110 (Xh F e _ m) [.g 0,.g 1] [.g (hx5 e 0)] (.g (hx5 c 5)) K iR)<|M.d d 1 [1,2,4] [] [(3,91,(hx5 c 5))] [] []<|M.nT<|Z.seq<|Z.block<|Z.n d [1,2,4] [(8,vb c.Failed)]<|Z.j b (fun b=>?_) fun b=>?_
 ·refine Z.d d [4] [(5,J 9)] [(4,91,(hx5 c 5))] [] [] ?_;cases b;exact Z.q d [.g 0,.g 1,.g 2,.z 5,.g 6]
 refine Z.n d [1,2,4] [(12,vb (decide ((len f) > c.gQ)))]<|Z.j b (fun b=>?_) fun b=>?_
 ·refine Z.d d [4] [(5,J 4)] [(4,91,(hx5 c 5))] [] [] ?_;cases b;exact Z.q d [.g 0,.g 1,.g 2,.z 5,.g 6]
 refine Z.n d [1,2,4] [(19,vb (decide ((len c.Out)≥64)))]<|Z.j b (fun b=>?_) fun b=>?_
 ·refine Z.d d [4] [(5,J 8)] [(4,91,(hx5 c 5))] [] [] ?_;cases b;exact Z.q d [.g 0,.g 1,.g 2,.z 5,.g 6]
 refine Z.ak<|Z.cut (fun a w=>∃i,qae F c i=some r∧A 34 3 fx [(2,vp 3 0),(4,vp 6 0)] [.e,.e,.e,.k 91 (hx5 ({ c with Out:=i }) 4),.o 1 26 (aZ 1 R8) i,.d 1 R8 c.In,.k 91 (gu (aS.mk 0 0 0 0 0 0 0 0 0 0 [] 0 [] 0 false) nl nl)] a w) ?_ ?_
 ·refine Z.kQ MO ([I,I,I,O,I,O,I],[I,I,I,I,I,O,I],[8]) K fun t g=>?_;refine SD.n d g [0,1,2] (bm 9 7) [2,4] [(26,vs 5),(27,vs 2)]<|SD.all1 (i:=3) K<|SW.f g 3 (bm 9 15) rfl rfl rfl (eL (sz:=1) (E:=26) (R:=(aZ 1 R8)) (bK:=24) d [[.s 2]] [f] K ⟨(bU.sl K),trivial⟩ rfl K K) ?_;obtain⟨k,p,b⟩:=bI b;refine SD.pre (pF (i:=7) (sz:=1) (E:=26) (R:=(aZ 1 R8)) (l:=[f]) K)<|SD.all1 (i:=4) K<|SW.f g 4 (bm 9 31) rfl rfl rfl (aQ Tryz.call57 (C9 F [f] _ p) [.g 7] [vs 7] (vs 8) K iR)<|SD.norm (bN:=[.d 1 (aZ 1 R8) e.Out,.d 1 R8 e.In,.d 1 R8 f,.k 91 (hx5 c 5),.k 91 (gu (aS.mk 0 0 0 0 0 0 0 0 0 0 [] 0 [] 0 false) nl nl),.o 1 26 (aZ 1 R8) c.Out,.d 1 R8 c.In,.d 1 (aZ 1 R8) [f],.d 1 R8 k]) K<|SD.all1 (i:=5) K<|SW.f g 5 (bm 9 63) rfl rfl rfl (eL (sz:=1) (E:=26) (R:=(aZ 1 R8)) (bK:=24) d [[.s 8]] [k] K ⟨(bU.sl K),trivial⟩ rfl K K) ?_;obtain⟨l,q,b⟩:=bI b;refine SD.all1 (i:=6) K<|SW.f g 6 (bm 9 127) rfl rfl rfl (bZ (i:=5) (l:=c.Out) (sz:=1) (E:=26) (R:=(aZ 1 R8)) (bK:=24) (m:=[k]) d rfl K rfl (.o 26 K) q K)<|SD.n d g [7] (bm 9 255) [2,4,31] [(32,vp 3 10)]<|SD.all1 (i:=8) K<|SW.store g d (i:=8) (q:=3) (T:=91) (cs:=(gu ({ c with Out:=l }) (.s 10) (.s 6))) (bs':=(bm 9 511)) rfl K rfl rfl K<|SD.done K fun a w h=>?_;exact⟨l,b,h.t (gr [(0,4),(10,1),(6,1),(4,1)])⟩
 rintro a w ⟨i,b,h⟩;refine h.go<|Z.d d [4] [(5,J 0)] [(6,91,(hx5 ({ c with Out:=i }) 4))] [] [] ?_;cases b;exact Z.q d [.g 0,.g 1,.g 2,.z 4,.g 5]
theorem XA(F:Nat)(e:aJ)(i:Int)(m:List Int)(r:aJ×Int)(b:WE F e i m=some r):Spec Tryz.prog 23 [.g (aF e 0),vi .u16 i,vs 5] (mI e++[.d 1 R8 m]) (.u [.inr (aF r.1 6),.inl (cI r.2)]) ([.e,.e,.e,.e,.e,.e]++mI r.1):=by
 refine Spec.enter Tryz.func23 rfl Tryz.ntmps23 rfl rfl fun fx=>?_;refine Z.s<|M.f (aR (E:=31) (aF e 0) K)<|M.f (eA (E:=31) d zM K)<|M.n d 1 [1,2,3,6] []<|M.nT<|Z.s<|M.n d 1 [1,2,6] [(12,.g (aF e 0))] ?_;obtain⟨c,q,b⟩:=bI b;refine M.f (aQ Tryz.call35 (Oh F e _ q) (gs 5) [.g (aF e 0)] (vp 8 0) K iR)<|M.n d 1 [1,2,6] [(8,vp 8 0)]<|M.nT<|Z.s<|M.n d 2 [2,6,8] [(15,vp 8 0),(16,vi .u16 i)] ?_;obtain⟨g,t,b⟩:=bI b;refine M.f (aQ Tryz.call65 (XB F c i _ t) [.g 8,.g 9,.l 10,.l 11,.g 12,.l 13,.l 14] [vp 8 0,vi .u16 i] (.u [.inl (cI g.1),.inl (cI g.2)]) K (.inr ⟨trivial,trivial,trivial,trivial,trivial,trivial,trivial,trivial⟩))<|M.n d 5 [2,6,8] [(9,J g.1),(10,J g.2)]<|M.nT<|Z.seq<|Z.n d [2,6,8,9,10] [(21,vb (g.2 != 0))]<|Z.j b (fun b=>?_) fun b=>?_
 ·refine Z.d d [6] [(7,J g.2)] [(7,31,(aF c.aD 9))] [] [] ?_;cases b;exact Z.q d ((gr [(0,6),(9,1)])++[.z 10,.z 11]++[.g 12]++[.z 13])
 refine Z.ak<|Z.s ?_;obtain⟨k,u,b⟩:=bI b;refine M.pre (fF (i:=10) (iv:=g.1) (sz:=15) (E:=91) (R:=bR) (l:=c.aD.aj) K rfl u)<|M.d d 9 [6,8,9] [(35,.g (hx5 k 16)),(36,vs 5)] [] [.el 15] [g.1] ?_;obtain⟨f,v,b⟩:=bI b;refine M.pre (fP)<|M.f (aQ Tryz.call66 (kq65 F k m _ v) [.g 16,.g 17,.g 5] [.g (hx5 k 16),vs 5] (.u [.inr (hx5 f.1 18),.inl (cI f.2)]) K iR)<|M.norm (bN:=(mI e++[.d 1 R8 m,.k 31 (aF e 0),.k 31 zM,.k 99 (hxb c 9),.d 5 dn c.aD.ay,.o 15 91 bR c.aD.aj,.o 14 93 bY c.aD.aB,.d 1 R8 c.aD.aA.Buffer,.o 2 116 dh c.aD.Out,.o 10 81 bS c.events,.e,.d 1 (aZ 1 R8) k.Out,.d 1 R8 k.In,.d 1 (aZ 1 R8) f.1.Out,.d 1 R8 f.1.In])) K<|M.n d 3 [6,8,9] [(38,.g (hx5 f.1 18)),(39,J f.2)]<|M.f (eA (E:=91) d (gu (aS.mk 0 0 0 0 0 0 0 0 0 0 [] 0 [] 0 false) nl nl) K)<|M.d d 2 [6,8,9,11] [(10,J f.2)] [(20,91,(hx5 f.1 18))] [] []<|M.nT<|Z.seq<|Z.n d [6,8,9,10,11] [(41,vb (f.2 != 0))]<|Z.j b (fun b=>?_) fun b=>?_
 ·refine Z.d d [6] [(7,J f.2)] [(7,31,(aF c.aD 9))] [] [] ?_;cases b;exact Z.q d ((gr [(0,6),(9,1)])++[.z 10,.z 11]++[.g 12]++[.z 13])
 refine Z.ak<|Z.cut (fun a w=>∃l,qc1 F c l=some r∧A 59 6 fx [(6,vp 6 0),(8,vp 7 0)] [.e,.e,.e,.e,.e,.e,.k 31 zM,.k 99 (hxb ({ c with aD:={ c.aD with aj:=l } }) 8),.d 5 dn c.aD.ay,.o 15 91 bR l,.o 14 93 bY c.aD.aB,.d 1 R8 c.aD.aA.Buffer,.o 2 116 dh c.aD.Out,.o 10 81 bS c.events] a w) ?_ ?_
 ·refine Z.draw MO (bm 21 2063359) K fun C p=>?_;refine SD.n d p [0,1,2,3,4,5,6] (bm 9 127) [6,8] [(51,vs 10),(52,J g.1),(53,.g (hx5 f.1 18))] ?_;obtain⟨D,y,b⟩:=bI b;refine SD.all1 (i:=7) K<|SW.f p 7 (bm 9 255) rfl rfl rfl (nO (sz:=15) (E:=91) (R:=bR) (bK:=136) (l:=c.aD.aj) d rfl rfl rfl y K) ?_;obtain⟨z,B,b⟩:=bI b;refine SD.all1 (i:=8) K<|SW.Jb p (i:=8) (bs':=(bm 9 511)) rfl (zR (sz:=15) (E:=91) (R:=bR) (i:=10) (iv:=g.1) (l:=c.aD.aj) (e:=f.1) d rfl rfl rfl rfl (vg (x:=f.1) (bU.sl K) (bU.sl K)) K K B) rfl K<|SD.done K fun a w h=>?_;exact⟨z,b,h.t (gr [(0,6),(7,8)])⟩
 rintro a w ⟨l,b,h⟩;refine h.go<|Z.d d [6] [(7,J 0)] [(6,31,(aF ({ c.aD with aj:=l }) 8))] [] [] ?_;cases b;exact Z.q d ((gr [(0,6),(8,1)])++[.z 9,.z 10]++[.g 11]++[.z 12])
theorem SS(F:Nat)(m:List Int)(p:List Int)(r:Bool)(b:qk F m p=some r):Spec Tryz.prog 24 [vs 0,vs 1] [.d 1 R8 m,.d 1 R8 p] (vb r) [.e,.e]:=by
 refine Spec.enter Tryz.func24 rfl Tryz.ntmps24 rfl rfl fun fx=>?_;refine Z.n d [0,1] []<|Z.s<|M.n d 1 [1] [(5,vs 0)]<|M.f (Qo (l:=m) d rfl (.r K) K)<|M.n d 1 [6] [(7,vs 1)]<|M.f (Qo (l:=p) d rfl (.r K) K)<|M.n d 2 [] [(4,vb ((str m) == (str p)))]<|M.nT ?_;cases b;exact Z.q d [.g 0,.g 1]
def Y8a(c:aJ×Int)(k:aJ×Int)(l:aJ×Int×Int)(e:aJ×jL×Bool)(g:aJ×List bM)(f:aJ×jL×Bool)(i:aJ×List bM):List Item:=(mI c.1++[.k 31 (aF e.1 17)]++mI k.1++[.k 31 (aF g.1 24)]++mI l.1++mI e.1++[.d 1 R8 e.2.1.Payload,.k 45 [cI e.2.1.bF,.s 22]]++mI g.1++[.d 10 bS g.2]++mI f.1++[.d 1 R8 f.2.1.Payload,.k 31 (aF f.1 30),.k 45 [cI f.2.1.bF,.s 35]]++mI i.1++[.d 10 bS i.2])
def Y8b(c:aJ×Int):List Item:=(mI c.1)
theorem Om(F:Nat)(r:Bool)(b:U5 F=some r):Spec Tryz.prog 8 [] [] (vb r) []:=by
 refine Spec.enter Tryz.func8 rfl Tryz.ntmps8 rfl rfl fun fx=>?_;refine Z.n d [] []<|Z.s ?_;obtain⟨g,H,b⟩:=bI b;refine M.f (aQ Tryz.call9 (Ti F 0 [] _ H) [.n] [J 0,vn] (.u [.inr (aF g.1 0),.inl (cI g.2)]) K iR)<|M.n d 3 [] [(21,.g (aF g.1 0)),(22,J g.2)]<|M.f (eA (E:=31) d zM K)<|M.d d 2 [1] [(2,J g.2)] [(5,31,(aF g.1 0))] [] []<|M.nT<|Z.s ?_;obtain⟨e,L,b⟩:=bI b;refine M.f (aQ Tryz.call9 (Ti F 1 [] _ L) [.n] [J 1,vn] (.u [.inr (aF e.1 6),.inl (cI e.2)]) K iR)<|M.n d 3 [1,2] [(25,.g (aF e.1 6)),(26,J e.2)]<|M.f (eA (E:=31) d zM K)<|M.d d 2 [1,2,3] [(4,J e.2)] [(11,31,(aF e.1 6))] [] []<|M.nT<|Z.s<|M.n d 1 [1,2,3,4] [(28,.g (aF g.1 0))] ?_;obtain⟨f,P,b⟩:=bI b;refine M.f (aQ Tryz.call19 (XI F g.1 128 40 30 4 _ P) (gs 5) [.g (aF g.1 0),vi .u16 128,J 40,J 30,J 4] (.u [.inr (aF f.1 12),.inl (ci .u16 f.2.1),.inl (cI f.2.2)]) K iR)<|M.norm (bN:=(Y8b g++[.k 31 (aF g.1 0)]++mI e.1++[.k 31 (aF e.1 6)]++mI f.1)) K<|M.d d 7 [1,2,3,4] [(5,vi .u16 f.2.1),(6,J f.2.2)] [(5,31,(aF f.1 12))] [] []<|M.nT<|Z.s<|M.n d 1 [1,2,3,4,5,6] [(34,.g (aF f.1 12))] ?_;obtain⟨c,Q,b⟩:=bI b;refine M.f (aQ Tryz.call20 (Td F f.1 _ Q) (gr [(12,5)]) [.g (aF f.1 12)] (.u [.inr (aF c.1 17),.inr [cI c.2.1.bF,.s 22],.inl (cb c.2.2)]) K iR)<|M.n d 4 [1,2,3,4,5,6] [(36,.g (aF c.1 17)),(37,.g [cI c.2.1.bF,.s 22]),(38,vb c.2.2)]<|M.f (eA (E:=45) d [cI 0,nl] K)<|M.d d 3 [1,2,3,4,5,6,7] [(8,vb c.2.2)] [(5,31,(aF c.1 17)),(23,45,[cI c.2.1.bF,.s 22])] [] []<|M.nT<|Z.s<|M.n d 2 [1,2,3,4,5,6,7,8] [(40,.g (aF e.1 6)),(41,.g [cI c.2.1.bF,.s 22])] ?_;obtain⟨m,R,b⟩:=bI b;refine M.f (aQ Tryz.call21 (Ta F e.1 c.2.1 _ R) (gr [(6,5),(22,1)]) [.g (aF e.1 6),.g [cI c.2.1.bF,.s 22]] (.u [.inr (aF m.1 24),.inl (.s 29)]) K iR)<|M.norm (bN:=(Y8b g++[.k 31 (aF c.1 17)]++mI e.1++[.k 31 (aF e.1 6)]++mI f.1++mI c.1++[.d 1 R8 c.2.1.Payload,.k 45 [cI c.2.1.bF,.s 22]]++mI m.1++[.d 10 bS m.2])) K<|M.d d 4 [1,2,3,4,5,6,7,8] [] [(11,31,(aF m.1 24))] [] []<|M.nT<|Z.s<|M.n d 1 [1,2,4,5,6,7,8] [(46,.g (aF m.1 24))] ?_;obtain⟨p,S,b⟩:=bI b;refine M.f (aQ Tryz.call20 (Td F m.1 _ S) (gr [(24,5)]) [.g (aF m.1 24)] (.u [.inr (aF p.1 30),.inr [cI p.2.1.bF,.s 35],.inl (cb p.2.2)]) K iR)<|M.n d 4 [1,2,4,5,6,7,8] [(48,.g (aF p.1 30)),(49,.g [cI p.2.1.bF,.s 35]),(50,vb p.2.2)]<|M.f (eA (E:=31) d zM K)<|M.f (eA (E:=45) d [cI 0,nl] K)<|M.d d 3 [1,2,4,5,6,7,8,10] [] [(36,31,(aF p.1 30)),(37,45,[cI p.2.1.bF,.s 35])] [] []<|M.nT<|Z.s<|M.n d 2 [1,2,4,5,6,7,8] [(52,.g (aF c.1 17)),(53,.g [cI p.2.1.bF,.s 35])] ?_;obtain⟨q,T,b⟩:=bI b;refine M.f (aQ Tryz.call21 (Ta F c.1 p.2.1 _ T) (gr [(17,5),(35,1)]) [.g (aF c.1 17),.g [cI p.2.1.bF,.s 35]] (.u [.inr (aF q.1 38),.inl (.s 43)]) K iR)<|M.norm (bN:=(Y8a g e f c m p q)) K<|M.n d 3 [1,2,4,5,6,7,8] [(55,.g (aF q.1 38)),(56,vs 43)]<|M.f (eA (E:=31) d zM K)<|M.d d 2 [1,2,4,5,6,7,8] [(13,vs 43)] [(44,31,(aF q.1 38))] [] []<|M.nT<|Z.s<|M.n d 1 [1,2,4,5,6,7,8,13] [(58,.g (aF c.1 17))] ?_;obtain⟨t,U,b⟩:=bI b;refine M.f (aQ Tryz.call22 (XC F c.1 5 [] _ U) ((gr [(17,5)])++[.n]) [.g (aF c.1 17),vi .u16 5,vn] (.u [.inr (aF t.1 45),.inl (cI t.2)]) K iR)<|M.n d 3 [1,2,4,5,6,7,8,13] [(60,.g (aF t.1 45)),(61,J t.2)]<|M.f (eA (E:=31) d zM K)<|M.d d 2 [1,2,4,5,6,7,8,13] [(15,J t.2)] [(50,31,(aF t.1 45))] [] []<|M.nT<|Z.s<|M.n d 1 [2,4,5,6,7,8,13,15] [(63,.g (aF c.1 17))] ?_;obtain⟨v,W,b⟩:=bI b;refine M.f (aQ Tryz.call23 (XA F c.1 64 [] _ W) ((gr [(17,5)])++[.n]) [.g (aF c.1 17),vi .u16 64,vn] (.u [.inr (aF v.1 51),.inl (cI v.2)]) K iR)<|M.norm (bN:=(Y8a g e f c m p q++[.k 31 (aF q.1 38)]++mI t.1++[.k 31 (aF t.1 45)]++mI v.1)) K<|M.n d 3 [2,4,5,6,7,8,13,15] [(65,.g (aF v.1 51)),(66,J v.2)]<|M.f (eA (E:=31) d zM K)<|M.d d 2 [2,4,5,6,7,8,13,15] [(17,J v.2)] [(56,31,(aF v.1 51))] [] []<|M.nT<|Z.seq<|Z.n d [7,13] [(97,vb ((((((((g.2 != 0)||(e.2 != 0))||(f.2.2 != 0))||(f.2.1 != 64))||(!c.2.2))||((len q.2) != 1))||(t.2 != 5))||(v.2 != 6)))]<|Z.j b (fun b=>?_) fun b=>?_
 ·refine Z.n d [] [(0,vb false)] ?_;cases b;exact Z.q d []
 refine Z.ak<|Z.s<|M.f (eL (sz:=1) (E:=5) (R:=R8) (bK:=1) d [[ci .u8 14],[ci .u8 0],[ci .u8 5],[ci .u8 0],[ci .u8 20],[ci .u8 1],[ci .u8 10],[ci .u8 0],[ci .u8 128],[ci .u8 0],[ci .u8 64],[ci .u8 0],[ci .u8 40],[ci .u8 0],[ci .u8 30],[ci .u8 0],[ci .u8 4],[ci .u8 0]] [14,0,5,0,20,1,10,0,128,0,64,0,40,0,30,0,4,0] K ⟨bU.int,⟨bU.int,⟨bU.int,⟨bU.int,⟨bU.int,⟨bU.int,⟨bU.int,⟨bU.int,⟨bU.int,⟨bU.int,⟨bU.int,⟨bU.int,⟨bU.int,⟨bU.int,⟨bU.int,⟨bU.int,⟨bU.int,⟨bU.int,trivial⟩⟩⟩⟩⟩⟩⟩⟩⟩⟩⟩⟩⟩⟩⟩⟩⟩⟩ rfl K K)<|M.n d 1 [7,13] [(18,vs 57)]<|M.nT<|Z.s<|M.n d 4 [7,13,18] [(102,vb (c.2.1.bF == 2))] ?_;obtain⟨y,hz,hpr⟩:=bI b;clear b;refine M.cutAt 5 (fun a w=>A 129 0 fx [(13,vs 0),(107,vb y)] [.d 10 bS q.2] a w) ?_ ?_
 ·have b:=hz
  rcases bB ((c.2.1.bF == 2))with u | u
  ·replace b:=dL b u;refine M.yes rfl rfl u<|M.n d 1 [13,18,102] [(103,vp 23 1)]<|M.yes rfl rfl u<|M.n d 1 [13,18,102] [(104,vs 22)]<|M.yes rfl rfl u<|M.n d 1 [13,102,104] [(105,vs 57)]<|M.yes rfl rfl u ?_;obtain⟨X,Y,b⟩:=bI b;refine M.f (aQ Tryz.call24 (SS F c.2.1.Payload [14,0,5,0,20,1,10,0,128,0,64,0,40,0,30,0,4,0] _ Y) [.g 22,.l 57] [vs 22,vs 57] (vb X) K (.inr ⟨trivial,trivial,trivial⟩))<|M.dw rfl u rfl rfl<|M.aK fun a w h=>?_;cases b;exact h.t [.g 43]
  replace b:=bX b u;refine M.no rfl rfl u rfl<|M.no rfl rfl u rfl<|M.no rfl rfl u rfl<|M.no rfl rfl u rfl<|M.cZ rfl u rfl rfl<|M.aK fun a w h=>?_;cases b;exact h.t [.g 43]
 intro a w h;have b:=hpr; clear hpr hz;refine h.jX<|M.n d 1 [13] [(108,vb y)] ?_;obtain⟨z,hz,hpr⟩:=bI b;clear b;refine M.cutAt 6 (fun a w=>A 129 0 fx [(13,vs 0),(114,vb z)] [.d 10 bS q.2] a w) ?_ ?_
 ·have b:=hz
  rcases bB (y)with i | i
  ·replace b:=dL b i;refine M.yes rfl rfl i<|M.n d 1 [13,108] [(109,vs 0)]<|M.yes rfl rfl i ?_;obtain⟨C,Bv,b⟩:=bI b;refine M.pre (pX (i:=0) (iv:=0) (sz:=10) (R:=bS) (l:=q.2) K rfl Bv)<|M.d d 1 [13,108] [(110,vp 1 0)] [] [.el 1] [0]<|M.yes rfl rfl i<|M.n d 1 [13,108] [(111,vp 1 0)]<|M.yes rfl rfl i<|M.n d 1 [13,108] [(112,J C.Kind)]<|M.yes rfl rfl i<|M.n d 1 [13,108] [(113,vb (C.Kind == 5))]<|M.dw rfl i rfl rfl<|M.aK fun a w h=>?_;cases b;exact h.t [.g 0]
  replace b:=bX b i;refine M.no rfl rfl i rfl<|M.no rfl rfl i rfl<|M.no rfl rfl i rfl<|M.no rfl rfl i rfl<|M.no rfl rfl i rfl<|M.cZ rfl i rfl rfl<|M.aK fun a w h=>?_;cases b;exact h.t [.g 0]
 intro a w h;have b:=hpr; clear hpr hz;refine h.jX<|M.n d 1 [13] [(115,vb z)] ?_;obtain⟨B,hz,hpr⟩:=bI b;clear b;refine M.cutAt 6 (fun a w=>A 129 0 fx [(13,vs 0),(121,vb B)] [.d 10 bS q.2] a w) ?_ ?_
 ·have b:=hz
  rcases bB (z)with k | k
  ·replace b:=dL b k;refine M.yes rfl rfl k<|M.n d 1 [13,115] [(116,vs 0)]<|M.yes rfl rfl k ?_;obtain⟨D,Bw,b⟩:=bI b;refine M.pre (pX (i:=0) (iv:=0) (sz:=10) (R:=bS) (l:=q.2) K rfl Bw)<|M.d d 1 [13,115] [(117,vp 1 0)] [] [.el 1] [0]<|M.yes rfl rfl k<|M.n d 1 [13,115] [(118,vp 1 1)]<|M.yes rfl rfl k<|M.n d 1 [13,115] [(119,vi .u16 D.cO)]<|M.yes rfl rfl k<|M.n d 1 [13,115] [(120,vb (D.cO == 64))]<|M.dw rfl k rfl rfl<|M.aK fun a w h=>?_;cases b;exact h.t [.g 0]
  replace b:=bX b k;refine M.no rfl rfl k rfl<|M.no rfl rfl k rfl<|M.no rfl rfl k rfl<|M.no rfl rfl k rfl<|M.no rfl rfl k rfl<|M.cZ rfl k rfl rfl<|M.aK fun a w h=>?_;cases b;exact h.t [.g 0]
 intro a w h;have b:=hpr; clear hpr hz;refine h.jX<|M.n d 1 [13] [(122,vb B)] ?_;obtain⟨E,hz,hpr⟩:=bI b;clear b;refine M.cutAt 6 (fun a w=>A 129 0 fx [(128,vb E)] [] a w) ?_ ?_
 ·have b:=hz
  rcases bB (B)with l | l
  ·replace b:=dL b l;refine M.yes rfl rfl l<|M.n d 1 [122] [(123,vs 0)]<|M.yes rfl rfl l ?_;obtain⟨G,Bx,b⟩:=bI b;refine M.pre (pX (i:=0) (iv:=0) (sz:=10) (R:=bS) (l:=q.2) K rfl Bx)<|M.d d 1 [122] [(124,vp 1 0)] [] [.el 1] [0]<|M.yes rfl rfl l<|M.n d 1 [122] [(125,vp 1 3)]<|M.yes rfl rfl l<|M.n d 1 [122] [(126,J G.Result)]<|M.yes rfl rfl l<|M.n d 1 [122] [(127,vb (G.Result == 2))]<|M.dw rfl l rfl rfl<|M.aK fun a w h=>?_;cases b;exact h.t []
  replace b:=bX b l;refine M.no rfl rfl l rfl<|M.no rfl rfl l rfl<|M.no rfl rfl l rfl<|M.no rfl rfl l rfl<|M.no rfl rfl l rfl<|M.cZ rfl l rfl rfl<|M.aK fun a w h=>?_;cases b;exact h.t []
 intro a w h;have b:=hpr; clear hpr hz;refine h.jX<|M.n d 1 [] [(0,vb E)]<|M.nT ?_;cases b;exact Z.q d []
theorem Ot(F:Nat)(c:Int)(r:Bool)(b:Qf F c=some r):Spec Tryz.prog 30 [J c] [] (vb r) []:=by
 refine Spec.enter Tryz.func30 rfl Tryz.ntmps30 rfl rfl fun fx=>?_;refine Z.n d [0] []<|Z.n d [] [(2,vb ((decide (c≥23))&&(decide (c≤4096))))] ?_;cases b;exact Z.q d []
theorem Xz(F:Nat)(c:Int)(r:Bool)(b:WB F c=some r):Spec Tryz.prog 31 [J c] [] (vb r) []:=by
 refine Spec.enter Tryz.func31 rfl Tryz.ntmps31 rfl rfl fun fx=>?_;refine Z.n d [0] []<|Z.n d [] [(2,vb ((decide (c≥0))&&(decide (c≤65535))))] ?_;cases b;exact Z.q d []
def DU(e:List dX):List Item:=[.d 5 dn e,.k 31 zM]
theorem kq66(F:Nat)(g:Int)(e:List dX)(r:aJ×Int)(b:Z8 F g e=some r):Spec Tryz.prog 10 [J g,vs 0] [.d 5 dn e] (.u [.inr (aF r.1 1),.inl (cI r.2)]) ([.e]++mI r.1):=by
 refine Spec.enter Tryz.func10 rfl Tryz.ntmps10 rfl rfl fun fx=>?_;refine Z.s<|M.f (eA (E:=31) d zM K)<|M.n d 1 [0,1,4] []<|M.nT<|Z.seq<|Z.n d [0,1,4] [(14,vb ((g != 0)&&(g != 1)))]<|Z.j b (fun b=>?_) fun b=>?_
 ·refine Z.d d [4] [(5,J 1)] [(1,31,zM)] [] [] ?_;cases b;exact Z.q d [.g 0,.n,.n,.n,.n,.n]
 refine Z.ak<|Z.seq<|Z.n d [0,1,4] [(18,vb (decide ((len e) > 64)))]<|Z.j b (fun b=>?_) fun b=>?_
 ·refine Z.d d [4] [(5,J 4)] [(1,31,zM)] [] [] ?_;cases b;exact Z.q d [.g 0,.n,.n,.n,.n,.n]
 refine Z.ak<|Z.cut (fun a w=>qaf F g e=some r∧A 80 1 fx [(0,J g),(1,vs 0),(4,vp 1 0)] (DU e) a w) ?_ ?_
 ·refine Z.n d [0,1,4] [(6,J 0)]<|Z.block ?_;obtain⟨o1,hi1,ho1⟩:=bI b;clear b;refine Z.loop (fun n a w=>∃(f:Int),iter (fun s=>PK F e s) n (f)=some o1∧A 80 1 fx [(0,J g),(1,vs 0),(4,vp 1 0),(6,J f)] (DU e) a w) F (fun a w h=>⟨0,hi1,h.t [.g 0,.g 1]⟩) ?_;rintro n1 a w ⟨f,hi1,h⟩;obtain⟨n1,q1,rfl,b,hs1⟩:=iI hi1;replace b:PK F e f=some q1:=b;clear hi1;refine h.go<|Z.seq<|Z.n d [0,1,4,6] [(23,vb (decide (f<(len e))))]<|Z.j b (fun b=>?_) fun b=>?_
  ·refine Z.ak<|Z.cut (fun a w=>qag F f=some q1∧A 80 1 fx [(0,J g),(1,vs 0),(4,vp 1 0),(6,J f)] (DU e) a w) ?_ ?_
   ·refine Z.block<|Z.s ?_;obtain⟨c,z,b⟩:=bI b;refine M.pre (pX (i:=0) (iv:=f) (sz:=5) (R:=dn) (l:=e) K rfl z)<|M.d d 4 [0,1,4,6] [(29,.g (iQ c))] [] [.el 2] [f]<|M.f (eA (E:=83) d (iQ (dX.mk 0 0 0 0 0)) K)<|M.d d 1 [0,1,4,6,7] [] [(3,83,(iQ c))] [] []<|M.nT<|Z.seq<|Z.n d [0,1,4,6,7] [(32,vb (c.bg == 0))]<|Z.j b (fun b=>?_) fun b=>?_
    ·refine Z.d d [4] [(5,J 1)] [(1,31,zM)] [] [] ?_;have ho:=dI b hs1;replace b:=ho1
     try rw[ho]at b
     cases b;exact Z.q d [.g 0,.n,.n,.n,.n,.n]
    refine Z.ak<|Z.cut (fun a w=>qah F f c=some q1∧A 80 1 fx [(0,J g),(1,vs 0),(4,vp 1 0),(6,J f),(7,vp 2 0)] (DU e++[.k 83 (iQ c)]) a w) ?_ ?_
    ·refine Z.n d [0,1,4,6,7] [(8,J 0)]<|Z.block ?_;obtain⟨o2,hi2,ho2⟩:=bI b;clear b;refine Z.loop (fun n a w=>∃(l:Int),iter (fun s=>PL F e f c s) n (l)=some o2∧A 80 1 fx [(0,J g),(1,vs 0),(4,vp 1 0),(6,J f),(7,vp 2 0),(8,J l)] (DU e++[.k 83 (iQ c)]) a w) F (fun a w h=>⟨0,hi2,h.t [.g 0,.g 1,.g 3]⟩) ?_;rintro n2 a w ⟨l,hi2,h⟩;obtain⟨n2,q2,rfl,b,hs2⟩:=iI hi2;replace b:PL F e f c l=some q2:=b;clear hi2;refine h.go<|Z.seq<|Z.n d [0,1,4,6,7,8] [(36,vb (decide (l<f)))]<|Z.j b (fun b=>?_) fun b=>?_
     ·refine Z.ak<|Z.seq<|Z.block<|Z.cut (fun a w=>∃(m:Bool),qai F l m=some q2∧A 80 1 fx [(0,J g),(1,vs 0),(4,vp 1 0),(6,J f),(7,vp 2 0),(8,J l),(46,vb m)] (DU e++[.k 83 (iQ c)]) a w) ?_ ?_
      ·obtain⟨t,B,b⟩:=bI b;refine Z.pre (pX (i:=0) (iv:=l) (sz:=5) (R:=dn) (l:=e) K rfl B)<|Z.draw MO [true,true,true,true] K fun L C=>?_;refine SD.d d C [] kE [0,1,2,3,4,5,6,7] [.el 3] [l] (bm 8 255) [0,1,4,6,7,8] [(46,vb (t.bg == c.bg))]<|SD.done K fun a w h=>?_;exact⟨(t.bg == c.bg),b,h.t (gs 3)⟩
      rintro a w ⟨m,b,h⟩;refine h.go<|Z.j b (fun b=>?_) fun b=>?_
      ·refine Z.d d [4] [(5,J 7)] [(1,31,zM)] [] [] ?_;have ho:=dI b hs2;replace b:=ho2
       try rw[ho]at b
       have ho:=dI b hs1;replace b:=ho1
       try rw[ho]at b
       cases b;exact Z.q d [.g 0,.n,.n,.n,.n,.n]
      refine Z.ak<|Z.reg<|M.n d 3 [0,1,4,6,7] [(8,J (aH (l+1)))]<|M.aK fun a w h=>?_;exact⟨n2,Nat.lt_succ_self _,aH (l+1),nI b hs2,h.t (gs 3)⟩
     refine Z.xJ rfl fun a w h=>?_;have ho:=dI b hs2;replace b:=ho2
     try rw[ho]at b
     exact⟨b,h.t (gs 3)⟩
    rintro a w ⟨b,h⟩;refine h.go<|Z.s<|M.n d 2 [0,1,4,6,7] [(49,J c.bA)] ?_;obtain⟨p,D,b⟩:=bI b;refine M.f (aQ Tryz.call30 (Ot F c.bA _ D) [] [J c.bA] (vb p) K iR)<|M.n d 2 [0,1,4,6,7] [(52,vb (!p))] ?_;obtain⟨q,hz,hpr⟩:=bI b;clear b;refine M.cutAt 5 (fun a w=>A 80 1 fx [(0,J g),(1,vs 0),(4,vp 1 0),(6,J f),(7,vp 2 0),(57,vb q)] (DU e++[.k 83 (iQ c)]) a w) ?_ ?_
    ·have b:=hz
     rcases bB ((!p))with i | i
     ·replace b:=dL b i;refine M.no rfl rfl i rfl<|M.no rfl rfl i rfl<|M.no rfl rfl i rfl<|M.no rfl rfl i rfl<|M.dw rfl i rfl rfl<|M.aK fun a w h=>?_;cases b;exact h.t (gs 3)
     replace b:=bX b i;refine M.yes rfl rfl i<|M.n d 1 [0,1,4,6,7,52] [(53,vp 2 2)]<|M.yes rfl rfl i<|M.n d 1 [0,1,4,6,7,52,53] [(54,J c.bC)]<|M.yes rfl rfl i ?_;obtain⟨u,E,b⟩:=bI b;refine M.f (aQ Tryz.call30 (Ot F c.bC _ E) [] [J c.bC] (vb u) K iR)<|M.yes rfl rfl i<|M.n d 1 [0,1,4,6,7,52,53,54,55] [(56,vb (!u))]<|M.cZ rfl i rfl rfl<|M.aK fun a w h=>?_;cases b;exact h.t (gs 3)
    intro a w h;have b:=hpr; clear hpr hz;refine h.jX<|M.n d 1 [0,1,4,6,7] [(58,vb q)] ?_;obtain⟨v,hz,hpr⟩:=bI b;clear b;refine M.cutAt 5 (fun a w=>A 80 1 fx [(0,J g),(1,vs 0),(4,vp 1 0),(6,J f),(7,vp 2 0),(63,vb v)] (DU e++[.k 83 (iQ c)]) a w) ?_ ?_
    ·have b:=hz
     rcases bB (q)with k | k
     ·replace b:=dL b k;refine M.no rfl rfl k rfl<|M.no rfl rfl k rfl<|M.no rfl rfl k rfl<|M.no rfl rfl k rfl<|M.dw rfl k rfl rfl<|M.aK fun a w h=>?_;cases b;exact h.t (gs 3)
     replace b:=bX b k;refine M.yes rfl rfl k<|M.n d 1 [0,1,4,6,7,58] [(59,vp 2 3)]<|M.yes rfl rfl k<|M.n d 1 [0,1,4,6,7,58,59] [(60,J c.au)]<|M.yes rfl rfl k ?_;obtain⟨y,G,b⟩:=bI b;refine M.f (aQ Tryz.call31 (Xz F c.au _ G) [] [J c.au] (vb y) K iR)<|M.yes rfl rfl k<|M.n d 1 [0,1,4,6,7,58,59,60,61] [(62,vb (!y))]<|M.cZ rfl k rfl rfl<|M.aK fun a w h=>?_;cases b;exact h.t (gs 3)
    intro a w h;have b:=hpr; clear hpr hz;refine h.jX<|M.n d 10 [0,1,4,6] [(73,vb ((v||(decide (c.Level<0)))||(decide (c.Level > 2))))]<|M.nT<|Z.j b (fun b=>?_) fun b=>?_
    ·refine Z.d d [4] [(5,J 5)] [(1,31,zM)] [] [] ?_;have ho:=dI b hs1;replace b:=ho1
     try rw[ho]at b
     cases b;exact Z.q d [.g 0,.n,.n,.n,.n,.n]
    refine Z.kJ fun a w h=>?_;exact⟨b,h.t [.g 0,.g 1]⟩
   rintro a w ⟨b,h⟩;refine h.go<|Z.reg<|M.n d 3 [0,1,4] [(6,J (aH (f+1)))]<|M.aK fun a w h=>?_;exact⟨n1,Nat.lt_succ_self _,aH (f+1),nI b hs1,h.t [.g 0,.g 1]⟩
  refine Z.xJ rfl fun a w h=>?_;have ho:=dI b hs1;replace b:=ho1
  try rw[ho]at b
  exact⟨b,h.t [.g 0,.g 1]⟩
 rintro a w ⟨b,h⟩;refine h.go<|Z.s<|M.n d 1 [1,4] [(75,J g)]<|M.f (eL (sz:=5) (E:=83) (R:=dn) (bK:=40) d [] ([]:List dX) K trivial rfl K K)<|M.n d 1 [4,75,76] [(77,vs 0)] ?_;obtain⟨P,H,b⟩:=bI b;refine M.f (bZ (i:=2) (l:=([]:List dX)) (sz:=5) (E:=83) (R:=dn) (bK:=40) (m:=e) d rfl K rfl (.r K) H K)<|M.d d 3 [4] [(5,J 0)] [(1,31,[cI g,cI 0,.s 3,nl,nl,cI 1,cb false,nl,nl,cI 0,cI 27])] [] []<|M.nT ?_;cases b;exact Z.q d [.g 0,.z 3,.n,.n,.n,.n]
theorem kq67(F:Nat)(e:List (List Int))(f:List (List Int))(r:Bool)(b:Z7 F e f=some r):Spec Tryz.prog 68 [vs 0,vs 1] [.d 1 (aZ 1 R8) e,.d 1 (aZ 1 R8) f] (vb r) [.e,.e]:=by
 refine Spec.enter Tryz.func68 rfl Tryz.ntmps68 rfl rfl fun fx=>?_;refine Z.n d [0,1] []<|Z.seq<|Z.n d [0,1] [(10,vb ((len e) != (len f)))]<|Z.j b (fun b=>?_) fun b=>?_
 ·refine Z.n d [] [(4,vb false)] ?_;cases b;exact Z.q d [.g 0,.g 1]
 refine Z.ak<|Z.cut (fun a w=>qaj F=some r∧A 27 2 fx [] [.e,.e] a w) ?_ ?_
 ·refine Z.n d [0,1] [(5,J 0)]<|Z.block ?_;obtain⟨o1,hi1,ho1⟩:=bI b;clear b;refine Z.loop (fun n a w=>∃(c:Int),iter (fun s=>PI F e f s) n (c)=some o1∧A 27 2 fx [(0,vs 0),(1,vs 1),(5,J c)] [.d 1 (aZ 1 R8) e,.d 1 (aZ 1 R8) f] a w) F (fun a w h=>⟨0,hi1,h.t [.g 0,.g 1]⟩) ?_;rintro n1 a w ⟨c,hi1,h⟩;obtain⟨n1,q1,rfl,b,hs1⟩:=iI hi1;replace b:PI F e f c=some q1:=b;clear hi1;refine h.go<|Z.seq<|Z.n d [0,1,5] [(14,vb (decide (c<(len e))))]<|Z.j b (fun b=>?_) fun b=>?_
  ·refine Z.ak<|Z.seq<|Z.block<|Z.cut (fun a w=>∃(g:Bool),qak F c g=some q1∧A 27 2 fx [(0,vs 0),(1,vs 1),(5,J c),(26,vb g)] [.d 1 (aZ 1 R8) e,.d 1 (aZ 1 R8) f] a w) ?_ ?_
   ·obtain⟨l,m,b⟩:=bI b;obtain⟨p,q,b⟩:=bI b;refine Z.pre (pX (i:=0) (iv:=c) (sz:=1) (R:=(aZ 1 R8)) (l:=e) K rfl m)<|Z.pre (pX (i:=1) (iv:=c) (sz:=1) (R:=(aZ 1 R8)) (l:=f) K rfl q)<|Z.draw MO [I,I,I,I,I,I] K fun u i=>?_;refine SD.d d i [] kE [0,1,2,3,4,5,6,7] [.el 2,.el 4] [c,c] (bm 10 255) [0,1,5] [(20,vs 3),(24,vs 5)] ?_;obtain⟨k,t,b⟩:=bI b;refine SD.all1 (i:=8) K<|SW.f i 8 (bm 10 511) rfl rfl rfl (aQ Tryz.call24 (SS F l p _ t) [.g 3,.g 5] [vs 3,vs 5] (vb k) K iR)<|SD.n d i [9] (bm 10 1023) [0,1,5] [(26,vb (!k))]<|SD.done K fun a w h=>?_;exact⟨(!k),b,h.t [.g 0,.g 1]⟩
   rintro a w ⟨g,b,h⟩;refine h.go<|Z.j b (fun b=>?_) fun b=>?_
   ·refine Z.n d [] [(4,vb false)] ?_;have ho:=dI b hs1;replace b:=ho1
    try rw[ho]at b
    cases b;exact Z.q d [.g 0,.g 1]
   refine Z.ak<|Z.reg<|M.n d 3 [0,1] [(5,J (aH (c+1)))]<|M.aK fun a w h=>?_;exact⟨n1,Nat.lt_succ_self _,aH (c+1),nI b hs1,h.t [.g 0,.g 1]⟩
  refine Z.xJ rfl fun a w h=>?_;have ho:=dI b hs1;replace b:=ho1
  try rw[ho]at b
  exact⟨b,h.t [.g 0,.g 1]⟩
 rintro a w ⟨b,h⟩;refine h.go<|Z.n d [] [(4,vb true)] ?_;cases b;exact Z.q d [.g 0,.g 1]
theorem kq68(F:Nat)(c:aS)(e:aS)(r:Bool)(b:Z6 F c e=some r):Spec Tryz.prog 32 [.g (hx5 c 0),.g (hx5 e 2)] [.d 1 (aZ 1 R8) c.Out,.d 1 R8 c.In,.d 1 (aZ 1 R8) e.Out,.d 1 R8 e.In] (vb r) [.e,.e,.e,.e]:=by
 refine Spec.enter Tryz.func32 rfl Tryz.ntmps32 rfl rfl fun fx=>?_;refine Z.s<|M.f (aR (E:=91) (hx5 c 0) K)<|M.f (aR (E:=91) (hx5 e 2) K)<|M.n d 1 [2,3] []<|M.nT<|Z.seq<|Z.n d [2,3] [(51,vb (((((((c.Local != e.Local)||(c.Remote != e.Remote))||(c.bg != e.bg))||(c.bA != e.bA))||(c.bC != e.bC))||(c.gQ != e.gQ))||(c.bf != e.bf)))]<|Z.j b (fun b=>?_) fun b=>?_
 ·refine Z.n d [] [(4,vb false)] ?_;cases b;exact Z.q d (gs 4)
 refine Z.ak<|Z.seq<|Z.n d [2,3] [(91,vb ((((((c.aG != e.aG)||(c.aC != e.aC))||(c.Given != e.Given))||(c.aN != e.aN))||(c.Want != e.Want))||(c.Failed != e.Failed)))]<|Z.j b (fun b=>?_) fun b=>?_
 ·refine Z.n d [] [(4,vb false)] ?_;cases b;exact Z.q d (gs 4)
 refine Z.ak<|Z.s<|M.n d 4 [2,3] [(93,vs 0),(95,vs 2)] ?_;obtain⟨g,k,b⟩:=bI b;refine M.f (aQ Tryz.call68 (kq67 F c.Out e.Out _ k) [.g 0,.g 2] [vs 0,vs 2] (vb g) K iR)<|M.n d 1 [2,3] [(97,vb g)] ?_;obtain⟨i,hz,hpr⟩:=bI b;clear b;refine M.cutAt 6 (fun a w=>A 104 4 fx [(103,vb i)] [.e,.e,.e,.e] a w) ?_ ?_
 ·have b:=hz
  rcases bB (g)with f | f
  ·replace b:=dL b f;refine M.yes rfl rfl f<|M.n d 1 [3,97] [(98,vp 4 12)]<|M.yes rfl rfl f<|M.n d 1 [3,97] [(99,vs 1)]<|M.yes rfl rfl f<|M.n d 1 [97,99] [(100,vp 5 12)]<|M.yes rfl rfl f<|M.n d 1 [97,99] [(101,vs 3)]<|M.yes rfl rfl f ?_;obtain⟨l,m,b⟩:=bI b;refine M.f (aQ Tryz.call24 (SS F c.In e.In _ m) [.g 1,.g 3] [vs 1,vs 3] (vb l) K iR)<|M.dw rfl f rfl rfl<|M.aK fun a w h=>?_;cases b;exact h.t (gs 4)
  replace b:=bX b f;refine M.no rfl rfl f rfl<|M.no rfl rfl f rfl<|M.no rfl rfl f rfl<|M.no rfl rfl f rfl<|M.no rfl rfl f rfl<|M.cZ rfl f rfl rfl<|M.aK fun a w h=>?_;cases b;exact h.t (gs 4)
 intro a w h;have b:=hpr; clear hpr hz;refine h.jX<|M.n d 1 [] [(4,vb i)]<|M.nT ?_;cases b;exact Z.q d (gs 4)
theorem kq69(F:Nat)(e:gV)(f:gV)(r:Bool)(b:Z5 F e f=some r):Spec Tryz.prog 33 [.g [cb e.On,.s 0],.g [cb f.On,.s 1]] [.d 1 R8 e.Buffer,.d 1 R8 f.Buffer] (vb r) [.e,.e]:=by
 refine Spec.enter Tryz.func33 rfl Tryz.ntmps33 rfl rfl fun fx=>?_;refine Z.s<|M.f (aR (E:=28) [cb e.On,.s 0] K)<|M.f (aR (E:=28) [cb f.On,.s 1] K)<|M.n d 1 [2,3] []<|M.nT<|Z.s<|M.n d 6 [2,3] [(10,vb (e.On == f.On))] ?_;obtain⟨g,hz,hpr⟩:=bI b;clear b;refine M.cutAt 6 (fun a w=>A 17 2 fx [(16,vb g)] [.e,.e] a w) ?_ ?_
 ·have b:=hz
  rcases bB ((e.On == f.On))with c | c
  ·replace b:=dL b c;refine M.yes rfl rfl c<|M.n d 1 [3,10] [(11,vp 2 1)]<|M.yes rfl rfl c<|M.n d 1 [3,10] [(12,vs 0)]<|M.yes rfl rfl c<|M.n d 1 [10,12] [(13,vp 3 1)]<|M.yes rfl rfl c<|M.n d 1 [10,12] [(14,vs 1)]<|M.yes rfl rfl c ?_;obtain⟨i,k,b⟩:=bI b;refine M.f (aQ Tryz.call24 (SS F e.Buffer f.Buffer _ k) [.g 0,.g 1] [vs 0,vs 1] (vb i) K iR)<|M.dw rfl c rfl rfl<|M.aK fun a w h=>?_;cases b;exact h.t [.g 0,.g 1]
  replace b:=bX b c;refine M.no rfl rfl c rfl<|M.no rfl rfl c rfl<|M.no rfl rfl c rfl<|M.no rfl rfl c rfl<|M.no rfl rfl c rfl<|M.cZ rfl c rfl rfl<|M.aK fun a w h=>?_;cases b;exact h.t [.g 0,.g 1]
 intro a w h;have b:=hpr; clear hpr hz;refine h.jX<|M.n d 1 [] [(4,vb g)]<|M.nT ?_;cases b;exact Z.q d [.g 0,.g 1]
theorem kq6a(F:Nat)(e:List eU)(f:List eU)(r:Bool)(b:Z4 F e f=some r):Spec Tryz.prog 34 [vs 0,vs 1] [.d 2 dh e,.d 2 dh f] (vb r) [.e,.e]:=by
 refine Spec.enter Tryz.func34 rfl Tryz.ntmps34 rfl rfl fun fx=>?_;refine Z.n d [0,1] []<|Z.seq<|Z.n d [0,1] [(10,vb ((len e) != (len f)))]<|Z.j b (fun b=>?_) fun b=>?_
 ·refine Z.n d [] [(4,vb false)] ?_;cases b;exact Z.q d [.g 0,.g 1]
 refine Z.ak<|Z.cut (fun a w=>qc2 F=some r∧A 42 2 fx [] [.e,.e] a w) ?_ ?_
 ·refine Z.n d [0,1] [(5,J 0)]<|Z.block ?_;obtain⟨o1,hi1,ho1⟩:=bI b;clear b;refine Z.loop (fun n a w=>∃(c:Int),iter (fun s=>PG F e f s) n (c)=some o1∧A 42 2 fx [(0,vs 0),(1,vs 1),(5,J c)] [.d 2 dh e,.d 2 dh f] a w) F (fun a w h=>⟨0,hi1,h.t [.g 0,.g 1]⟩) ?_;rintro n1 a w ⟨c,hi1,h⟩;obtain⟨n1,q1,rfl,b,hs1⟩:=iI hi1;replace b:PG F e f c=some q1:=b;clear hi1;refine h.go<|Z.seq<|Z.n d [0,1,5] [(14,vb (decide (c<(len e))))]<|Z.j b (fun b=>?_) fun b=>?_
  ·refine Z.ak<|Z.seq<|Z.block<|Z.cut (fun a w=>∃(l:Bool),Zb F c l=some q1∧A 42 2 fx [(0,vs 0),(1,vs 1),(5,J c),(41,vb l)] [.d 2 dh e,.d 2 dh f] a w) ?_ ?_
   ·obtain⟨m,q,b⟩:=bI b;obtain⟨p,t,b⟩:=bI b;refine Z.pre (pX (i:=0) (iv:=c) (sz:=2) (R:=dh) (l:=e) K rfl q)<|Z.pre (pX (i:=1) (iv:=c) (sz:=2) (R:=dh) (l:=f) K rfl t)<|Z.draw MO [I,I,I,I,I,I] K fun v i=>?_;refine SD.d d i [] kE [0,1,2,3,4,5,6,7,8,9,10,11] [.el 2,.el 4] [c,c] (bm 25 4095) [0,1,5] [(28,vb (m.cO != p.cO))] ?_
    rcases bB ((m.cO != p.cO))with g | g
    ·replace b:=dL b g;refine SD.d d i [(28,true)] (yJ rfl g kE) [12,13,14,15,16,17,18,19,20,21,22,23,24] [] [] (bm 25 33554431) [0,1,5] [(29,.u []),(30,.u []),(31,.u []),(32,.u []),(33,.u []),(34,.u []),(35,.u []),(36,.u []),(37,.u []),(38,.u []),(39,.u []),(40,.u []),(41,vb true)]<|SD.done K fun a w h=>?_;exact⟨true,b,h.t [.g 0,.g 1]⟩
    replace b:=bX b g;refine SD.d d i [(28,false)] (yJ rfl g kE) [12,13,14,15,16,17,18,19,20,21] [.el 2,.el 4] [c,c] (bm 25 4194303) [0,1,5,28] [(29,vs 0),(30,J c),(31,vp 2 0),(32,vp 2 1),(33,vs 3),(34,vs 1),(35,J c),(36,vp 4 0),(37,vp 4 1),(38,vs 5)] ?_;obtain⟨k,u,b⟩:=bI b;refine SD.all1 (i:=22) K<|SW.u6 i (i:=22) (bs':=(bm 25 8388607)) rfl (.inr ⟨_,_,_,_,rfl,rfl,rfl,g⟩) rfl (aQ Tryz.call24 (SS F m.Payload p.Payload _ u) [.g 3,.g 5] [vs 3,vs 5] (vb k) K iR) K rfl K<|SD.d d i [(28,false)] (yJ rfl g kE) [23,24] [] [] (bm 25 33554431) [0,1,5,29,30,31,32,33,34,35,36,37,38,39] [(40,vb (!k)),(41,vb (!k))]<|SD.done K fun a w h=>?_;exact⟨(!k),b,h.t [.g 0,.g 1]⟩
   rintro a w ⟨l,b,h⟩;refine h.go<|Z.j b (fun b=>?_) fun b=>?_
   ·refine Z.n d [] [(4,vb false)] ?_;have ho:=dI b hs1;replace b:=ho1
    try rw[ho]at b
    cases b;exact Z.q d [.g 0,.g 1]
   refine Z.ak<|Z.reg<|M.n d 3 [0,1] [(5,J (aH (c+1)))]<|M.aK fun a w h=>?_;exact⟨n1,Nat.lt_succ_self _,aH (c+1),nI b hs1,h.t [.g 0,.g 1]⟩
  refine Z.xJ rfl fun a w h=>?_;have ho:=dI b hs1;replace b:=ho1
  try rw[ho]at b
  exact⟨b,h.t [.g 0,.g 1]⟩
 rintro a w ⟨b,h⟩;refine h.go<|Z.n d [] [(4,vb true)] ?_;cases b;exact Z.q d [.g 0,.g 1]
def BH(e:aJ)(f:aJ):List Item:=(mI e++mI f++[.k 31 (aF e 0),.k 31 (aF f 5)])
theorem Xy(F:Nat)(c:aJ)(g:aJ)(r:Bool)(b:Wz F c g=some r):Spec Tryz.prog 11 [.g (aF c 0),.g (aF g 5)] (mI c++mI g) (vb r) [.e,.e,.e,.e,.e,.e,.e,.e,.e,.e]:=by
 refine Spec.enter Tryz.func11 rfl Tryz.ntmps11 rfl rfl fun fx=>?_;refine Z.s<|M.f (aR (E:=31) (aF c 0) K)<|M.f (aR (E:=31) (aF g 5) K)<|M.n d 1 [2,3] []<|M.nT<|Z.seq<|Z.n d [2,3] [(67,vb ((((((((c.eT != g.eT)||(c.Level != g.Level))||(c.bQ != g.bQ))||(c.aN != g.aN))||(c.Length != g.Length))||((len c.ay) != (len g.ay)))||((len c.aj) != (len g.aj)))||((len c.aB) != (len g.aB))))]<|Z.j b (fun b=>?_) fun b=>?_
 ·refine Z.n d [] [(4,vb false)] ?_;cases b;exact Z.q d (gs 10)
 refine Z.ak<|Z.cut (fun a w=>qap F c g=some r∧A 135 10 fx [(2,vp 10 0),(3,vp 11 0)] (BH c g) a w) ?_ ?_
 ·refine Z.n d [2,3] [(5,J 0)]<|Z.block ?_;obtain⟨o3,hi3,ho3⟩:=bI b;clear b;refine Z.loop (fun n a w=>∃(m:Int),iter (fun s=>q3z F c g s) n (m)=some o3∧A 135 10 fx [(2,vp 10 0),(3,vp 11 0),(5,J m)] (BH c g) a w) F (fun a w h=>⟨0,hi3,h.t (gs 12)⟩) ?_;rintro n3 a w ⟨m,hi3,h⟩;obtain⟨n3,q3,rfl,b,hs3⟩:=iI hi3;replace b:q3z F c g m=some q3:=b;clear hi3;refine h.go<|Z.seq<|Z.n d [2,3,5] [(72,vb (decide (m<(len c.ay))))]<|Z.j b (fun b=>?_) fun b=>?_
  ·refine Z.ak<|Z.seq<|Z.block<|Z.cut (fun a w=>∃(t:Bool),qaq F m t=some q3∧A 135 10 fx [(2,vp 10 0),(3,vp 11 0),(5,J m),(85,vb t)] (BH c g) a w) ?_ ?_
   ·obtain⟨i,L,b⟩:=bI b;obtain⟨k,P,b⟩:=bI b;refine Z.pre (pX (i:=0) (iv:=m) (sz:=5) (R:=dn) (l:=c.ay) K rfl L)<|Z.pre (pX (i:=5) (iv:=m) (sz:=5) (R:=dn) (l:=g.ay) K rfl P)<|Z.draw MO (bm 14 16383) K fun Bv E=>?_;refine SD.d d E [] kE [0,1,2,3,4,5,6,7,8,9] [.el 12,.el 13] [m,m] (bm 11 1023) [2,3,5] [(79,.g (iQ i)),(84,.g (iQ k))]<|SD.all1 (i:=10) K<|SW.f E 10 (bm 11 2047) rfl rfl rfl (Dx d (cs:=(iQ i)) (ds:=(iQ k)) [(i.bg == k.bg),(i.bA == k.bA),(i.bC == k.bC),(i.au == k.au),(i.Level == k.Level)] (!((i.bg == k.bg)&&((i.bA == k.bA)&&((i.bC == k.bC)&&((i.au == k.au)&&(i.Level == k.Level)))))) rfl rfl K K K (.inr ⟨rfl,K⟩))<|SD.done K fun a w h=>?_;exact⟨(!((i.bg == k.bg)&&((i.bA == k.bA)&&((i.bC == k.bC)&&((i.au == k.au)&&(i.Level == k.Level)))))),b,h.t (gs 12)⟩
   rintro a w ⟨t,b,h⟩;refine h.go<|Z.j b (fun b=>?_) fun b=>?_
   ·refine Z.n d [] [(4,vb false)] ?_;have ho:=dI b hs3;replace b:=ho3
    try rw[ho]at b
    cases b;exact Z.q d (gs 10)
   refine Z.ak<|Z.reg<|M.n d 3 [2,3] [(5,J (aH (m+1)))]<|M.aK fun a w h=>?_;exact⟨n3,Nat.lt_succ_self _,aH (m+1),nI b hs3,h.t (gs 12)⟩
  refine Z.xJ rfl fun a w h=>?_;have ho:=dI b hs3;replace b:=ho3
  try rw[ho]at b
  exact⟨b,h.t (gs 12)⟩
 rintro a w ⟨b,h⟩;refine h.go<|Z.cut (fun a w=>qan F c g=some r∧A 135 10 fx [(2,vp 10 0),(3,vp 11 0)] (BH c g) a w) ?_ ?_
 ·refine Z.n d [2,3] [(6,J 0)]<|Z.block ?_;obtain⟨o2,hi2,ho2⟩:=bI b;clear b;refine Z.loop (fun n a w=>∃(p:Int),iter (fun s=>PD F c g s) n (p)=some o2∧A 135 10 fx [(2,vp 10 0),(3,vp 11 0),(6,J p)] (BH c g) a w) F (fun a w h=>⟨0,hi2,h.t (gs 12)⟩) ?_;rintro n2 a w ⟨p,hi2,h⟩;obtain⟨n2,q2,rfl,b,hs2⟩:=iI hi2;replace b:PD F c g p=some q2:=b;clear hi2;refine h.go<|Z.seq<|Z.n d [2,3,6] [(90,vb (decide (p<(len c.aj))))]<|Z.j b (fun b=>?_) fun b=>?_
  ·refine Z.ak<|Z.seq<|Z.block<|Z.cut (fun a w=>∃(u:Bool),qao F p u=some q2∧A 135 10 fx [(2,vp 10 0),(3,vp 11 0),(6,J p),(104,vb u)] (BH c g) a w) ?_ ?_
   ·obtain⟨v,Q,b⟩:=bI b;obtain⟨y,R,b⟩:=bI b;refine Z.pre (pX (i:=1) (iv:=p) (sz:=15) (R:=bR) (l:=c.aj) K rfl Q)<|Z.pre (pX (i:=6) (iv:=p) (sz:=15) (R:=bR) (l:=g.aj) K rfl R)<|Z.draw MO (bm 18 262143) K fun Bw z=>?_;refine SD.d d z [] kE [0,1,2,3,4,5,6,7,8,9] [.el 12,.el 15] [p,p] (bm 12 1023) [2,3,6] [(97,.g (hx5 v 13)),(102,.g (hx5 y 16))] ?_;obtain⟨B,S,b⟩:=bI b;refine SD.all1 (i:=10) K<|SW.f z 10 (bm 12 2047) rfl rfl rfl (aQ Tryz.call32 (kq68 F v y _ S) [.g 13,.g 14,.g 16,.g 17] [.g (hx5 v 13),.g (hx5 y 16)] (vb B) K iR)<|SD.n d z [11] (bm 12 4095) [2,3,6] [(104,vb (!B))]<|SD.done K fun a w h=>?_;exact⟨(!B),b,h.t (gs 12)⟩
   rintro a w ⟨u,b,h⟩;refine h.go<|Z.j b (fun b=>?_) fun b=>?_
   ·refine Z.n d [] [(4,vb false)] ?_;have ho:=dI b hs2;replace b:=ho2
    try rw[ho]at b
    cases b;exact Z.q d (gs 10)
   refine Z.ak<|Z.reg<|M.n d 3 [2,3] [(6,J (aH (p+1)))]<|M.aK fun a w h=>?_;exact⟨n2,Nat.lt_succ_self _,aH (p+1),nI b hs2,h.t (gs 12)⟩
  refine Z.xJ rfl fun a w h=>?_;have ho:=dI b hs2;replace b:=ho2
  try rw[ho]at b
  exact⟨b,h.t (gs 12)⟩
 rintro a w ⟨b,h⟩;refine h.go<|Z.cut (fun a w=>qal F c g=some r∧A 135 10 fx [(2,vp 10 0),(3,vp 11 0)] (BH c g) a w) ?_ ?_
 ·refine Z.n d [2,3] [(7,J 0)]<|Z.block ?_;obtain⟨o1,hi1,ho1⟩:=bI b;clear b;refine Z.loop (fun n a w=>∃(q:Int),iter (fun s=>PE F c g s) n (q)=some o1∧A 135 10 fx [(2,vp 10 0),(3,vp 11 0),(7,J q)] (BH c g) a w) F (fun a w h=>⟨0,hi1,h.t (gs 12)⟩) ?_;rintro n1 a w ⟨q,hi1,h⟩;obtain⟨n1,q1,rfl,b,hs1⟩:=iI hi1;replace b:PE F c g q=some q1:=b;clear hi1;refine h.go<|Z.seq<|Z.n d [2,3,7] [(109,vb (decide (q<(len c.aB))))]<|Z.j b (fun b=>?_) fun b=>?_
  ·refine Z.ak<|Z.seq<|Z.block<|Z.cut (fun a w=>∃(C:Bool),qam F q C=some q1∧A 135 10 fx [(2,vp 10 0),(3,vp 11 0),(7,J q),(122,vb C)] (BH c g) a w) ?_ ?_
   ·obtain⟨e,T,b⟩:=bI b;obtain⟨f,U,b⟩:=bI b;refine Z.pre (pX (i:=2) (iv:=q) (sz:=14) (R:=bY) (l:=c.aB) K rfl T)<|Z.pre (pX (i:=7) (iv:=q) (sz:=14) (R:=bY) (l:=g.aB) K rfl U)<|Z.draw MO (bm 14 16383) K fun Bx G=>?_;refine SD.d d G [] kE [0,1,2,3,4,5,6,7,8,9] [.el 12,.el 13] [q,q] (bm 11 1023) [2,3,7] [(116,.g (aM e)),(121,.g (aM f))]<|SD.all1 (i:=10) K<|SW.f G 10 (bm 11 2047) rfl rfl rfl (Dx d (cs:=(aM e)) (ds:=(aM f)) [(e.Kind == f.Kind),(e.ID == f.ID),(e.bg == f.bg),(e.Source == f.Source),(e.aT == f.aT),(e.bA == f.bA),(e.bC == f.bC),(e.au == f.au),(e.Result == f.Result),(e.Update.aU == f.Update.aU),(e.Update.aL == f.Update.aL),(e.Update.Interval == f.Update.Interval),(e.Update.aV == f.Update.aV),(e.Update.Timeout == f.Update.Timeout)] (!((e.Kind == f.Kind)&&((e.ID == f.ID)&&((e.bg == f.bg)&&((e.Source == f.Source)&&((e.aT == f.aT)&&((e.bA == f.bA)&&((e.bC == f.bC)&&((e.au == f.au)&&((e.Result == f.Result)&&((e.Update.aU == f.Update.aU)&&((e.Update.aL == f.Update.aL)&&((e.Update.Interval == f.Update.Interval)&&((e.Update.aV == f.Update.aV)&&(e.Update.Timeout == f.Update.Timeout))))))))))))))) rfl rfl K K K (.inr ⟨rfl,K⟩))<|SD.done K fun a w h=>?_;exact⟨(!((e.Kind == f.Kind)&&((e.ID == f.ID)&&((e.bg == f.bg)&&((e.Source == f.Source)&&((e.aT == f.aT)&&((e.bA == f.bA)&&((e.bC == f.bC)&&((e.au == f.au)&&((e.Result == f.Result)&&((e.Update.aU == f.Update.aU)&&((e.Update.aL == f.Update.aL)&&((e.Update.Interval == f.Update.Interval)&&((e.Update.aV == f.Update.aV)&&(e.Update.Timeout == f.Update.Timeout))))))))))))))),b,h.t (gs 12)⟩
   rintro a w ⟨C,b,h⟩;refine h.go<|Z.j b (fun b=>?_) fun b=>?_
   ·refine Z.n d [] [(4,vb false)] ?_;have ho:=dI b hs1;replace b:=ho1
    try rw[ho]at b
    cases b;exact Z.q d (gs 10)
   refine Z.ak<|Z.reg<|M.n d 3 [2,3] [(7,J (aH (q+1)))]<|M.aK fun a w h=>?_;exact⟨n1,Nat.lt_succ_self _,aH (q+1),nI b hs1,h.t (gs 12)⟩
  refine Z.xJ rfl fun a w h=>?_;have ho:=dI b hs1;replace b:=ho1
  try rw[ho]at b
  exact⟨b,h.t (gs 12)⟩
 rintro a w ⟨b,h⟩;refine h.go<|Z.s<|M.n d 4 [2,3] [(124,.g [cb c.aA.On,.s 3]),(126,.g [cb g.aA.On,.s 8])] ?_;obtain⟨D,W,b⟩:=bI b;refine M.f (aQ Tryz.call33 (kq69 F c.aA g.aA _ W) [.g 3,.g 8] [.g [cb c.aA.On,.s 3],.g [cb g.aA.On,.s 8]] (vb D) K iR)<|M.n d 1 [2,3] [(128,vb D)] ?_;obtain⟨H,hz,hpr⟩:=bI b;clear b;refine M.cutAt 6 (fun a w=>A 135 10 fx [(134,vb H)] [.e,.e,.e,.e,.e,.e,.e,.e,.e,.e] a w) ?_ ?_
 ·have b:=hz
  rcases bB (D)with l | l
  ·replace b:=dL b l;refine M.yes rfl rfl l<|M.n d 1 [3,128] [(129,vp 10 8)]<|M.yes rfl rfl l<|M.n d 1 [3,128] [(130,vs 4)]<|M.yes rfl rfl l<|M.n d 1 [128,130] [(131,vp 11 8)]<|M.yes rfl rfl l<|M.n d 1 [128,130] [(132,vs 9)]<|M.yes rfl rfl l ?_;obtain⟨X,Y,b⟩:=bI b;refine M.f (aQ Tryz.call34 (kq6a F c.Out g.Out _ Y) [.g 4,.g 9] [vs 4,vs 9] (vb X) K iR)<|M.dw rfl l rfl rfl<|M.aK fun a w h=>?_;cases b;exact h.t (gs 10)
  replace b:=bX b l;refine M.no rfl rfl l rfl<|M.no rfl rfl l rfl<|M.no rfl rfl l rfl<|M.no rfl rfl l rfl<|M.no rfl rfl l rfl<|M.cZ rfl l rfl rfl<|M.aK fun a w h=>?_;cases b;exact h.t (gs 10)
 intro a w h;have b:=hpr; clear hpr hz;refine h.jX<|M.n d 1 [] [(4,vb H)]<|M.nT ?_;cases b;exact Z.q d (gs 10)
theorem U9(F:Nat)(c:aJ)(f:Int)(r:Int)(b:ql F c f=some r):Spec Tryz.prog 76 [.g (aF c 0),vi .u16 f] (mI c) (J r) [.e,.e,.e,.e,.e]:=by
 refine Spec.enter Tryz.func76 rfl Tryz.ntmps76 rfl rfl fun fx=>?_;refine Z.s<|M.f (aR (E:=31) (aF c 0) K)<|M.n d 1 [1,2] []<|M.nT<|Z.cut (fun a w=>qc3 F=some r∧A 22 5 fx [] [.e,.e,.e,.e,.e] a w) ?_ ?_
 ·refine Z.n d [1,2] [(5,J 0)]<|Z.block ?_;obtain⟨o1,hi1,ho1⟩:=bI b;clear b;refine Z.loop (fun n a w=>∃(e:Int),iter (fun s=>Pz F c f s) n (e)=some o1∧A 22 5 fx [(1,vi .u16 f),(2,vp 5 0),(5,J e)] (mI c++[.k 31 (aF c 0)]) a w) F (fun a w h=>⟨0,hi1,h.t (gs 6)⟩) ?_;rintro n1 a w ⟨e,hi1,h⟩;obtain⟨n1,q1,rfl,b,hs1⟩:=iI hi1;replace b:Pz F c f e=some q1:=b;clear hi1;refine h.go<|Z.seq<|Z.n d [1,2,5] [(10,vb (decide (e<(len c.aj))))]<|Z.j b (fun b=>?_) fun b=>?_
  ·refine Z.ak<|Z.seq<|Z.block ?_;obtain⟨g,i,b⟩:=bI b;refine Z.pre (pX (i:=1) (iv:=e) (sz:=15) (R:=bR) (l:=c.aj) K rfl i)<|Z.d d [1,2,5] [(20,vb (g.Local == f))] [] [.el 6] [e]<|Z.j b (fun b=>?_) fun b=>?_
   ·refine Z.n d [] [(4,J e)] ?_;have ho:=dI b hs1;replace b:=ho1
    try rw[ho]at b
    cases b;exact Z.q d (gs 5)
   refine Z.ak<|Z.reg<|M.n d 3 [1,2] [(5,J (aH (e+1)))]<|M.aK fun a w h=>?_;exact⟨n1,Nat.lt_succ_self _,aH (e+1),nI b hs1,h.t (gs 6)⟩
  refine Z.xJ rfl fun a w h=>?_;have ho:=dI b hs1;replace b:=ho1
  try rw[ho]at b
  exact⟨b,h.t (gs 5)⟩
 rintro a w ⟨b,h⟩;refine h.go<|Z.n d [] [(4,J (-1))] ?_;cases b;exact Z.q d (gs 5)
def YE(c:aJ):List Item:=(mI c++[.k 31 (aF c 0)])
theorem Oo(F:Nat)(e:aJ)(g:Int)(i:Int)(r:Bool)(b:Sn F e g i=some r):Spec Tryz.prog 86 [.g (aF e 0),J g,vi .u16 i] (mI e) (vb r) [.e,.e,.e,.e,.e]:=by
 refine Spec.enter Tryz.func86 rfl Tryz.ntmps86 rfl rfl fun fx=>?_;refine Z.s<|M.f (aR (E:=31) (aF e 0) K)<|M.n d 1 [1,2,3] []<|M.nT<|Z.cut (fun a w=>qc4 F=some r∧A 33 5 fx [] [.e,.e,.e,.e,.e] a w) ?_ ?_
 ·refine Z.n d [1,2,3] [(7,J 0)]<|Z.block ?_;obtain⟨o1,hi1,ho1⟩:=bI b;clear b;refine Z.loop (fun n a w=>∃(f:Int),iter (fun s=>Py F e g i s) n (f)=some o1∧A 33 5 fx [(1,J g),(2,vi .u16 i),(3,vp 5 0),(7,J f)] (YE e) a w) F (fun a w h=>⟨0,hi1,h.t (gs 6)⟩) ?_;rintro n1 a w ⟨f,hi1,h⟩;obtain⟨n1,q1,rfl,b,hs1⟩:=iI hi1;replace b:Py F e g i f=some q1:=b;clear hi1;refine h.go<|Z.seq<|Z.n d [1,2,3,7] [(12,vb (decide (f<(len e.aB))))]<|Z.j b (fun b=>?_) fun b=>?_
  ·refine Z.ak<|Z.seq<|Z.block<|Z.s ?_;obtain⟨k,m,b⟩:=bI b;refine M.pre (pX (i:=2) (iv:=f) (sz:=14) (R:=bY) (l:=e.aB) K rfl m)<|M.d d 9 [1,2,3,7] [(23,vb (k.Kind == g))] [] [.el 6] [f] ?_;obtain⟨p,hz,hpr⟩:=bI b;clear b;refine M.cutAt 9 (fun a w=>A 33 5 fx [(1,J g),(2,vi .u16 i),(3,vp 5 0),(7,J f),(32,vb p)] (YE e) a w) ?_ ?_
   ·have b:=hz
    rcases bB ((k.Kind == g))with c | c
    ·replace b:=dL b c;refine M.yes rfl rfl c<|M.n d 1 [1,2,3,7,23] [(24,vp 5 4)]<|M.yes rfl rfl c<|M.n d 1 [1,2,3,7,23,24] [(25,vs 2)]<|M.yes rfl rfl c<|M.n d 1 [1,2,3,7,23,24,25] [(26,J f)]<|M.yes rfl rfl c ?_;obtain⟨l,q,b⟩:=bI b;refine M.pre (pX (i:=2) (iv:=f) (sz:=14) (R:=bY) (l:=e.aB) K rfl q)<|M.d d 1 [1,2,3,7,23,24,25,26] [(27,vp 7 0)] [] [.el 7] [f]<|M.yes rfl rfl c<|M.n d 1 [1,2,3,7,23,24,25,26,27] [(28,vp 7 3)]<|M.yes rfl rfl c<|M.n d 1 [1,2,3,7,23,24,25,26,27,28] [(29,vi .u16 l.Source)]<|M.yes rfl rfl c<|M.n d 1 [1,2,3,7,23,24,25,26,27,28,29] [(30,vi .u16 i)]<|M.yes rfl rfl c<|M.n d 1 [1,2,3,7,23,24,25,26,27,28,29,30] [(31,vb (l.Source == i))]<|M.dw rfl c rfl rfl<|M.aK fun a w h=>?_;cases b;exact h.t (gs 6)
    replace b:=bX b c;refine M.no rfl rfl c rfl<|M.no rfl rfl c rfl<|M.no rfl rfl c rfl<|M.no rfl rfl c rfl<|M.no rfl rfl c rfl<|M.no rfl rfl c rfl<|M.no rfl rfl c rfl<|M.no rfl rfl c rfl<|M.cZ rfl c rfl rfl<|M.aK fun a w h=>?_;cases b;exact h.t (gs 6)
   intro a w h;have b:=hpr; clear hpr hz;refine h.jX<|M.nT<|Z.j b (fun b=>?_) fun b=>?_
   ·refine Z.n d [] [(6,vb true)] ?_;have ho:=dI b hs1;replace b:=ho1
    try rw[ho]at b
    cases b;exact Z.q d (gs 5)
   refine Z.ak<|Z.reg<|M.n d 3 [1,2,3] [(7,J (aH (f+1)))]<|M.aK fun a w h=>?_;exact⟨n1,Nat.lt_succ_self _,aH (f+1),nI b hs1,h.t (gs 6)⟩
  refine Z.xJ rfl fun a w h=>?_;have ho:=dI b hs1;replace b:=ho1
  try rw[ho]at b
  exact⟨b,h.t (gs 5)⟩
 rintro a w ⟨b,h⟩;refine h.go<|Z.n d [] [(6,vb false)] ?_;cases b;exact Z.q d (gs 5)
theorem kq6b(F:Nat)(c:aJ)(e:Int)(r:Bool)(b:Z0 F c e=some r):Spec Tryz.prog 111 [.g (aF c 0),vi .u16 e] (mI c) (vb r) [.e,.e,.e,.e,.e]:=by
 refine Spec.enter Tryz.func111 rfl Tryz.ntmps111 rfl rfl fun fx=>?_;refine Z.s<|M.f (aR (E:=31) (aF c 0) K)<|M.n d 1 [1,2] []<|M.nT<|Z.s<|M.n d 2 [1,2] [(5,.g (aF c 0)),(6,vi .u16 e)] ?_;obtain⟨i,m,b⟩:=bI b;refine M.f (aQ Tryz.call76 (U9 F c e _ m) (gs 5) [.g (aF c 0),vi .u16 e] (J i) K iR)<|M.n d 2 [1,2] [(9,vb (decide (i≥0)))] ?_;obtain⟨k,hz,hpr⟩:=bI b;clear b;refine M.cutAt 4 (fun a w=>A 19 5 fx [(1,vi .u16 e),(2,vp 5 0),(13,vb k)] (mI c++[.k 31 (aF c 0)]) a w) ?_ ?_
 ·have b:=hz
  rcases bB (decide (i≥0))with f | f
  ·replace b:=dL b f;refine M.no rfl rfl f rfl<|M.no rfl rfl f rfl<|M.no rfl rfl f rfl<|M.dw rfl f rfl rfl<|M.aK fun a w h=>?_;cases b;exact h.t (gs 6)
  replace b:=bX b f;refine M.yes rfl rfl f<|M.n d 1 [1,2,9] [(10,.g (aF c 0))]<|M.yes rfl rfl f<|M.n d 1 [1,2,9,10] [(11,vi .u16 e)]<|M.yes rfl rfl f ?_;obtain⟨p,q,b⟩:=bI b;refine M.f (aQ Tryz.call86 (Oo F c 20 e _ q) (gs 5) [.g (aF c 0),J 20,vi .u16 e] (vb p) K iR)<|M.cZ rfl f rfl rfl<|M.aK fun a w h=>?_;cases b;exact h.t (gs 6)
 intro a w h;have b:=hpr; clear hpr hz;refine h.jX<|M.n d 1 [1,2] [(14,vb k)] ?_;obtain⟨l,hz,hpr⟩:=bI b;clear b;refine M.cutAt 4 (fun a w=>A 19 5 fx [(18,vb l)] [.e,.e,.e,.e,.e] a w) ?_ ?_
 ·have b:=hz
  rcases bB (k)with g | g
  ·replace b:=dL b g;refine M.no rfl rfl g rfl<|M.no rfl rfl g rfl<|M.no rfl rfl g rfl<|M.dw rfl g rfl rfl<|M.aK fun a w h=>?_;cases b;exact h.t (gs 5)
  replace b:=bX b g;refine M.yes rfl rfl g<|M.n d 1 [1,14] [(15,.g (aF c 0))]<|M.yes rfl rfl g<|M.n d 1 [14,15] [(16,vi .u16 e)]<|M.yes rfl rfl g ?_;obtain⟨t,u,b⟩:=bI b;refine M.f (aQ Tryz.call86 (Oo F c 6 e _ u) (gs 5) [.g (aF c 0),J 6,vi .u16 e] (vb t) K iR)<|M.cZ rfl g rfl rfl<|M.aK fun a w h=>?_;cases b;exact h.t (gs 5)
 intro a w h;have b:=hpr; clear hpr hz;refine h.jX<|M.n d 1 [] [(4,vb l)]<|M.nT ?_;cases b;exact Z.q d (gs 5)
def YG(c:aJ):List Item:=(mI c++[.k 31 (aF c 0)])
theorem Xx(F:Nat)(c:aJ)(r:Int×Bool)(b:Wy F c=some r):Spec Tryz.prog 73 [.g (aF c 0)] (mI c) (.u [.inl (ci .u16 r.1),.inl (cb r.2)]) [.e,.e,.e,.e,.e]:=by
 refine Spec.enter Tryz.func73 rfl Tryz.ntmps73 rfl rfl fun fx=>?_;refine Z.s<|M.f (aR (E:=31) (aF c 0) K)<|M.n d 2 [1] []<|M.nT<|Z.n d [1] [(4,J 0),(5,vi .u16 0)]<|Z.cut (fun a w=>∃i k,qar F i k=some r∧A 20 5 fx [(4,J i),(5,vi .u16 k)] [.e,.e,.e,.e,.e] a w) ?_ ?_
 ·refine Z.n d [1,4,5] [(6,vi .u16 127)]<|Z.block ?_;obtain⟨o1,hi1,ho1⟩:=bI b;clear b;refine Z.loop (fun n a w=>∃(f:Int) (g:Int) (e:Int),iter (fun s=>Px F c s.1 s.2.1 s.2.2) n (f,g,e)=some o1∧A 20 5 fx [(1,vp 5 0),(4,J f),(5,vi .u16 g),(6,vi .u16 e)] (YG c) a w) F (fun a w h=>⟨0,0,127,hi1,h.t (gs 6)⟩) ?_;rintro n1 a w ⟨f,g,e,hi1,h⟩;obtain⟨n1,q1,rfl,b,hs1⟩:=iI hi1;replace b:Px F c f g e=some q1:=b;clear hi1;refine h.go<|Z.seq<|Z.n d [1,4,5,6] [(8,vb (decide (e≥64)))]<|Z.j b (fun b=>?_) fun b=>?_
  ·refine Z.ak<|Z.cut (fun a w=>∃(l:Int) (m:Int),Za F e l m=some q1∧A 20 5 fx [(1,vp 5 0),(4,J l),(5,vi .u16 m),(6,vi .u16 e)] (YG c) a w) ?_ ?_
   ·refine Z.block<|Z.s<|M.n d 2 [1,4,5,6] [(11,.g (aF c 0)),(12,vi .u16 e)] ?_;obtain⟨p,q,b⟩:=bI b;refine M.f (aQ Tryz.call111 (kq6b F c e _ q) (gs 5) [.g (aF c 0),vi .u16 e] (vb p) K iR)<|M.nT<|Z.j b (fun b=>?_) fun b=>?_
    ·refine Z.reg<|M.n d 3 [1,5,6] [(4,J (aH (f+1)))]<|M.aK fun a w h=>?_;exact⟨aH (f+1),g,b,h.t (gs 6)⟩
    refine Z.reg<|M.n d 2 [1,4,6] [(5,vi .u16 e)]<|M.aK fun a w h=>?_;exact⟨f,e,b,h.t (gs 6)⟩
   rintro a w ⟨l,m,b,h⟩;refine h.go<|Z.reg<|M.n d 3 [1,4,5] [(6,vi .u16 (fB (e - 1)))]<|M.aK fun a w h=>?_;exact⟨n1,Nat.lt_succ_self _,l,m,fB (e - 1),nI b hs1,h.t (gs 6)⟩
  refine Z.xJ rfl fun a w h=>?_;have ho:=dI b hs1;replace b:=ho1
  try rw[ho]at b
  exact⟨f,g,b,h.t (gs 5)⟩
 rintro a w ⟨i,k,b,h⟩;refine h.go<|Z.n d [] [(2,vi .u16 k),(3,vb (decide (i<16)))] ?_;cases b;exact Z.q d (gs 5)
theorem Xw(F:Nat)(e:Int)(r:Int)(b:Wx F e=some r):Spec Tryz.prog 153 [J e] [] (J r) []:=by
 refine Spec.enter Tryz.func153 rfl Tryz.ntmps153 rfl rfl fun fx=>?_;refine Z.n d [0] []<|Z.seq<|Z.n d [0] [(4,vb (decide (e≥255)))]<|Z.j b (fun b=>?_) fun b=>?_
 ·refine Z.n d [] [(2,J 1)] ?_;cases b;exact Z.q d []
 refine Z.ak<|Z.n d [] [(2,J (aH (e+1)))] ?_;cases b;exact Z.q d []
def Mv(c:aJ):List Item:=(mI c++[.k 31 (aF c 0),.k 31 zM])
theorem Xv(F:Nat)(c:aJ)(r:aJ×Int)(b:Ww F c=some r):Spec Tryz.prog 112 [.g (aF c 0)] (mI c) (.u [.inr (aF r.1 5),.inl (cI r.2)]) ([.e,.e,.e,.e,.e]++mI r.1):=by
 refine Spec.enter Tryz.func112 rfl Tryz.ntmps112 rfl rfl fun fx=>?_;refine Z.s<|M.f (aR (E:=31) (aF c 0) K)<|M.f (eA (E:=31) d zM K)<|M.n d 1 [1,2] []<|M.nT<|Z.n d [1,2] [(4,J c.bQ)]<|Z.cut (fun a w=>∃g,qas F c g=some r∧A 30 5 fx [(1,vp 5 0),(2,vp 6 0),(4,J g)] (Mv c) a w) ?_ ?_
 ·refine Z.n d [1,2,4] [(5,J 0)]<|Z.block ?_;obtain⟨o1,hi1,ho1⟩:=bI b;clear b;refine Z.loop (fun n a w=>∃(e:Int) (f:Int),iter (fun s=>Jt F c s.1 s.2) n (e,f)=some o1∧A 30 5 fx [(1,vp 5 0),(2,vp 6 0),(4,J e),(5,J f)] (Mv c) a w) F (fun a w h=>⟨c.bQ,0,hi1,h.t (gs 7)⟩) ?_;rintro n1 a w ⟨e,f,hi1,h⟩;obtain⟨n1,q1,rfl,b,hs1⟩:=iI hi1;replace b:Jt F c e f=some q1:=b;clear hi1;refine h.go<|Z.seq<|Z.n d [1,2,4,5] [(12,vb (decide (f<(len c.aB))))]<|Z.j b (fun b=>?_) fun b=>?_
  ·refine Z.ak<|Z.cut (fun a w=>∃(k:Int) (i:Int),V6 F k i=some q1∧A 30 5 fx [(1,vp 5 0),(2,vp 6 0),(4,J k),(5,J i)] (Mv c) a w) ?_ ?_
   ·refine Z.block ?_;obtain⟨p,q,b⟩:=bI b;refine Z.pre (pX (i:=2) (iv:=f) (sz:=14) (R:=bY) (l:=c.aB) K rfl q)<|Z.d d [1,2,4,5] [(22,vb (p.ID == e))] [] [.el 7] [f]<|Z.j b (fun b=>?_) fun b=>?_
    ·refine Z.s<|M.n d 1 [1,2,4] [(23,J e)] ?_;obtain⟨l,t,b⟩:=bI b;refine M.f (aQ Tryz.call153 (Xw F e _ t) [] [J e] (J l) K iR)<|M.n d 1 [1,2] [(4,J l)]<|M.nT<|Z.reg<|M.n d 1 [1,2,4] [(5,J (-1))]<|M.aK fun a w h=>?_;exact⟨l,(-1),b,h.t (gs 7)⟩
    refine Z.kJ fun a w h=>?_;exact⟨e,f,b,h.t (gs 7)⟩
   rintro a w ⟨k,i,b,h⟩;refine h.go<|Z.reg<|M.n d 3 [1,2,4] [(5,J (aH (i+1)))]<|M.aK fun a w h=>?_;exact⟨n1,Nat.lt_succ_self _,k,aH (i+1),nI b hs1,h.t (gs 7)⟩
  refine Z.xJ rfl fun a w h=>?_;have ho:=dI b hs1;replace b:=ho1
  try rw[ho]at b
  exact⟨e,b,h.t (gs 7)⟩
 rintro a w ⟨g,b,h⟩;refine h.go<|Z.s<|M.n d 1 [1,2,4] [(25,J g)] ?_;obtain⟨m,u,b⟩:=bI b;refine M.f (aQ Tryz.call153 (Xw F g _ u) [] [J g] (J m) K iR)<|M.d d 2 [1,2,4] [] [(5,31,(aF ({ c with bQ:=m }) 0))] [] []<|M.nT<|Z.d d [2] [(3,J g)] [(6,31,(aF ({ c with bQ:=m }) 0))] [] [] ?_;cases b;exact Z.q d (gr [(0,5),(0,5)])
theorem U8(F:Nat)(c:Int)(r:sj)(b:qm F c=some r):Spec Tryz.prog 159 [J c] [] (.g (qH r)) []:=by
 refine Spec.enter Tryz.func159 rfl Tryz.ntmps159 rfl rfl fun fx=>?_;refine Z.s<|M.f (eA (E:=210) d [cb false,cb false,cb false,cb false,cb false,cb false,cb false,cb false] K)<|M.nT<|Z.seq<|Z.n d [2] [(3,J c)]<|Z.block<|Z.cut (fun a w=>∃e,Y8 F c e=some r∧A 25 0 fx [(2,vp 0 0),(3,J c),(4,vb e)] [.k 210 [cb false,cb false,cb false,cb false,cb false,cb false,cb false,cb false]] a w) ?_ ?_
 ·refine Z.n d [2,3] [(4,vb (c == 1))]<|Z.j b (fun b=>?_) fun b=>?_
  ·refine Z.kJ fun a w h=>?_;exact⟨(c == 1),b,h.t [.g 0]⟩
  refine Z.reg<|M.n d 2 [2,3] [(4,vb (c == 19))]<|M.aK fun a w h=>?_;exact⟨(c == 19),b,h.t [.g 0]⟩
 rintro a w ⟨e,b,h⟩;refine h.go<|Z.j b (fun b=>?_) fun b=>?_
 ·refine Z.d d [2] [] [(0,210,[cb true,cb false,cb false,cb false,cb false,cb false,cb true,cb false])] [] [] ?_;cases b;exact Z.q d []
 refine Z.cut (fun a w=>∃f,Y9 F c f=some r∧A 25 0 fx [(2,vp 0 0),(3,J c),(8,vb f)] [.k 210 [cb false,cb false,cb false,cb false,cb false,cb false,cb false,cb false]] a w) ?_ ?_
 ·refine Z.n d [2,3] [(8,vb (c == 6))]<|Z.j b (fun b=>?_) fun b=>?_
  ·refine Z.kJ fun a w h=>?_;exact⟨(c == 6),b,h.t [.g 0]⟩
  refine Z.reg<|M.n d 2 [2,3] [(8,vb (c == 7))]<|M.aK fun a w h=>?_;exact⟨(c == 7),b,h.t [.g 0]⟩
 rintro a w ⟨f,b,h⟩;refine h.go<|Z.j b (fun b=>?_) fun b=>?_
 ·refine Z.d d [2] [] [(0,210,[cb true,cb false,cb true,cb true,cb false,cb false,cb false,cb false])] [] [] ?_;cases b;exact Z.q d []
 refine Z.n d [2,3] [(12,vb (c == 18))]<|Z.j b (fun b=>?_) fun b=>?_
 ·refine Z.d d [2] [] [(0,210,[cb true,cb false,cb false,cb false,cb false,cb false,cb false,cb true])] [] [] ?_;cases b;exact Z.q d []
 refine Z.n d [2,3] [(15,vb (c == 20))]<|Z.j b (fun b=>?_) fun b=>?_
 ·refine Z.d d [2] [] [(0,210,[cb true,cb true,cb true,cb false,cb true,cb true,cb false,cb false])] [] [] ?_;cases b;exact Z.q d []
 refine Z.n d [2,3] [(18,vb (c == 21))]<|Z.j b (fun b=>?_) fun b=>?_
 ·refine Z.d d [2] [] [(0,210,[cb true,cb false,cb true,cb false,cb true,cb true,cb true,cb false])] [] [] ?_;cases b;exact Z.q d []
 refine Z.n d [2] [(21,vb (c == 22))]<|Z.j b (fun b=>?_) fun b=>?_
 ·refine Z.d d [2] [] [(0,210,[cb true,cb false,cb true,cb false,cb false,cb true,cb false,cb false])] [] [] ?_;cases b;exact Z.q d []
 refine Z.ak<|Z.d d [2] [] [(0,210,[cb false,cb false,cb false,cb false,cb false,cb false,cb false,cb false])] [] [] ?_;cases b;exact Z.q d []
theorem kq6c(F:Nat)(c:aO)(r:Bool)(b:ZY F c=some r):Spec Tryz.prog 180 [.g (aM c)] [] (vb r) []:=by
 refine Spec.enter Tryz.func180 rfl Tryz.ntmps180 rfl rfl fun fx=>?_;refine Z.s<|M.f (aR (E:=93) (aM c) K)<|M.n d 1 [1] []<|M.nT<|Z.s<|M.n d 2 [1] [(5,J c.Kind)] ?_;obtain⟨f,k,b⟩:=bI b;refine M.f (aQ Tryz.call159 (U8 F c.Kind _ k) [] [J c.Kind] (.g (qH f)) K iR)<|M.f (eA (E:=210) d [cb false,cb false,cb false,cb false,cb false,cb false,cb false,cb false] K)<|M.d d 1 [1,3] [] [(1,210,(qH f))] [] []<|M.nT<|Z.seq<|Z.n d [1,3] [(49,vb (((((!f.bg)&&(c.bg != 0))||((!f.Source)&&(c.Source != 0)))||((!f.aT)&&(c.aT != 0)))||((!f.kS)&&((c.bA != 0)||(c.bC != 0)))))]<|Z.j b (fun b=>?_) fun b=>?_
 ·refine Z.n d [] [(2,vb false)] ?_;cases b;exact Z.q d []
 refine Z.ak<|Z.s<|M.n d 17 [1,3] [(66,vb ((f.au||(c.au == 0))&&(f.Result||(c.Result == 0))))] ?_;obtain⟨i,hz,hpr⟩:=bI b;clear b;refine M.cutAt 9 (fun a w=>A 76 0 fx [(75,vb i)] [] a w) ?_ ?_
 ·have b:=hz
  rcases bB (((f.au||(c.au == 0))&&(f.Result||(c.Result == 0))))with e | e
  ·replace b:=dL b e;refine M.yes rfl rfl e<|M.n d 1 [1,66] [(67,vp 1 7)]<|M.yes rfl rfl e<|M.n d 1 [1,66] [(68,vb f.Update)]<|M.yes rfl rfl e<|M.n d 1 [1,66] [(69,vb f.Update)] ?_
   rcases bB (f.Update)with g | g
   ·replace b:=dL b g;refine M.no rfl rfl g rfl<|M.no rfl rfl g rfl<|M.no rfl rfl g rfl<|M.no rfl rfl g rfl<|M.yes rfl rfl e<|M.dw rfl g rfl rfl<|M.dw rfl e rfl rfl<|M.aK fun a w h=>?_;cases b;exact h.t []
   replace b:=bX b g;refine M.yes rfl rfl g<|M.n d 1 [66,69] [(70,vp 0 9)]<|M.yes rfl rfl g<|M.n d 1 [66,69] [(71,.g (jK c.Update))]<|M.yes rfl rfl g<|M.n d 1 [66,69,71] [(72,.g (jK zU))]<|M.yes rfl rfl g<|M.f (Dx d (cs:=(jK c.Update)) (ds:=(jK zU)) [(c.Update.aU == 0),(c.Update.aL == 0),(c.Update.Interval == 0),(c.Update.aV == 0),(c.Update.Timeout == 0)] ((c.Update.aU == 0)&&((c.Update.aL == 0)&&((c.Update.Interval == 0)&&((c.Update.aV == 0)&&(c.Update.Timeout == 0))))) rfl rfl K K K (.inl ⟨rfl,K⟩))<|M.yes rfl rfl e<|M.cZ rfl g rfl rfl<|M.dw rfl e rfl rfl<|M.aK fun a w h=>?_;cases b;exact h.t []
  replace b:=bX b e;refine M.no rfl rfl e rfl<|M.no rfl rfl e rfl<|M.no rfl rfl e rfl<|M.oJ rfl rfl rfl<|M.oJ rfl rfl rfl<|M.oJ rfl rfl rfl<|M.oJ rfl rfl rfl<|M.no rfl rfl e rfl<|M.cZ rfl e rfl rfl<|M.aK fun a w h=>?_;cases b;exact h.t []
 intro a w h;have b:=hpr; clear hpr hz;refine h.jX<|M.n d 1 [] [(2,vb i)]<|M.nT ?_;cases b;exact Z.q d []
theorem kq81(F:Nat)(e:Int)(c:Int)(r:Bool)(b:q81 F e c=some r):Spec Tryz.prog 181 [J e,J c] [] (vb r) []:=by
 refine Spec.enter Tryz.func181 rfl Tryz.ntmps181 rfl rfl fun fx=>?_;refine Z.n d [0,1] []<|Z.seq<|Z.n d [1] [(5,J e)]<|Z.block<|Z.n d [1,5] [(6,vb (e == 1))]<|Z.j b (fun b=>?_) fun b=>?_
 ·refine Z.n d [] [(4,vb ((c == 0)||(c == 2)))] ?_;cases b;exact Z.q d []
 refine Z.n d [1] [(14,vb (e == 19))]<|Z.j b (fun b=>?_) fun b=>?_
 ·refine Z.n d [] [(4,vb ((c == 0)||(c == 1)))] ?_;cases b;exact Z.q d []
 refine Z.ak<|Z.n d [] [(4,vb (((((c == 0)||(c == 2))||(c == 4))||(c == 5))||(c == 9)))] ?_;cases b;exact Z.q d []
theorem Xm(F:Nat)(c:Int)(r:Bool)(b:q4t F c=some r):Spec Tryz.prog 194 [vi .u16 c] [] (vb r) []:=by
 refine Spec.enter Tryz.func194 rfl Tryz.ntmps194 rfl rfl fun fx=>?_;refine Z.n d [0] []<|Z.n d [] [(2,vb ((decide (c≥64))&&(decide (c≤127))))] ?_;cases b;exact Z.q d []
theorem Xl(F:Nat)(c:Int)(r:Bool)(b:q4u F c=some r):Spec Tryz.prog 195 [J c] [] (vb r) []:=by
 refine Spec.enter Tryz.func195 rfl Tryz.ntmps195 rfl rfl fun fx=>?_;refine Z.n d [0] []<|Z.n d [] [(2,vb ((decide (c≥23))&&(decide (c≤4096))))] ?_;cases b;exact Z.q d []
theorem kq6d(F:Nat)(c:aO)(r:Bool)(b:ZX F c=some r):Spec Tryz.prog 182 [.g (aM c)] [] (vb r) []:=by
 refine Spec.enter Tryz.func182 rfl Tryz.ntmps182 rfl rfl fun fx=>?_;refine Z.s<|M.f (aR (E:=93) (aM c) K)<|M.n d 1 [1] []<|M.nT<|Z.s<|M.n d 2 [1] [(6,J c.Kind)] ?_;obtain⟨g,B,b⟩:=bI b;refine M.f (aQ Tryz.call159 (U8 F c.Kind _ B) [] [J c.Kind] (.g (qH g)) K iR)<|M.f (eA (E:=210) d [cb false,cb false,cb false,cb false,cb false,cb false,cb false,cb false] K)<|M.d d 1 [1,3] [] [(1,210,(qH g))] [] []<|M.nT<|Z.seq<|Z.s<|M.n d 3 [1,3] [(10,vb g.Source)] ?_;obtain⟨t,hz,hpr⟩:=bI b;clear b;refine M.cutAt 5 (fun a w=>A 59 0 fx [(1,vp 0 0),(3,vp 1 0),(15,vb t)] [.k 93 (aM c),.k 210 (qH g)] a w) ?_ ?_
 ·have b:=hz
  rcases bB (g.Source)with k | k
  ·replace b:=dL b k;refine M.yes rfl rfl k<|M.n d 1 [1,3,10] [(11,vp 0 3)]<|M.yes rfl rfl k<|M.n d 1 [1,3,10] [(12,vi .u16 c.Source)]<|M.yes rfl rfl k ?_;obtain⟨v,C,b⟩:=bI b;refine M.f (aQ Tryz.call194 (Xm F c.Source _ C) [] [vi .u16 c.Source] (vb v) K iR)<|M.yes rfl rfl k<|M.n d 1 [1,3,10] [(14,vb (!v))]<|M.dw rfl k rfl rfl<|M.aK fun a w h=>?_;cases b;exact h.t [.g 0,.g 1]
  replace b:=bX b k;refine M.no rfl rfl k rfl<|M.no rfl rfl k rfl<|M.no rfl rfl k rfl<|M.no rfl rfl k rfl<|M.cZ rfl k rfl rfl<|M.aK fun a w h=>?_;cases b;exact h.t [.g 0,.g 1]
 intro a w h;have b:=hpr; clear hpr hz;refine h.jX<|M.n d 1 [1,3] [(16,vb t)] ?_;obtain⟨u,hz,hpr⟩:=bI b;clear b;refine M.cutAt 9 (fun a w=>A 59 0 fx [(1,vp 0 0),(3,vp 1 0),(25,vb u)] [.k 93 (aM c),.k 210 (qH g)] a w) ?_ ?_
 ·have b:=hz
  rcases bB (t)with i | i
  ·replace b:=dL b i;refine M.no rfl rfl i rfl<|M.no rfl rfl i rfl<|M.no rfl rfl i rfl<|M.oJ rfl rfl rfl<|M.oJ rfl rfl rfl<|M.oJ rfl rfl rfl<|M.oJ rfl rfl rfl<|M.no rfl rfl i rfl<|M.dw rfl i rfl rfl<|M.aK fun a w h=>?_;cases b;exact h.t [.g 0,.g 1]
  replace b:=bX b i;refine M.yes rfl rfl i<|M.n d 1 [1,3,16] [(17,vp 1 3)]<|M.yes rfl rfl i<|M.n d 1 [1,3,16] [(18,vb g.aT)]<|M.yes rfl rfl i<|M.n d 1 [1,3,16] [(19,vb g.aT)] ?_
  rcases bB (g.aT)with l | l
  ·replace b:=dL b l;refine M.yes rfl rfl l<|M.n d 1 [1,3,16,19] [(20,vp 0 4)]<|M.yes rfl rfl l<|M.n d 1 [1,3,16,19] [(21,vi .u16 c.aT)]<|M.yes rfl rfl l ?_;obtain⟨y,D,b⟩:=bI b;refine M.f (aQ Tryz.call194 (Xm F c.aT _ D) [] [vi .u16 c.aT] (vb y) K iR)<|M.yes rfl rfl l<|M.n d 1 [1,3,16,19] [(23,vb (!y))]<|M.yes rfl rfl i<|M.dw rfl l rfl rfl<|M.cZ rfl i rfl rfl<|M.aK fun a w h=>?_;cases b;exact h.t [.g 0,.g 1]
  replace b:=bX b l;refine M.no rfl rfl l rfl<|M.no rfl rfl l rfl<|M.no rfl rfl l rfl<|M.no rfl rfl l rfl<|M.yes rfl rfl i<|M.cZ rfl l rfl rfl<|M.cZ rfl i rfl rfl<|M.aK fun a w h=>?_;cases b;exact h.t [.g 0,.g 1]
 intro a w h;have b:=hpr; clear hpr hz;refine h.jX<|M.n d 1 [1,3] [(26,vb u)] ?_;obtain⟨E,hz,hpr⟩:=bI b;clear b;refine M.cutAt 15 (fun a w=>A 59 0 fx [(1,vp 0 0),(3,vp 1 0),(41,vb E)] [.k 93 (aM c),.k 210 (qH g)] a w) ?_ ?_
 ·have b:=hz
  rcases bB (u)with f | f
  ·replace b:=dL b f;refine M.no rfl rfl f rfl<|M.no rfl rfl f rfl<|M.no rfl rfl f rfl<|M.oJ rfl rfl rfl<|M.oJ rfl rfl rfl<|M.oJ rfl rfl rfl<|M.oJ rfl rfl rfl<|M.oJ rfl rfl rfl<|M.oJ rfl rfl rfl<|M.oJ rfl rfl rfl<|M.oJ rfl rfl rfl<|M.oJ rfl rfl rfl<|M.oJ rfl rfl rfl<|M.no rfl rfl f rfl<|M.dw rfl f rfl rfl<|M.aK fun a w h=>?_;cases b;exact h.t [.g 0,.g 1]
  replace b:=bX b f;refine M.yes rfl rfl f<|M.n d 1 [1,3,26] [(27,vp 1 4)]<|M.yes rfl rfl f<|M.n d 1 [1,3,26] [(28,vb g.kS)]<|M.yes rfl rfl f<|M.n d 1 [1,3,26] [(29,vb g.kS)] ?_
  rcases bB (g.kS)with e | e
  ·replace b:=dL b e;refine M.yes rfl rfl e<|M.n d 1 [1,3,26,29] [(30,vp 0 5)]<|M.yes rfl rfl e<|M.n d 1 [1,3,26,29] [(31,J c.bA)]<|M.yes rfl rfl e ?_;obtain⟨p,G,b⟩:=bI b;refine M.f (aQ Tryz.call195 (Xl F c.bA _ G) [] [J c.bA] (vb p) K iR)<|M.yes rfl rfl e<|M.n d 1 [1,3,26,29] [(33,vb (!p))]<|M.yes rfl rfl e<|M.n d 1 [1,3,26,29] [(34,vb (!p))] ?_
   rcases bB ((!p))with m | m
   ·replace b:=dL b m;refine M.no rfl rfl m rfl<|M.no rfl rfl m rfl<|M.no rfl rfl m rfl<|M.no rfl rfl m rfl<|M.yes rfl rfl e<|M.dw rfl m rfl rfl<|M.yes rfl rfl f<|M.dw rfl e rfl rfl<|M.cZ rfl f rfl rfl<|M.aK fun a w h=>?_;cases b;exact h.t [.g 0,.g 1]
   replace b:=bX b m;refine M.yes rfl rfl m<|M.n d 1 [1,3,26,29,34] [(35,vp 0 6)]<|M.yes rfl rfl m<|M.n d 1 [1,3,26,29,34] [(36,J c.bC)]<|M.yes rfl rfl m ?_;obtain⟨z,H,b⟩:=bI b;refine M.f (aQ Tryz.call195 (Xl F c.bC _ H) [] [J c.bC] (vb z) K iR)<|M.yes rfl rfl m<|M.n d 1 [1,3,26,29,34] [(38,vb (!z))]<|M.yes rfl rfl e<|M.cZ rfl m rfl rfl<|M.yes rfl rfl f<|M.dw rfl e rfl rfl<|M.cZ rfl f rfl rfl<|M.aK fun a w h=>?_;cases b;exact h.t [.g 0,.g 1]
  replace b:=bX b e;refine M.no rfl rfl e rfl<|M.no rfl rfl e rfl<|M.no rfl rfl e rfl<|M.no rfl rfl e rfl<|M.no rfl rfl e rfl<|M.oJ rfl rfl rfl<|M.oJ rfl rfl rfl<|M.oJ rfl rfl rfl<|M.oJ rfl rfl rfl<|M.no rfl rfl e rfl<|M.yes rfl rfl f<|M.cZ rfl e rfl rfl<|M.cZ rfl f rfl rfl<|M.aK fun a w h=>?_;cases b;exact h.t [.g 0,.g 1]
 intro a w h;have b:=hpr; clear hpr hz;refine h.jX<|M.nT<|Z.j b (fun b=>?_) fun b=>?_
 ·refine Z.n d [] [(2,vb false)] ?_;cases b;exact Z.q d []
 refine Z.ak<|Z.n d [1,3] [(4,J 0)]<|Z.cut (fun a w=>∃q,V5 F c g q=some r∧A 59 0 fx [(1,vp 0 0),(3,vp 1 0),(4,J q)] [.k 93 (aM c),.k 210 (qH g)] a w) ?_ ?_
 ·refine Z.n d [1,3,4] [(44,vb (c.Kind == 22))]<|Z.j b (fun b=>?_) fun b=>?_
  ·refine Z.reg<|M.n d 1 [1,3] [(4,J 1)]<|M.aK fun a w h=>?_;exact⟨1,b,h.t [.g 0,.g 1]⟩
  refine Z.kJ fun a w h=>?_;exact⟨0,b,h.t [.g 0,.g 1]⟩
 rintro a w ⟨q,b,h⟩;refine h.go<|Z.n d [] [(2,vb ((!g.au)||((decide (c.au≥q))&&(decide (c.au≤65535)))))] ?_;cases b;exact Z.q d []
theorem KX(F:Nat)(c:Int)(e:Int)(f:Int)(r:Bool)(b:Sq F c e f=some r):Spec Tryz.prog 115 [J c,J e,J f] [] (vb r) []:=by
 refine Spec.enter Tryz.func115 rfl Tryz.ntmps115 rfl rfl fun fx=>?_;refine Z.n d [0,1,2] []<|Z.n d [] [(6,vb ((decide (c≥e))&&(decide (c≤f))))] ?_;cases b;exact Z.q d []
theorem Xu(F:Nat)(c:fD)(r:Int)(b:Wv F c=some r):Spec Tryz.prog 85 [.g (jK c)] [] (J r) []:=by
 refine Spec.enter Tryz.func85 rfl Tryz.ntmps85 rfl rfl fun fx=>?_;refine Z.s<|M.f (aR (E:=43) (jK c) K)<|M.n d 1 [1] []<|M.nT<|Z.seq<|Z.s<|M.n d 2 [1] [(4,J c.aU)] ?_;obtain⟨k,y,b⟩:=bI b;refine M.f (aQ Tryz.call115 (KX F c.aU 1 8 _ y) [] [J c.aU,J 1,J 8] (vb k) K iR)<|M.n d 2 [1] [(7,vb (!k))] ?_;obtain⟨l,hz,hpr⟩:=bI b;clear b;refine M.cutAt 5 (fun a w=>A 57 0 fx [(1,vp 0 0),(12,vb l)] [.k 43 (jK c)] a w) ?_ ?_
 ·have b:=hz
  rcases bB ((!k))with e | e
  ·replace b:=dL b e;refine M.no rfl rfl e rfl<|M.no rfl rfl e rfl<|M.no rfl rfl e rfl<|M.no rfl rfl e rfl<|M.dw rfl e rfl rfl<|M.aK fun a w h=>?_;cases b;exact h.t [.g 0]
  replace b:=bX b e;refine M.yes rfl rfl e<|M.n d 1 [1,7] [(8,vp 0 1)]<|M.yes rfl rfl e<|M.n d 1 [1,7] [(9,J c.aL)]<|M.yes rfl rfl e ?_;obtain⟨q,z,b⟩:=bI b;refine M.f (aQ Tryz.call115 (KX F c.aL 0 3200 _ z) [] [J c.aL,J 0,J 3200] (vb q) K iR)<|M.yes rfl rfl e<|M.n d 1 [1,7] [(11,vb (!q))]<|M.cZ rfl e rfl rfl<|M.aK fun a w h=>?_;cases b;exact h.t [.g 0]
 intro a w h;have b:=hpr; clear hpr hz;refine h.jX<|M.n d 1 [1] [(13,vb l)] ?_;obtain⟨m,hz,hpr⟩:=bI b;clear b;refine M.cutAt 5 (fun a w=>A 57 0 fx [(1,vp 0 0),(18,vb m)] [.k 43 (jK c)] a w) ?_ ?_
 ·have b:=hz
  rcases bB (l)with f | f
  ·replace b:=dL b f;refine M.no rfl rfl f rfl<|M.no rfl rfl f rfl<|M.no rfl rfl f rfl<|M.no rfl rfl f rfl<|M.dw rfl f rfl rfl<|M.aK fun a w h=>?_;cases b;exact h.t [.g 0]
  replace b:=bX b f;refine M.yes rfl rfl f<|M.n d 1 [1,13] [(14,vp 0 2)]<|M.yes rfl rfl f<|M.n d 1 [1,13] [(15,J c.Interval)]<|M.yes rfl rfl f ?_;obtain⟨t,B,b⟩:=bI b;refine M.f (aQ Tryz.call115 (KX F c.Interval 6 3200 _ B) [] [J c.Interval,J 6,J 3200] (vb t) K iR)<|M.yes rfl rfl f<|M.n d 1 [1,13] [(17,vb (!t))]<|M.cZ rfl f rfl rfl<|M.aK fun a w h=>?_;cases b;exact h.t [.g 0]
 intro a w h;have b:=hpr; clear hpr hz;refine h.jX<|M.n d 1 [1] [(19,vb m)] ?_;obtain⟨p,hz,hpr⟩:=bI b;clear b;refine M.cutAt 5 (fun a w=>A 57 0 fx [(1,vp 0 0),(24,vb p)] [.k 43 (jK c)] a w) ?_ ?_
 ·have b:=hz
  rcases bB (m)with g | g
  ·replace b:=dL b g;refine M.no rfl rfl g rfl<|M.no rfl rfl g rfl<|M.no rfl rfl g rfl<|M.no rfl rfl g rfl<|M.dw rfl g rfl rfl<|M.aK fun a w h=>?_;cases b;exact h.t [.g 0]
  replace b:=bX b g;refine M.yes rfl rfl g<|M.n d 1 [1,19] [(20,vp 0 3)]<|M.yes rfl rfl g<|M.n d 1 [1,19] [(21,J c.aV)]<|M.yes rfl rfl g ?_;obtain⟨u,C,b⟩:=bI b;refine M.f (aQ Tryz.call115 (KX F c.aV 0 499 _ C) [] [J c.aV,J 0,J 499] (vb u) K iR)<|M.yes rfl rfl g<|M.n d 1 [1,19] [(23,vb (!u))]<|M.cZ rfl g rfl rfl<|M.aK fun a w h=>?_;cases b;exact h.t [.g 0]
 intro a w h;have b:=hpr; clear hpr hz;refine h.jX<|M.n d 1 [1] [(25,vb p)] ?_;obtain⟨D,hz,hpr⟩:=bI b;clear b;refine M.cutAt 5 (fun a w=>A 57 0 fx [(1,vp 0 0),(30,vb D)] [.k 43 (jK c)] a w) ?_ ?_
 ·have b:=hz
  rcases bB (p)with i | i
  ·replace b:=dL b i;refine M.no rfl rfl i rfl<|M.no rfl rfl i rfl<|M.no rfl rfl i rfl<|M.no rfl rfl i rfl<|M.dw rfl i rfl rfl<|M.aK fun a w h=>?_;cases b;exact h.t [.g 0]
  replace b:=bX b i;refine M.yes rfl rfl i<|M.n d 1 [1,25] [(26,vp 0 4)]<|M.yes rfl rfl i<|M.n d 1 [1,25] [(27,J c.Timeout)]<|M.yes rfl rfl i ?_;obtain⟨v,E,b⟩:=bI b;refine M.f (aQ Tryz.call115 (KX F c.Timeout 10 3200 _ E) [] [J c.Timeout,J 10,J 3200] (vb v) K iR)<|M.yes rfl rfl i<|M.n d 1 [1,25] [(29,vb (!v))]<|M.cZ rfl i rfl rfl<|M.aK fun a w h=>?_;cases b;exact h.t [.g 0]
 intro a w h;have b:=hpr; clear hpr hz;refine h.jX<|M.nT<|Z.j b (fun b=>?_) fun b=>?_
 ·refine Z.n d [] [(2,J 5)] ?_;cases b;exact Z.q d []
 refine Z.ak<|Z.seq<|Z.n d [] [(56,vb (((decide (c.aU≥c.Interval))||(decide (c.aL > c.Interval)))||(decide ((aH (c.Timeout * 10000))≤(aH ((aH ((aH (2 * (aH (c.aV+1)))) * c.Interval)) * 1250))))))]<|Z.j b (fun b=>?_) fun b=>?_
 ·refine Z.n d [] [(2,J 11)] ?_;cases b;exact Z.q d []
 refine Z.ak<|Z.n d [] [(2,J 0)] ?_;cases b;exact Z.q d []
theorem Xt(F:Nat)(c:aO)(r:Int)(b:Wu F c=some r):Spec Tryz.prog 155 [.g (aM c)] [] (J r) []:=by
 refine Spec.enter Tryz.func155 rfl Tryz.ntmps155 rfl rfl fun fx=>?_;refine Z.s<|M.f (aR (E:=93) (aM c) K)<|M.n d 1 [1] []<|M.nT<|Z.s<|M.n d 2 [1] [(5,J c.Kind)] ?_;obtain⟨f,m,b⟩:=bI b;refine M.f (aQ Tryz.call159 (U8 F c.Kind _ m) [] [J c.Kind] (.g (qH f)) K iR)<|M.f (eA (E:=210) d [cb false,cb false,cb false,cb false,cb false,cb false,cb false,cb false] K)<|M.d d 1 [1,3] [] [(1,210,(qH f))] [] []<|M.nT<|Z.seq<|Z.n d [1,3] [(9,vb (!f.Known))]<|Z.j b (fun b=>?_) fun b=>?_
 ·refine Z.n d [] [(2,J 12)] ?_;cases b;exact Z.q d []
 refine Z.ak<|Z.seq<|Z.n d [1,3] [(17,vb ((decide (c.ID<1))||(decide (c.ID > 255))))]<|Z.j b (fun b=>?_) fun b=>?_
 ·refine Z.n d [] [(2,J 5)] ?_;cases b;exact Z.q d []
 refine Z.ak<|Z.seq<|Z.s<|M.n d 1 [1,3] [(18,.g (aM c))] ?_;obtain⟨g,p,b⟩:=bI b;refine M.f (aQ Tryz.call180 (kq6c F c _ p) [] [.g (aM c)] (vb g) K iR)<|M.n d 1 [1,3] [(20,vb (!g))]<|M.nT<|Z.j b (fun b=>?_) fun b=>?_
 ·refine Z.n d [] [(2,J 1)] ?_;cases b;exact Z.q d []
 refine Z.ak<|Z.seq<|Z.s<|M.n d 3 [1,3] [(23,vb f.Result)] ?_;obtain⟨q,hz,hpr⟩:=bI b;clear b;refine M.cutAt 7 (fun a w=>A 72 0 fx [(1,vp 0 0),(3,vp 1 0),(30,vb q)] [.k 93 (aM c),.k 210 (qH f)] a w) ?_ ?_
 ·have b:=hz
  rcases bB (f.Result)with e | e
  ·replace b:=dL b e;refine M.yes rfl rfl e<|M.n d 1 [1,3,23] [(24,vp 0 0)]<|M.yes rfl rfl e<|M.n d 1 [1,3,23] [(25,J c.Kind)]<|M.yes rfl rfl e<|M.n d 1 [1,3,23,25] [(26,vp 0 8)]<|M.yes rfl rfl e<|M.n d 1 [1,3,23,25] [(27,J c.Result)]<|M.yes rfl rfl e ?_;obtain⟨i,t,b⟩:=bI b;refine M.f (aQ Tryz.call181 (kq81 F c.Kind c.Result _ t) [] [J c.Kind,J c.Result] (vb i) K iR)<|M.norm (bN:=[.k 93 (aM c),.k 210 (qH f)]) K<|M.yes rfl rfl e<|M.n d 1 [1,3,23] [(29,vb (!i))]<|M.dw rfl e rfl rfl<|M.aK fun a w h=>?_;cases b;exact h.t [.g 0,.g 1]
  replace b:=bX b e;refine M.no rfl rfl e rfl<|M.no rfl rfl e rfl<|M.no rfl rfl e rfl<|M.no rfl rfl e rfl<|M.no rfl rfl e rfl<|M.no rfl rfl e rfl<|M.cZ rfl e rfl rfl<|M.aK fun a w h=>?_;cases b;exact h.t [.g 0,.g 1]
 intro a w h;have b:=hpr; clear hpr hz;refine h.jX<|M.nT<|Z.j b (fun b=>?_) fun b=>?_
 ·refine Z.n d [] [(2,J 5)] ?_;cases b;exact Z.q d []
 refine Z.ak<|Z.seq<|Z.n d [1,3] [(38,vb ((c.Kind == 21)&&(c.Result != 0)))]<|Z.j b (fun b=>?_) fun b=>?_
 ·refine Z.seq<|Z.n d [] [(56,vb ((((c.Source != 0)||(c.bA != 0))||(c.bC != 0))||(c.au != 0)))]<|Z.j b (fun b=>?_) fun b=>?_
  ·refine Z.n d [] [(2,J 1)] ?_;cases b;exact Z.q d []
  refine Z.ak<|Z.n d [] [(2,J 0)] ?_;cases b;exact Z.q d []
 refine Z.ak<|Z.seq<|Z.n d [1,3] [(63,vb (f.bg&&(c.bg == 0)))]<|Z.j b (fun b=>?_) fun b=>?_
 ·refine Z.n d [] [(2,J 1)] ?_;cases b;exact Z.q d []
 refine Z.ak<|Z.seq<|Z.s<|M.n d 1 [1,3] [(64,.g (aM c))] ?_;obtain⟨k,u,b⟩:=bI b;refine M.f (aQ Tryz.call182 (kq6d F c _ u) [] [.g (aM c)] (vb k) K iR)<|M.n d 1 [1,3] [(66,vb (!k))]<|M.nT<|Z.j b (fun b=>?_) fun b=>?_
 ·refine Z.n d [] [(2,J 5)] ?_;cases b;exact Z.q d []
 refine Z.ak<|Z.seq<|Z.n d [1] [(68,vb f.Update)]<|Z.j b (fun b=>?_) fun b=>?_
 ·refine Z.s<|M.n d 2 [] [(70,.g (jK c.Update))] ?_;obtain⟨l,v,b⟩:=bI b;refine M.f (aQ Tryz.call85 (Xu F c.Update _ v) [] [.g (jK c.Update)] (J l) K iR)<|M.n d 1 [] [(2,J l)]<|M.nT ?_;cases b;exact Z.q d []
 refine Z.ak<|Z.n d [] [(2,J 0)] ?_;cases b;exact Z.q d []
theorem Fv(F:Nat)(i:Int)(f:Int)(r:List Int)(b:qb F i f=some r):Spec Tryz.prog 119 [vi .u64 i,J f] [] (vs 0) [.o 1 5 R8 r]:=by
 refine Spec.enter Tryz.func119 rfl Tryz.ntmps119 rfl rfl fun fx=>?_;refine Z.n d [0,1] []<|Z.n d [0,1] [(5,vn)]<|Z.cut (fun a w=>∃k,qat F k=some r∧A 21 0 fx [(5,vs 0)] [.o 1 5 R8 k] a w) ?_ ?_
 ·refine Z.n d [0,1,5] [(6,J 0)]<|Z.block ?_;obtain⟨o1,hi1,ho1⟩:=bI b;clear b;refine Z.loop (fun n a w=>∃(c:Int) (g:List Int) (e:Int),iter (fun s=>Pw F f s.1 s.2.1 s.2.2) n (c,g,e)=some o1∧A 21 0 fx [(0,vi .u64 c),(1,J f),(5,vs 0),(6,J e)] [.o 1 5 R8 g] a w) F (fun a w h=>⟨i,[],0,hi1,h.t [.n]⟩) ?_;rintro n1 a w ⟨c,g,e,hi1,h⟩;obtain⟨n1,q1,rfl,b,hs1⟩:=iI hi1;replace b:Pw F f c g e=some q1:=b;clear hi1;refine h.go<|Z.seq<|Z.n d [0,1,5,6] [(9,vb (decide (e<f)))]<|Z.j b (fun b=>?_) fun b=>?_
  ·refine Z.ak<|Z.seq<|Z.block<|Z.s<|M.d d 4 [0,1,5,6] [(12,vs 0),(15,vi .u8 (gX (uX c 256)))] [] [.bin .rem .u64 c 256 (uX c 256) K] [c,256]<|M.f (eL (sz:=1) (E:=5) (R:=R8) (bK:=1) d [[ci .u8 (gX (uX c 256))]] [gX (uX c 256)] K ⟨bU.int,trivial⟩ rfl K K) ?_;obtain⟨l,m,b⟩:=bI b;refine M.f (bZ (i:=0) (l:=g) (sz:=1) (E:=5) (R:=R8) (bK:=1) (m:=[gX (uX c 256)]) d rfl K rfl (.o 5 K) m K)<|M.n d 1 [0,1,6] [(5,vs 2)]<|M.nT<|Z.reg<|M.d d 3 [1,5,6] [(0,vi .u64 (wP .u64 c 256))] [] [.bin .quo .u64 c 256 (wP .u64 c 256) K] [c,256]<|M.nT<|Z.reg<|M.n d 3 [0,1,5] [(6,J (aH (e+1)))]<|M.aK fun a w h=>?_;exact⟨n1,Nat.lt_succ_self _,(wP .u64 c 256),l,aH (e+1),nI b hs1,h.t [.g 2]⟩
  refine Z.xJ rfl fun a w h=>?_;have ho:=dI b hs1;replace b:=ho1
  try rw[ho]at b
  exact⟨g,b,h.t [.g 0]⟩
 rintro a w ⟨k,b,h⟩;refine h.go<|Z.n d [] [(4,vs 0)] ?_;cases b;exact Z.q d [.g 0]
theorem kq83(F:Nat)(c:fD)(r:List Int)(b:q83 F c=some r):Spec Tryz.prog 183 [.g (jK c)] [] (vs 0) [.d 1 R8 r]:=by
 refine Spec.enter Tryz.func183 rfl Tryz.ntmps183 rfl rfl fun fx=>?_;refine Z.s<|M.f (aR (E:=43) (jK c) K)<|M.n d 1 [1] []<|M.nT<|Z.s<|M.n d 3 [1] [(6,vi .u64 (wu64 c.aU))] ?_;obtain⟨e,k,b⟩:=bI b;refine M.f (aQ Tryz.call119 (Fv F (wu64 c.aU) 1 _ k) [] [vi .u64 (wu64 c.aU),J 1] (vs 1) K iR)<|M.n d 1 [1] [(3,vs 1)]<|M.nT<|Z.s<|M.n d 4 [1,3] [(8,vs 1),(11,vi .u64 (wu64 c.aL))] ?_;obtain⟨f,l,b⟩:=bI b;refine M.f (aQ Tryz.call119 (Fv F (wu64 c.aL) 2 _ l) [] [vi .u64 (wu64 c.aL),J 2] (vs 2) K iR) ?_;obtain⟨g,m,b⟩:=bI b;refine M.f (bZ (i:=1) (l:=e) (sz:=1) (E:=5) (R:=R8) (bK:=1) (m:=f) d rfl K rfl (.o 5 K) m K)<|M.n d 1 [1] [(3,vs 3)]<|M.nT<|Z.s<|M.n d 4 [1,3] [(14,vs 3),(17,vi .u64 (wu64 c.Interval))] ?_;obtain⟨i,p,b⟩:=bI b;refine M.f (aQ Tryz.call119 (Fv F (wu64 c.Interval) 2 _ p) [] [vi .u64 (wu64 c.Interval),J 2] (vs 4) K iR)<|M.norm (bN:=[.k 43 (jK c),.e,.o 1 5 R8 f,.o 1 5 R8 g,.o 1 5 R8 i]) K ?_;obtain⟨q,t,b⟩:=bI b;refine M.f (bZ (i:=3) (l:=g) (sz:=1) (E:=5) (R:=R8) (bK:=1) (m:=i) d rfl K rfl (.o 5 K) t K)<|M.n d 1 [1] [(3,vs 5)]<|M.nT<|Z.s<|M.n d 4 [1,3] [(20,vs 5),(23,vi .u64 (wu64 c.aV))] ?_;obtain⟨u,v,b⟩:=bI b;refine M.f (aQ Tryz.call119 (Fv F (wu64 c.aV) 2 _ v) [] [vi .u64 (wu64 c.aV),J 2] (vs 6) K iR) ?_;obtain⟨y,z,b⟩:=bI b;refine M.f (bZ (i:=5) (l:=q) (sz:=1) (E:=5) (R:=R8) (bK:=1) (m:=u) d rfl K rfl (.o 5 K) z K)<|M.n d 1 [1] [(3,vs 7)]<|M.nT<|Z.s<|M.n d 4 [] [(26,vs 7),(29,vi .u64 (wu64 c.Timeout))] ?_;obtain⟨B,C,b⟩:=bI b;refine M.f (aQ Tryz.call119 (Fv F (wu64 c.Timeout) 2 _ C) [] [vi .u64 (wu64 c.Timeout),J 2] (vs 8) K iR) ?_;obtain⟨G,D,b⟩:=bI b;refine M.f (bZ (i:=7) (l:=y) (sz:=1) (E:=5) (R:=R8) (bK:=1) (m:=B) d rfl K rfl (.o 5 K) D K)<|M.n d 1 [] [(2,vs 9)]<|M.nT ?_;cases b;exact Z.q d [.z 9]
def xZ(E:aO)(e:sj):List Item:=[.k 93 (aM E),.k 210 (qH e)]
theorem XV(F:Nat)(c:aO)(r:List Int)(b:Sj F c=some r):Spec Tryz.prog 156 [.g (aM c)] [] (vs 0) [.d 1 R8 r]:=by
 refine Spec.enter Tryz.func156 rfl Tryz.ntmps156 rfl rfl fun fx=>?_;refine Z.s<|M.f (aR (E:=93) (aM c) K)<|M.n d 1 [1] []<|M.nT<|Z.s<|M.n d 2 [1] [(6,J c.Kind)] ?_;obtain⟨e,u,b⟩:=bI b;refine M.f (aQ Tryz.call159 (U8 F c.Kind _ u) [] [J c.Kind] (.g (qH e)) K iR)<|M.f (eA (E:=210) d [cb false,cb false,cb false,cb false,cb false,cb false,cb false,cb false] K)<|M.d d 1 [1,3] [] [(1,210,(qH e))] [] []<|M.nT<|Z.n d [1,3] [(4,vn)]<|Z.cut (fun a w=>∃f,Ku F c e f=some r∧A 70 0 fx [(1,vp 0 0),(3,vp 1 0),(4,vs 2)] (xZ c e++[.o 1 5 R8 f]) a w) ?_ ?_
 ·refine Z.n d [1,3,4] [(9,vb e.bg)]<|Z.j b (fun b=>?_) fun b=>?_
  ·refine Z.reg<|M.n d 4 [1,3,4] [(10,vn),(13,vi .u64 (wu64 c.bg))] ?_;obtain⟨q,v,b⟩:=bI b;refine M.f (aQ Tryz.call119 (Fv F (wu64 c.bg) 2 _ v) [] [vi .u64 (wu64 c.bg),J 2] (vs 2) K iR) ?_;obtain⟨t,y,b⟩:=bI b;refine M.f (AQ (sz:=1) (E:=5) (R:=R8) (bK:=1) (m:=q) d rfl rfl (.o 5 K) y K)<|M.norm (bN:=(xZ c e++[.o 1 5 R8 q,.o 1 5 R8 t])) K<|M.n d 1 [1,3] [(4,vs 3)]<|M.aK fun a w h=>?_;exact⟨t,b,h.t [.g 0,.g 1,.g 3]⟩
  refine Z.kJ fun a w h=>?_;exact⟨[],b,h.t [.g 0,.g 1,.n]⟩
 rintro a w ⟨f,b,h⟩;refine h.go<|Z.cut (fun a w=>∃g,Kv F c e g=some r∧A 70 0 fx [(1,vp 0 0),(3,vp 1 0),(4,vs 2)] (xZ c e++[.o 1 5 R8 g]) a w) ?_ ?_
 ·refine Z.n d [1,3,4] [(17,vb e.Source)]<|Z.j b (fun b=>?_) fun b=>?_
  ·refine Z.reg<|M.n d 4 [1,3,4] [(18,vs 2),(21,vi .u64 (wu64 c.Source))] ?_;obtain⟨z,B,b⟩:=bI b;refine M.f (aQ Tryz.call119 (Fv F (wu64 c.Source) 2 _ B) [] [vi .u64 (wu64 c.Source),J 2] (vs 3) K iR) ?_;obtain⟨C,D,b⟩:=bI b;refine M.f (bZ (i:=2) (l:=f) (sz:=1) (E:=5) (R:=R8) (bK:=1) (m:=z) d rfl K rfl (.o 5 K) D K)<|M.n d 1 [1,3] [(4,vs 4)]<|M.aK fun a w h=>?_;exact⟨C,b,h.t [.g 0,.g 1,.g 4]⟩
  refine Z.kJ fun a w h=>?_;exact⟨f,b,h.t (gs 3)⟩
 rintro a w ⟨g,b,h⟩;refine h.go<|Z.cut (fun a w=>∃i,Kw F c e i=some r∧A 70 0 fx [(1,vp 0 0),(3,vp 1 0),(4,vs 2)] (xZ c e++[.o 1 5 R8 i]) a w) ?_ ?_
 ·refine Z.n d [1,3,4] [(25,vb e.aT)]<|Z.j b (fun b=>?_) fun b=>?_
  ·refine Z.reg<|M.n d 4 [1,3,4] [(26,vs 2),(29,vi .u64 (wu64 c.aT))] ?_;obtain⟨E,G,b⟩:=bI b;refine M.f (aQ Tryz.call119 (Fv F (wu64 c.aT) 2 _ G) [] [vi .u64 (wu64 c.aT),J 2] (vs 3) K iR) ?_;obtain⟨H,L,b⟩:=bI b;refine M.f (bZ (i:=2) (l:=g) (sz:=1) (E:=5) (R:=R8) (bK:=1) (m:=E) d rfl K rfl (.o 5 K) L K)<|M.n d 1 [1,3] [(4,vs 4)]<|M.aK fun a w h=>?_;exact⟨H,b,h.t [.g 0,.g 1,.g 4]⟩
  refine Z.kJ fun a w h=>?_;exact⟨g,b,h.t (gs 3)⟩
 rintro a w ⟨i,b,h⟩;refine h.go<|Z.cut (fun a w=>∃k,Ky F c e k=some r∧A 70 0 fx [(1,vp 0 0),(3,vp 1 0),(4,vs 2)] (xZ c e++[.o 1 5 R8 k]) a w) ?_ ?_
 ·refine Z.n d [1,3,4] [(33,vb e.kS)]<|Z.j b (fun b=>?_) fun b=>?_
  ·refine Z.s<|M.n d 4 [1,3,4] [(34,vs 2),(37,vi .u64 (wu64 c.bA))] ?_;obtain⟨P,Q,b⟩:=bI b;refine M.f (aQ Tryz.call119 (Fv F (wu64 c.bA) 2 _ Q) [] [vi .u64 (wu64 c.bA),J 2] (vs 3) K iR) ?_;obtain⟨R,S,b⟩:=bI b;refine M.f (bZ (i:=2) (l:=i) (sz:=1) (E:=5) (R:=R8) (bK:=1) (m:=P) d rfl K rfl (.o 5 K) S K)<|M.n d 1 [1,3] [(4,vs 4)]<|M.nT<|Z.reg<|M.n d 4 [1,3,4] [(40,vs 4),(43,vi .u64 (wu64 c.bC))] ?_;obtain⟨T,U,b⟩:=bI b;refine M.f (aQ Tryz.call119 (Fv F (wu64 c.bC) 2 _ U) [] [vi .u64 (wu64 c.bC),J 2] (vs 5) K iR) ?_;obtain⟨W,X,b⟩:=bI b;refine M.f (bZ (i:=4) (l:=R) (sz:=1) (E:=5) (R:=R8) (bK:=1) (m:=T) d rfl K rfl (.o 5 K) X K)<|M.n d 1 [1,3] [(4,vs 6)]<|M.aK fun a w h=>?_;exact⟨W,b,h.t [.g 0,.g 1,.g 6]⟩
  refine Z.kJ fun a w h=>?_;exact⟨i,b,h.t (gs 3)⟩
 rintro a w ⟨k,b,h⟩;refine h.go<|Z.cut (fun a w=>∃l,Kz F c e l=some r∧A 70 0 fx [(1,vp 0 0),(3,vp 1 0),(4,vs 2)] (xZ c e++[.o 1 5 R8 l]) a w) ?_ ?_
 ·refine Z.n d [1,3,4] [(47,vb e.au)]<|Z.j b (fun b=>?_) fun b=>?_
  ·refine Z.reg<|M.n d 4 [1,3,4] [(48,vs 2),(51,vi .u64 (wu64 c.au))] ?_;obtain⟨Y,Bv,b⟩:=bI b;refine M.f (aQ Tryz.call119 (Fv F (wu64 c.au) 2 _ Bv) [] [vi .u64 (wu64 c.au),J 2] (vs 3) K iR) ?_;obtain⟨Bw,Bx,b⟩:=bI b;refine M.f (bZ (i:=2) (l:=k) (sz:=1) (E:=5) (R:=R8) (bK:=1) (m:=Y) d rfl K rfl (.o 5 K) Bx K)<|M.n d 1 [1,3] [(4,vs 4)]<|M.aK fun a w h=>?_;exact⟨Bw,b,h.t [.g 0,.g 1,.g 4]⟩
  refine Z.kJ fun a w h=>?_;exact⟨k,b,h.t (gs 3)⟩
 rintro a w ⟨l,b,h⟩;refine h.go<|Z.cut (fun a w=>∃m,KA F c e m=some r∧A 70 0 fx [(1,vp 0 0),(3,vp 1 0),(4,vs 2)] (xZ c e++[.o 1 5 R8 m]) a w) ?_ ?_
 ·refine Z.n d [1,3,4] [(55,vb e.Result)]<|Z.j b (fun b=>?_) fun b=>?_
  ·refine Z.reg<|M.n d 4 [1,3,4] [(56,vs 2),(59,vi .u64 (wu64 c.Result))] ?_;obtain⟨By,Bz,b⟩:=bI b;refine M.f (aQ Tryz.call119 (Fv F (wu64 c.Result) 2 _ Bz) [] [vi .u64 (wu64 c.Result),J 2] (vs 3) K iR) ?_;obtain⟨E0,E1,b⟩:=bI b;refine M.f (bZ (i:=2) (l:=l) (sz:=1) (E:=5) (R:=R8) (bK:=1) (m:=By) d rfl K rfl (.o 5 K) E1 K)<|M.n d 1 [1,3] [(4,vs 4)]<|M.aK fun a w h=>?_;exact⟨E0,b,h.t [.g 0,.g 1,.g 4]⟩
  refine Z.kJ fun a w h=>?_;exact⟨l,b,h.t (gs 3)⟩
 rintro a w ⟨m,b,h⟩;refine h.go<|Z.cut (fun a w=>∃p,KC F p=some r∧A 70 0 fx [(4,vs 0)] [.o 1 5 R8 p] a w) ?_ ?_
 ·refine Z.n d [1,4] [(63,vb e.Update)]<|Z.j b (fun b=>?_) fun b=>?_
  ·refine Z.reg<|M.n d 3 [4] [(64,vs 2),(66,.g (jK c.Update))] ?_;obtain⟨E2,E3,b⟩:=bI b;refine M.f (aQ Tryz.call183 (kq83 F c.Update _ E3) [] [.g (jK c.Update)] (vs 3) K iR) ?_;obtain⟨E4,E5,b⟩:=bI b;refine M.f (bZ (i:=2) (l:=m) (sz:=1) (E:=5) (R:=R8) (bK:=1) (m:=E2) d rfl K rfl (.r K) E5 K)<|M.n d 1 [] [(4,vs 4)]<|M.aK fun a w h=>?_;exact⟨E4,b,h.t [.g 4]⟩
  refine Z.kJ fun a w h=>?_;exact⟨m,b,h.t [.g 2]⟩
 rintro a w ⟨p,b,h⟩;refine h.go<|Z.n d [] [(2,vs 0)] ?_;cases b;exact Z.q d [.z 0]
theorem kq6e(F:Nat)(c:aO)(r:List Int×Int)(b:ZW F c=some r):Spec Tryz.prog 117 [.g (aM c)] [] (.u [.inl (.s 0),.inl (cI r.2)]) [.d 1 R8 r.1]:=by
 refine Spec.enter Tryz.func117 rfl Tryz.ntmps117 rfl rfl fun fx=>?_;refine Z.s<|M.f (aR (E:=93) (aM c) K)<|M.n d 2 [1] []<|M.nT<|Z.seq<|Z.s<|M.n d 1 [1] [(6,.g (aM c))] ?_;obtain⟨f,g,b⟩:=bI b;refine M.f (aQ Tryz.call155 (Xt F c _ g) [] [.g (aM c)] (J f) K iR)<|M.n d 1 [1] [(4,J f)]<|M.nT<|Z.n d [1,4] [(9,vb (f != 0))]<|Z.j b (fun b=>?_) fun b=>?_
 ·refine Z.n d [] [(2,vn),(3,J f)] ?_;cases b;exact Z.q d [.n]
 refine Z.ak<|Z.s<|M.n d 1 [1] [(11,.g (aM c))] ?_;obtain⟨e,i,b⟩:=bI b;refine M.f (aQ Tryz.call156 (XV F c _ i) [] [.g (aM c)] (vs 1) K iR)<|M.n d 1 [1] [(5,vs 1)]<|M.nT<|Z.s<|M.n d 9 [5] [(15,vi .u8 (gX c.Kind)),(18,vi .u8 (gX c.ID)),(21,vi .u8 (gX (len e)))]<|M.f (eL (sz:=1) (E:=5) (R:=R8) (bK:=1) d [[ci .u8 (gX c.Kind)],[ci .u8 (gX c.ID)],[ci .u8 (gX (len e))],[ci .u8 0]] [gX c.Kind,gX c.ID,gX (len e),0] K ⟨bU.int,⟨bU.int,⟨bU.int,⟨bU.int,trivial⟩⟩⟩⟩ rfl K K)<|M.n d 1 [22] [(23,vs 1)] ?_;obtain⟨l,k,b⟩:=bI b;refine M.f (bZ (i:=2) (l:=[gX c.Kind,gX c.ID,gX (len e),0]) (sz:=1) (E:=5) (R:=R8) (bK:=1) (m:=e) d rfl K rfl (.r K) k K)<|M.n d 2 [] [(2,vs 3),(3,J 0)]<|M.nT ?_;cases b;exact Z.q d [.z 3]
theorem S9(F:Nat)(c:aJ)(e:Int)(g:List Int)(r:aJ)(b:UY F c e g=some r):Spec Tryz.prog 81 [.g (aF c 0),vi .u16 e,vs 5] (mI c++[.d 1 R8 g]) (.g (aF r 6)) ([.e,.e,.e,.e,.e,.e]++mI r):=by
 refine Spec.enter Tryz.func81 rfl Tryz.ntmps81 rfl rfl fun fx=>?_;refine Z.s<|M.f (aR (E:=31) (aF c 0) K)<|M.f (eA (E:=31) d zM K)<|M.nT<|Z.s<|M.f (eL (sz:=2) (E:=116) (R:=dh) (bK:=32) d [] ([]:List eU) K trivial rfl K K)<|M.n d 2 [1,2,3,6,7] [(9,vs 4)] ?_;obtain⟨k,l,b⟩:=bI b;refine M.f (bZ (i:=8) (l:=([]:List eU)) (sz:=2) (E:=116) (R:=dh) (bK:=32) (m:=c.Out) d rfl K rfl (.r K) l K)<|M.n d 1 [2,3,6,10] [(11,vi .u16 e)]<|M.f (eL (sz:=1) (E:=5) (R:=R8) (bK:=1) d [] ([]:List Int) K trivial rfl K K)<|M.n d 1 [3,6,10,11,12] [(13,vs 5)] ?_;obtain⟨f,m,b⟩:=bI b;refine M.f (bZ (i:=10) (l:=([]:List Int)) (sz:=1) (E:=5) (R:=R8) (bK:=1) (m:=g) d rfl K rfl (.r K) m K)<|M.n d 1 [3,6,10] [(15,.g [ci .u16 e,.s 11])]<|M.pre (pF (i:=11) (sz:=1) (E:=5) (R:=R8) (l:=f) K)<|M.f (eL (sz:=2) (E:=116) (R:=dh) (bK:=32) d [[ci .u16 e,.s 11]] [(eU.mk e f)] K ⟨(Jg (x:=(eU.mk e f)) (bU.sl K)),trivial⟩ rfl K K) ?_;obtain⟨i,p,b⟩:=bI b;refine M.f (bZ (i:=9) (l:=k) (sz:=2) (E:=116) (R:=dh) (bK:=32) (m:=[(eU.mk e f)]) d rfl K rfl (.o 116 K) p K)<|M.norm (bN:=(mI c++[.d 1 R8 g,.k 31 (aF c 0),.k 31 zM,.e,.e,.e,.d 1 R8 f,.o 2 116 dh [(eU.mk e f)],.o 2 116 dh i])) K<|M.d d 2 [3,6] [] [(6,31,(jy ({ c with Out:=i }) (.s 0) (.s 1) (.s 2) (.s 3) (.s 13)))] [] []<|M.nT<|Z.d d [6] [] [(7,31,(jy ({ c with Out:=i }) (.s 0) (.s 1) (.s 2) (.s 3) (.s 13)))] [] [] ?_;cases b;exact Z.q d ((gr [(0,6),(0,4)])++[.z 13])
theorem Oi(F:Nat)(c:aJ)(e:aO)(r:aJ)(b:qf F c e=some r):Spec Tryz.prog 88 [.g (aF c 0),.g (aM e)] (mI c) (.g (aF r 5)) ([.e,.e,.e,.e,.e]++mI r):=by
 refine Spec.enter Tryz.func88 rfl Tryz.ntmps88 rfl rfl fun fx=>?_;refine Z.s<|M.f (aR (E:=31) (aF c 0) K)<|M.f (aR (E:=93) (aM e) K)<|M.f (eA (E:=31) d zM K)<|M.nT<|Z.s<|M.n d 1 [2,4] [(8,.g (aM e))] ?_;obtain⟨f,i,b⟩:=bI b;refine M.f (aQ Tryz.call117 (kq6e F e _ i) [] [.g (aM e)] (.u [.inl (.s 8),.inl (cI f.2)]) K iR)<|M.n d 5 [2,4] [(5,vs 8)]<|M.nT<|Z.s<|M.n d 2 [4] [(12,.g (aF c 0)),(13,vs 8)] ?_;obtain⟨g,k,b⟩:=bI b;refine M.f (aQ Tryz.call81 (S9 F c 5 f.1 _ k) (gr [(0,5),(8,1)]) [.g (aF c 0),vi .u16 5,vs 8] (.g (aF g 9)) K iR)<|M.d d 1 [4] [] [(7,31,(aF g 9))] [] []<|M.nT ?_;cases b;exact Z.q d (gr [(0,5),(9,5)])
end V
end Go.Proofs.YtbgfhaahhdnogaaGreat
