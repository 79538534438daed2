/- Walks, wn by program: each Go function returns what its -/
import Derived.Test.YtbgfhaahhdnogaaGreatW4
namespace Go.Proofs.YtbgfhaahhdnogaaGreat
namespace V
def JA(xW:aJ)(tX:aJ)(x_1:DV):List Item:=([.d 5 dn x_1.ay,.d 17 EC x_1.Steps,.k 40 [cI x_1.eT,.s 0,.s 1],.k 31 (aF xW 4)]++mI xW++[.k 31 (aF tX 10)]++mI tX)
def YL(x_1:DV):List Item:=[.d 5 dn x_1.ay,.d 17 EC x_1.Steps,.k 40 [cI x_1.eT,.s 0,.s 1]]
theorem kq51(F:Nat)(e:DV)(r:Bool)(b:Wm F e=some r):Spec Tryz.prog 4 [.g [cI e.eT,.s 0,.s 1]] [.d 5 dn e.ay,.d 17 EC e.Steps] (vb r) [.e,.e]:=by
 refine Spec.enter Tryz.func4 rfl Tryz.ntmps4 rfl rfl fun fx=>?_;refine Z.s<|M.f (aR (E:=40) [cI e.eT,.s 0,.s 1] K)<|M.n d 1 [1] []<|M.nT<|Z.n d [1] [(3,J 0)]<|Z.cut (fun a w=>∃D,YZ F e D=some r∧A 135 2 fx [(1,vp 2 0),(3,J D)] (YL e) a w) ?_ ?_
 ·refine Z.n d [1,3] [(4,J 0)]<|Z.block ?_;obtain⟨o2,hi2,ho2⟩:=bI b;clear b;refine Z.loop (fun n a w=>∃(B:Int) (v:Int),iter (fun s=>MF F e s.1 s.2) n (B,v)=some o2∧A 135 2 fx [(1,vp 2 0),(3,J B),(4,J v)] (YL e) a w) F (fun a w h=>⟨0,0,hi2,h.t (gs 3)⟩) ?_;rintro n2 a w ⟨B,v,hi2,h⟩;obtain⟨n2,q2,rfl,b,hs2⟩:=iI hi2;replace b:MF F e B v=some q2:=b;clear hi2;refine h.go<|Z.seq<|Z.n d [1,3,4] [(21,vb ((decide (v<(len e.Steps)))&&(decide (v<150))))]<|Z.j b (fun b=>?_) fun b=>?_
  ·refine Z.ak<|Z.seq<|Z.block<|Z.seq<|Z.s ?_;obtain⟨H,Y,b⟩:=bI b;refine M.pre (pX (i:=1) (iv:=v) (sz:=17) (R:=EC) (l:=e.Steps) K rfl Y)<|M.d d 9 [1,3,4] [(32,vb (decide ((len H.Bytes) > 8192)))] [] [.el 3] [v] ?_;obtain⟨Bv,hz,hpr⟩:=bI b;clear b;refine M.cutAt 10 (fun a w=>A 135 2 fx [(1,vp 2 0),(3,J B),(4,J v),(42,vb Bv)] (YL e) a w) ?_ ?_
   ·have b:=hz
    rcases bB (decide ((len H.Bytes) > 8192))with q | q
    ·replace b:=dL b q;refine M.no rfl rfl q rfl<|M.no rfl rfl q rfl<|M.no rfl rfl q rfl<|M.no rfl rfl q rfl<|M.no rfl rfl q rfl<|M.no rfl rfl q rfl<|M.no rfl rfl q rfl<|M.no rfl rfl q rfl<|M.no rfl rfl q rfl<|M.dw rfl q rfl rfl<|M.aK fun a w h=>?_;cases b;exact h.t (gs 3)
    replace b:=bX b q;refine M.yes rfl rfl q<|M.n d 1 [1,3,4,32] [(33,vp 2 2)]<|M.yes rfl rfl q<|M.n d 1 [1,3,4,32,33] [(34,vs 1)]<|M.yes rfl rfl q<|M.n d 1 [1,3,4,32,33,34] [(35,J v)]<|M.yes rfl rfl q ?_;obtain⟨L,Bw,b⟩:=bI b;refine M.pre (pX (i:=1) (iv:=v) (sz:=17) (R:=EC) (l:=e.Steps) K rfl Bw)<|M.d d 1 [1,3,4,32,33,34,35] [(36,vp 6 0)] [] [.el 6] [v]<|M.yes rfl rfl q<|M.n d 1 [1,3,4,32,33,34,35,36] [(37,vp 6 15)]<|M.yes rfl rfl q<|M.n d 1 [1,3,4,32,33,34,35,36,37] [(38,vp 6 16)]<|M.yes rfl rfl q<|M.n d 1 [1,3,4,32,33,34,35,36,37,38] [(39,vs 8)]<|M.yes rfl rfl q<|M.n d 1 [1,3,4,32,33,34,35,36,37,38,39] [(40,J (len L.dB.Payload))]<|M.yes rfl rfl q<|M.n d 1 [1,3,4,32,33,34,35,36,37,38,39,40] [(41,vb (decide ((len L.dB.Payload) > 8192)))]<|M.cZ rfl q rfl rfl<|M.aK fun a w h=>?_;cases b;exact h.t (gs 3)
   intro a w h;have b:=hpr; clear hpr hz;refine h.jX<|M.nT<|Z.j b (fun b=>?_) fun b=>?_
   ·refine Z.s ?_;obtain⟨P,Bx,b⟩:=bI b;refine M.f (aQ Tryz.call8 (Om F _ Bx) [] [] (vb P) K iR)<|M.n d 1 [] [(2,vb P)]<|M.nT ?_;have ho:=dI b hs2;replace b:=ho2
    try rw[ho]at b
    cases b;exact Z.q d [.g 0,.g 1]
   refine Z.ak ?_;obtain⟨Q,By,b⟩:=bI b;obtain⟨R,Bz,b⟩:=bI b;refine Z.pre (pX (i:=1) (iv:=v) (sz:=17) (R:=EC) (l:=e.Steps) K rfl By)<|Z.pre (pX (i:=1) (iv:=v) (sz:=17) (R:=EC) (l:=e.Steps) K rfl Bz)<|Z.draw MO (bm 9 511) K fun Eb E0=>?_;refine SD.d d E0 [] kE [0,1,2,3,4,5,6,7,8,9,10,11,12,13,14,15,16,17,18] [.el 3,.el 6] [v,v] (bm 19 524287) [1,4] [(3,J (aH (B+(aH ((len Q.Bytes)+(len R.dB.Payload))))))]<|SD.jH K<|Z.reg<|M.n d 3 [1,3] [(4,J (aH (v+1)))]<|M.aK fun a w h=>?_;exact⟨n2,Nat.lt_succ_self _,aH (B+(aH ((len Q.Bytes)+(len R.dB.Payload)))),aH (v+1),nI b hs2,h.t (gs 3)⟩
  refine Z.xJ rfl fun a w h=>?_;have ho:=dI b hs2;replace b:=ho2
  try rw[ho]at b
  exact⟨B,b,h.t (gs 3)⟩
 rintro a w ⟨D,b,h⟩;refine h.go<|Z.seq<|Z.n d [1] [(75,vb (((decide ((len e.Steps) > 150))||(decide ((len e.ay) > 20)))||(decide (D > 8192))))]<|Z.j b (fun b=>?_) fun b=>?_
 ·refine Z.s ?_;obtain⟨S,E1,b⟩:=bI b;refine M.f (aQ Tryz.call8 (Om F _ E1) [] [] (vb S) K iR)<|M.n d 1 [] [(2,vb S)]<|M.nT ?_;cases b;exact Z.q d [.g 0,.g 1]
 refine Z.ak<|Z.s<|M.n d 4 [1] [(79,J e.eT),(81,vs 0)] ?_;obtain⟨m,E2,b⟩:=bI b;refine M.f (aQ Tryz.call9 (Ti F e.eT e.ay _ E2) [.g 0] [J e.eT,vs 0] (.u [.inr (aF m.1 3),.inl (cI m.2)]) K iR)<|M.n d 3 [1] [(83,.g (aF m.1 3)),(84,J m.2)]<|M.f (eA (E:=31) d zM K)<|M.d d 2 [1,5] [(6,J m.2)] [(8,31,(aF m.1 3))] [] []<|M.nT<|Z.s<|M.n d 4 [1,5,6] [(87,J e.eT),(89,vs 0)] ?_;obtain⟨p,E3,b⟩:=bI b;refine M.f (aQ Tryz.call10 (kq66 F e.eT e.ay _ E3) [.g 0] [J e.eT,vs 0] (.u [.inr (aF p.1 9),.inl (cI p.2)]) K iR)<|M.n d 3 [1,5,6] [(91,.g (aF p.1 9)),(92,J p.2)]<|M.f (eA (E:=31) d zM K)<|M.d d 2 [1,5,6,7] [(8,J p.2)] [(14,31,(aF p.1 9))] [] []<|M.nT<|Z.seq<|Z.s<|M.n d 4 [1,5,6,7] [(96,vb (m.2 != p.2))] ?_;obtain⟨E4,hz,hpr⟩:=bI b;clear b;refine M.cutAt 5 (fun a w=>A 135 2 fx [(1,vp 2 0),(5,vp 3 0),(6,J m.2),(7,vp 9 0),(101,vb E4)] (YL e++[.k 31 (aF m.1 4)]++mI m.1++[.k 31 (aF p.1 10)]++mI p.1) a w) ?_ ?_
 ·have b:=hz
  rcases bB ((m.2 != p.2))with y | y
  ·replace b:=dL b y;refine M.no rfl rfl y rfl<|M.no rfl rfl y rfl<|M.no rfl rfl y rfl<|M.no rfl rfl y rfl<|M.dw rfl y rfl rfl<|M.aK fun a w h=>?_;cases b;exact h.t (gr [(0,3),(8,1),(3,5),(14,1),(9,5)])
  replace b:=bX b y;refine M.yes rfl rfl y<|M.n d 1 [1,5,6,7,96] [(97,.g (aF m.1 3))]<|M.yes rfl rfl y<|M.n d 1 [1,5,6,7,96,97] [(98,.g (aF p.1 9))]<|M.yes rfl rfl y ?_;obtain⟨T,E5,b⟩:=bI b;refine M.f (aQ Tryz.call11 (Xy F m.1 p.1 _ E5) (gr [(3,5),(9,5)]) [.g (aF m.1 3),.g (aF p.1 9)] (vb T) K iR)<|M.norm (bN:=(YL e++mI m.1++[.k 31 (aF m.1 3)]++mI p.1++[.k 31 (aF p.1 9)])) K<|M.yes rfl rfl y<|M.n d 1 [1,5,6,7,96] [(100,vb (!T))]<|M.cZ rfl y rfl rfl<|M.aK fun a w h=>?_;cases b;exact h.t (gr [(0,3),(8,1),(3,5),(14,1),(9,5)])
 intro a w h;have b:=hpr; clear hpr hz;refine h.jX<|M.nT<|Z.j b (fun b=>?_) fun b=>?_
 ·refine Z.n d [] [(2,vb false)] ?_;cases b;exact Z.q d [.g 0,.g 1]
 refine Z.ak<|Z.seq<|Z.n d [1,5,7] [(103,vb (m.2 != 0))]<|Z.j b (fun b=>?_) fun b=>?_
 ·refine Z.s ?_;obtain⟨U,E6,b⟩:=bI b;refine M.f (aQ Tryz.call8 (Om F _ E6) [] [] (vb U) K iR)<|M.n d 1 [] [(2,vb U)]<|M.nT ?_;cases b;exact Z.q d [.g 0,.g 1]
 refine Z.ak<|Z.cut (fun a w=>qbh F=some r∧A 135 2 fx [] [.e,.e] a w) ?_ ?_
 ·refine Z.n d [1,5,7] [(9,J 0)]<|Z.block ?_;obtain⟨o1,hi1,ho1⟩:=bI b;clear b;refine Z.loop (fun n a w=>∃(k:aJ) (l:aJ) (i:Int),iter (fun s=>Po F e s.1 s.2.1 s.2.2) n (k,l,i)=some o1∧A 135 2 fx [(1,vp 2 0),(5,vp 3 0),(7,vp 9 0),(9,J i)] (JA k l e) a w) F (fun a w h=>⟨m.1,p.1,0,hi1,h.t (gs 15)⟩) ?_;rintro n1 a w ⟨k,l,i,hi1,h⟩;obtain⟨n1,q1,rfl,b,hs1⟩:=iI hi1;replace b:Po F e k l i=some q1:=b;clear hi1;refine h.go<|Z.seq<|Z.n d [1,5,7,9] [(109,vb (decide (i<(len e.Steps))))]<|Z.j b (fun b=>?_) fun b=>?_
  ·refine Z.ak<|Z.seq<|Z.block<|Z.cut (fun a w=>∃(t:aJ) (u:aJ) (C:Bool),qbi F i t u C=some q1∧A 135 2 fx [(1,vp 2 0),(5,vp 3 0),(7,vp 9 0),(9,J i),(10,vp 15 0),(11,vp 21 0),(12,vb C)] (JA k l e++[.k 31 (aF t 16)]++mI t++[.k 31 (aF u 22)]++mI u) a w) ?_ ?_
   ·obtain⟨f,E7,b⟩:=bI b;refine Z.pre (pX (i:=1) (iv:=i) (sz:=17) (R:=EC) (l:=e.Steps) K rfl E7)<|Z.draw MO (bm 18 262143) K fun Ec g=>?_;refine SD.d d g [] kE [0,1,2,3,4,5,6] [.el 15] [i] (bm 17 127) [1,5,7,9] [(113,.g (aF k 4)),(114,.g (aF l 10)),(119,.g (hx3 f 16))] ?_;obtain⟨c,E,b⟩:=bI b;refine SD.lay 0 (bm 17 131071) [(1,vp 2 0),(5,vp 3 0),(7,vp 9 0),(9,J i),(10,vp 28 0),(11,vp 29 0),(12,vb c.2.2)] (JA k l e++[.elt (some (1,i)) false (hx3 f 16),.d 1 R8 f.Bytes,.d 1 R8 f.dB.Payload]++mI c.1++mI c.2.1++[.k 31 (aF c.1 18),.k 31 (aF c.2.1 23)]) ?_ (fun c0=>?_)
    ·refine SD.done K fun a w h=>?_;exact⟨c.1,c.2.1,c.2.2,b,h.t (gr [(0,15),(28,1),(18,5),(29,1),(23,5)])⟩
    refine SD.lay 2 (bm 17 32767) [(1,vp 2 0),(5,vp 3 0),(7,vp 9 0),(9,J i),(10,vp 28 0),(11,vp 29 0),(122,.g (aF c.2.1 23)),(123,vb c.2.2)] (JA k l e++[.elt (some (1,i)) false (hx3 f 16),.d 1 R8 f.Bytes,.d 1 R8 f.dB.Payload]++mI c.1++mI c.2.1++[.k 31 (aF c.1 18),.k 31 zM]) ?_ (fun c1=>?_)
    ·exact SD.all1 (i:=15) K<|SW.store g d (i:=15) (q:=29) (T:=31) (cs:=(aF c.2.1 23)) (bs':=(bm 17 65535)) rfl K rfl rfl K<|SD.n d g [16] (bm 17 131071) [1,5,7,9,10,11] [(12,vb c.2.2)]<|SD.fE g (gs 30) c0 K
    refine SD.lay 3 (bm 17 16383) [(1,vp 2 0),(5,vp 3 0),(7,vp 9 0),(9,J i),(10,vp 28 0),(11,vp 29 0),(121,.g (aF c.1 18)),(122,.g (aF c.2.1 23)),(123,vb c.2.2)] (JA k l e++[.elt (some (1,i)) false (hx3 f 16),.d 1 R8 f.Bytes,.d 1 R8 f.dB.Payload]++mI c.1++mI c.2.1++[.k 31 zM,.k 31 zM]) ?_ (fun c2=>?_)
    ·exact SD.all1 (i:=14) K<|SW.store g d (i:=14) (q:=28) (T:=31) (cs:=(aF c.1 18)) (bs':=(bm 17 32767)) rfl K rfl rfl K<|SD.fE g (gs 30) c1 K
    refine SD.lay 4 (bm 17 8191) [(1,vp 2 0),(5,vp 3 0),(7,vp 9 0),(9,J i),(10,vp 28 0),(121,.g (aF c.1 18)),(122,.g (aF c.2.1 23)),(123,vb c.2.2)] (JA k l e++[.elt (some (1,i)) false (hx3 f 16),.d 1 R8 f.Bytes,.d 1 R8 f.dB.Payload]++mI c.1++mI c.2.1++[.k 31 zM]) ?_ (fun c3=>?_)
    ·exact SD.all1 (i:=13) K<|SW.f g 13 (bm 17 16383) rfl rfl rfl (eA (E:=31) d zM K)<|SD.fE g (gs 30) c2 K
    refine SD.lay 4 (bm 17 12287) [(1,vp 2 0),(5,vp 3 0),(7,vp 9 0),(9,J i),(11,vp 28 0),(121,.g (aF c.1 18)),(122,.g (aF c.2.1 23)),(123,vb c.2.2)] (JA k l e++[.elt (some (1,i)) false (hx3 f 16),.d 1 R8 f.Bytes,.d 1 R8 f.dB.Payload]++mI c.1++mI c.2.1++[.k 31 zM]) ?_ (fun c4=>?_)
    ·exact SD.all1 (i:=12) K<|SW.f g 12 (bm 17 16383) rfl rfl rfl (eA (E:=31) d zM K)<|SD.fE g (gr [(0,28),(29,1),(28,1)]) c2 K
    refine SD.lay 5 (bm 17 4095) [(1,vp 2 0),(5,vp 3 0),(7,vp 9 0),(9,J i),(121,.g (aF c.1 18)),(122,.g (aF c.2.1 23)),(123,vb c.2.2)] (JA k l e++[.elt (some (1,i)) false (hx3 f 16),.d 1 R8 f.Bytes,.d 1 R8 f.dB.Payload]++mI c.1++mI c.2.1) ?_ (fun c5=>?_)
    ·refine SD.all2 (i:=12) (j:=13) K ?_ ?_
     ·exact SW.f g 12 (bm 17 8191) rfl rfl rfl (eA (E:=31) d zM K)<|SD.fE g (gs 29) c3 K
     exact SW.f g 13 (bm 17 12287) rfl rfl rfl (eA (E:=31) d zM K)<|SD.fE g (gs 29) c4 K
    refine SD.lay 8 (bm 17 12415) [(1,vp 2 0),(5,vp 3 0),(7,vp 9 0),(9,J i),(10,vp 18 0),(11,vp 19 0),(113,.g (aF k 4)),(114,.g (aF l 10)),(119,.g (hx3 f 16))] (JA k l e++[.elt (some (1,i)) false (hx3 f 16),.d 1 R8 f.Bytes,.d 1 R8 f.dB.Payload,.k 31 zM,.k 31 zM]) ?_ (fun c6=>?_)
    ·exact SD.all1 (i:=7) K<|SW.f g 7 (bm 17 12543) rfl rfl rfl (aQ Tryz.call14 (Ol F k l f _ E) (gr [(4,5),(10,5),(16,2)]) [.g (aF k 4),.g (aF l 10),.g (hx3 f 16)] (.u [.inr (aF c.1 20),.inr (aF c.2.1 25),.inl (cb c.2.2)]) K iR)<|SD.n d g [8,9,10,11] (bm 17 16383) [1,5,7,9,10,11] [(121,.g (aF c.1 20)),(122,.g (aF c.2.1 25)),(123,vb c.2.2)]<|SD.fE g (gr [(0,18),(20,10),(18,2)]) c2 K
    refine SD.lay 9 (bm 17 4223) [(1,vp 2 0),(5,vp 3 0),(7,vp 9 0),(9,J i),(10,vp 18 0),(113,.g (aF k 4)),(114,.g (aF l 10)),(119,.g (hx3 f 16))] (JA k l e++[.elt (some (1,i)) false (hx3 f 16),.d 1 R8 f.Bytes,.d 1 R8 f.dB.Payload,.k 31 zM]) ?_ (fun c7=>?_)
    ·refine SD.all2 (i:=7) (j:=13) K ?_ ?_
     ·exact SW.f g 7 (bm 17 4351) rfl rfl rfl (aQ Tryz.call14 (Ol F k l f _ E) (gr [(4,5),(10,5),(16,2)]) [.g (aF k 4),.g (aF l 10),.g (hx3 f 16)] (.u [.inr (aF c.1 19),.inr (aF c.2.1 24),.inl (cb c.2.2)]) K iR)<|SD.n d g [8,9,10,11] (bm 17 8191) [1,5,7,9,10] [(121,.g (aF c.1 19)),(122,.g (aF c.2.1 24)),(123,vb c.2.2)]<|SD.fE g (gr [(0,18),(19,10),(18,1)]) c3 K
     exact SW.f g 13 (bm 17 12415) rfl rfl rfl (eA (E:=31) d zM K)<|SD.fE g (gs 20) c6 K
    refine SD.lay 9 (bm 17 8319) [(1,vp 2 0),(5,vp 3 0),(7,vp 9 0),(9,J i),(11,vp 18 0),(113,.g (aF k 4)),(114,.g (aF l 10)),(119,.g (hx3 f 16))] (JA k l e++[.elt (some (1,i)) false (hx3 f 16),.d 1 R8 f.Bytes,.d 1 R8 f.dB.Payload,.k 31 zM]) ?_ (fun c8=>?_)
    ·refine SD.all2 (i:=7) (j:=12) K ?_ ?_
     ·exact SW.f g 7 (bm 17 8447) rfl rfl rfl (aQ Tryz.call14 (Ol F k l f _ E) (gr [(4,5),(10,5),(16,2)]) [.g (aF k 4),.g (aF l 10),.g (hx3 f 16)] (.u [.inr (aF c.1 19),.inr (aF c.2.1 24),.inl (cb c.2.2)]) K iR)<|SD.n d g [8,9,10,11] (bm 17 12287) [1,5,7,9,11] [(121,.g (aF c.1 19)),(122,.g (aF c.2.1 24)),(123,vb c.2.2)]<|SD.fE g (gr [(0,18),(19,10),(18,1)]) c4 K
     exact SW.f g 12 (bm 17 12415) rfl rfl rfl (eA (E:=31) d zM K)<|SD.fE g (gr [(0,18),(19,1),(18,1)]) c6 K
    refine SD.Um (i:=7) (j:=12) (k:=13) K ?_ ?_ ?_
    ·exact SW.f g 7 (bm 17 255) rfl rfl rfl (aQ Tryz.call14 (Ol F k l f _ E) (gr [(4,5),(10,5),(16,2)]) [.g (aF k 4),.g (aF l 10),.g (hx3 f 16)] (.u [.inr (aF c.1 18),.inr (aF c.2.1 23),.inl (cb c.2.2)]) K iR)<|SD.n d g [8,9,10,11] (bm 17 4095) [1,5,7,9] [(121,.g (aF c.1 18)),(122,.g (aF c.2.1 23)),(123,vb c.2.2)]<|SD.fE g (gs 28) c5 K
    ·exact SW.f g 12 (bm 17 4223) rfl rfl rfl (eA (E:=31) d zM K)<|SD.fE g (gs 19) c7 K
    exact SW.f g 13 (bm 17 8319) rfl rfl rfl (eA (E:=31) d zM K)<|SD.fE g (gs 19) c8 K
   rintro a w ⟨t,u,C,b,h⟩;refine h.go<|Z.seq<|Z.s<|M.n d 3 [1,5,7,9,10,11] [(126,vb (!C))] ?_;obtain⟨E8,hz,hpr⟩:=bI b;clear b;refine M.cutAt 5 (fun a w=>A 135 2 fx [(1,vp 2 0),(5,vp 3 0),(7,vp 9 0),(9,J i),(10,vp 15 0),(11,vp 21 0),(131,vb E8)] (JA k l e++[.k 31 (aF t 16)]++mI t++[.k 31 (aF u 22)]++mI u) a w) ?_ ?_
   ·have b:=hz
    rcases bB ((!C))with z | z
    ·replace b:=dL b z;refine M.no rfl rfl z rfl<|M.no rfl rfl z rfl<|M.no rfl rfl z rfl<|M.no rfl rfl z rfl<|M.dw rfl z rfl rfl<|M.aK fun a w h=>?_;cases b;exact h.t (gs 27)
    replace b:=bX b z;refine M.yes rfl rfl z<|M.n d 1 [1,5,7,9,10,11,126] [(127,.g (aF t 16))]<|M.yes rfl rfl z<|M.n d 1 [1,5,7,9,10,11,126,127] [(128,.g (aF u 22))]<|M.yes rfl rfl z ?_;obtain⟨W,E9,b⟩:=bI b;refine M.f (aQ Tryz.call11 (Xy F t u _ E9) (gr [(16,5),(22,5)]) [.g (aF t 16),.g (aF u 22)] (vb W) K iR)<|M.yes rfl rfl z<|M.n d 1 [1,5,7,9,10,11,126,127,128,129] [(130,vb (!W))]<|M.cZ rfl z rfl rfl<|M.aK fun a w h=>?_;cases b;exact h.t (gs 27)
   intro a w h;have b:=hpr; clear hpr hz;refine h.jX<|M.nT<|Z.j b (fun b=>?_) fun b=>?_
   ·refine Z.n d [] [(2,vb false)] ?_;have ho:=dI b hs1;replace b:=ho1
    try rw[ho]at b
    cases b;exact Z.q d [.g 0,.g 1]
   refine Z.ak<|Z.kQ MO ((bm 27 134217207),(bm 27 134217727),[2,3]) K fun Ed G=>?_;refine SD.n d G [0,1] [true,true,false,false] [1,5,7,9] [(132,.g (aF t 16)),(133,.g (aF u 22))]<|SD.all1 (i:=2) K<|SW.store G d (i:=2) (q:=3) (T:=31) (cs:=(aF t 16)) (bs':=[true,true,true,false]) rfl K rfl rfl K<|SD.all1 (i:=3) K<|SW.store G d (i:=3) (q:=9) (T:=31) (cs:=(aF u 22)) (bs':=[true,true,true,true]) rfl K rfl rfl K<|SD.jH K<|Z.reg<|M.n d 3 [1,5,7] [(9,J (aH (i+1)))]<|M.aK fun a w h=>?_;exact⟨n1,Nat.lt_succ_self _,t,u,aH (i+1),nI b hs1,h.t (gr [(0,4),(16,5),(9,1),(22,5)])⟩
  refine Z.xJ rfl fun a w h=>?_;have ho:=dI b hs1;replace b:=ho1
  try rw[ho]at b
  exact⟨b,h.t [.g 0,.g 1]⟩
 rintro a w ⟨b,h⟩;refine h.go<|Z.s ?_;obtain⟨X,Ea,b⟩:=bI b;refine M.f (aQ Tryz.call8 (Om F _ Ea) [] [] (vb X) K iR)<|M.n d 1 [] [(2,vb X)]<|M.nT ?_;cases b;exact Z.q d [.g 0,.g 1]
end V
end Go.Proofs.YtbgfhaahhdnogaaGreat
