/- Walks, wn by program: each Go function returns what its -/
import Derived.Test.YtbgfhaahhdnogaaGreatW6
namespace Go.Proofs.YtbgfhaahhdnogaaGreat
namespace V
def LH(t_1:uS):List Item:=[.d 5 dw t_1.ak.1,.d 5 dw t_1.ak.2,.d 14 Hg t_1.eP,.k 55 (hx3 t_1 0)]
def Uw:List Item:=[.o 2 116 bG ([]:List bJ),.o 2 116 bG ([]:List bJ)]
set_option maxHeartbeats 20000000 in
theorem kq3v(F:Nat)(f:uS)(r:bD×Bool)(b:q3v F f=some r):Spec Tryz.prog 16 [.g (hx3 f 0)] [.d 5 dw f.ak.1,.d 5 dw f.ak.2,.d 14 Hg f.eP] (.u [.inl (.p 3 0),.inl (cb r.2)]) ([.e,.e,.e,.k 70 (wC r.1 4 16 144)]++wJ0 r.1++[.d 2 bS r.1.aM.1,.d 2 bS r.1.aM.2]++(tW r.1.au++[.d 2 bG r.1.ar.1,.d 2 bG r.1.ar.2])):=by
 refine eN Tryz.func16 rfl Tryz.ntmps16 rfl rfl fun fx=>?_;refine Z.s<|M.f (bW (E:=55) (hx3 f 0) K)<|M.n d 2 [1] []<|M.nT<|Z.s<|M.n d 1 [1] [(12,.g zW0)]<|M.f (bW (E:=70) zW0 K)<|M.pre (rQ (List.replicate 132 .n) (aP:=((LH f++[.k 70 (kG (bD.mk ((aI.mk 0 0 [] [] [] 0 (kH.mk false []) [] 0 0),(aI.mk 0 0 [] [] [] 0 (kH.mk false []) [] 0 0)) (([]:List eH),([]:List eH)) (fun _=>[]) (([]:List bJ),([]:List bJ)) (fun _=>false) 0 false false false) nl nl nl nl nl nl nl nl nl nl (.s 133) (.s 134) 5 (.s 135) (.s 136))])++(tW (fun _=>[])++[.o 2 45 bS ([]:List eH),.o 2 45 bS ([]:List eH),.o 2 116 bG ([]:List bJ),.o 2 116 bG ([]:List bJ)]))) K) ?_;refine M.n d 1 [1] [(4,vp 4 0)]<|M.nT<|Z.cut (fun a w=>∃q,q6c F f q=some r/\A 91 3 fx [(1,vp 3 0),(4,vp 4 0)] ((LH f++[.k 70 (kG ({ q with aM:=(([]:List eH),([]:List eH)),ar:=(([]:List bJ),([]:List bJ)),params:=0,data:=false,frame:=false,answer:=false }) (.s 5) (.s 6) (.s 7) (.s 8) (.s 9) (.s 10) (.s 11) (.s 12) (.s 13) (.s 14) (.s 15) (.s 16) 17 (.s 145) (.s 146))]++wJ0 q++[.o 2 45 bS ([]:List eH),.o 2 45 bS ([]:List eH)])++(tW q.au++(Uw))) a w) ?_ ?_
 ·refine Z.n d [1,4] [(5,J 0)]<|Z.block ?_;obtain⟨o3,hi3,ho3⟩:=bI b;clear b;refine Z.loop (fun n a w=>∃(c:bD) (z:Int),iter (fun s=>qi F f s.1 s.2) n (c,z)=some o3/\A 91 3 fx [(1,vp 3 0),(4,vp 4 0),(5,J z)] ((LH f++[.k 70 (kG ({ c with aM:=(([]:List eH),([]:List eH)),ar:=(([]:List bJ),([]:List bJ)),params:=0,data:=false,frame:=false,answer:=false }) (.s 5) (.s 6) (.s 7) (.s 8) (.s 9) (.s 10) (.s 11) (.s 12) (.s 13) (.s 14) (.s 15) (.s 16) 17 (.s 145) (.s 146))]++wJ0 c++[.o 2 45 bS ([]:List eH),.o 2 45 bS ([]:List eH)])++(tW c.au++(Uw))) a w) F (fun a w h=>⟨(bD.mk ((aI.mk 0 0 [] [] [] 0 (kH.mk false []) [] 0 0),(aI.mk 0 0 [] [] [] 0 (kH.mk false []) [] 0 0)) (([]:List eH),([]:List eH)) (fun _=>[]) (([]:List bJ),([]:List bJ)) (fun _=>false) 0 false false false),0,hi3,h.t ((gr [(0,5)])++[.n,.n,.n,.n,.n,.n,.n,.n,.n,.n]++(gr [(133,2),(5,128),(135,2)]))⟩) ?_;rintro n3 a w ⟨c,z,hi3,h⟩;obtain⟨n3,q3,rfl,b,hs3⟩:=iI hi3;replace b:qi F f c z=some q3:=b;clear hi3;refine h.go<|Z.seq<|Z.n d [1,4,5] [(15,vb (decide (z<2)))]<|Z.j b (fun b=>?_) fun b=>?_
  ·refine Z.aD<|Z.cut (fun a w=>∃(u:bD) (D:Int),q82 F c u D=some q3/\A 91 3 fx [(1,vp 3 0),(4,vp 4 0),(5,J D)] ((LH f++[.k 70 (kG ({ c with ah:=u.ah,aM:=(([]:List eH),([]:List eH)),ar:=(([]:List bJ),([]:List bJ)),params:=0,data:=false,frame:=false,answer:=false }) (.s 5) (.s 6) (.s 7) (.s 8) (.s 9) (.s 10) (.s 11) (.s 12) (.s 13) (.s 14) (.s 15) (.s 16) 17 (.s 145) (.s 146))]++wJ0 u++[.o 2 45 bS ([]:List eH),.o 2 45 bS ([]:List eH)])++(tW c.au++(Uw))) a w) ?_ ?_
   ·refine Z.block<|Z.s<|M.n d 3 [1,4,5] [(19,J z),(20,J z),(21,vp 3 0)] ?_
    rcases bB (z==0)with G | G
    ·replace b:=fU b G;rw[(eq_of_beq G)];refine M.f (JH (off:=0) (T:=55) (cs:=(hx3 f 0)) d rfl rfl K K)<|M.n d 1 [1,4,5,19] [(23,vs 0)] ?_;obtain⟨l,T,b⟩:=bI b;refine M.f (bA Tryz.call9 (Wl F 0 f.ak.1 _ T) [.g 0] [J 0,vs 0] (.u [.inr (bn l.1 147),.inl (cI l.2)]) K iR)<|M.n d 3 [1,4,5] [(25,.g (bn l.1 147)),(26,J l.2)]<|M.f (eA (E:=31) d zM K)<|M.d d 2 [1,4,5,6] [(7,J l.2)] [(152,31,(bn l.1 147))] [] []<|M.nT<|Z.seq<|Z.n d [1,4,5,6] [(28,vb (l.2 != 0))]<|Z.j b (fun b=>?_) fun b=>?_
     ·refine Z.n d [] [(2,vp 4 0),(3,vb false)] ?_;have ho:=dI b hs3;replace b:=ho3
      try rw[ho]at b
      cases b;exact Z.q d ((gr [(0,3),(4,11)])++[.z 15,.z 16]++(gr [(17,128)])++[.z 145,.z 146])
     refine Z.aD<|Z.d d [1,4,5,6] [] [(152,31,(bn ({ l.1 with Length:=f.bL.1 }) 147))] [] []<|Z.qU MO ((bm 153 11373380051250617802183216319050664368050143215),(bm 153 11373380051250617802183216319050664368050143231),[6]) K fun Bz R=>?_;refine SD.n d R [0,1,2,3,4,5] [I,I,I,I,I,I,O] [1,4,5] [(37,.g (bn ({ l.1 with Length:=f.bL.1 }) 147)),(40,vp 4 0)]<|SD.all1 (i:=6) K<|SW.store R d (i:=6) (q:=4) (T:=70) (cs:=(kG ({ c with ah:=({ l.1 with Length:=f.bL.1 },c.ah.2),aM:=(([]:List eH),([]:List eH)),ar:=(([]:List bJ),([]:List bJ)),params:=0,data:=false,frame:=false,answer:=false }) (.s 147) (.s 148) (.s 149) (.s 150) (.s 151) (.s 10) (.s 11) (.s 12) (.s 13) (.s 14) (.s 15) (.s 16) 17 (.s 145) (.s 146))) (bs':=[I,I,I,I,I,I,I]) rfl K K rfl K<|SD.norm (bq:=((LH f++[.k 70 (kG ({ c with ah:=({ l.1 with Length:=f.bL.1 },c.ah.2),aM:=(([]:List eH),([]:List eH)),ar:=(([]:List bJ),([]:List bJ)),params:=0,data:=false,frame:=false,answer:=false }) (.s 147) (.s 148) (.s 149) (.s 150) (.s 151) (.s 10) (.s 11) (.s 12) (.s 13) (.s 14) (.s 15) (.s 16) 17 (.s 145) (.s 146))]++wJ0 c++[.o 2 45 bS ([]:List eH),.o 2 45 bS ([]:List eH)])++(tW c.au++(Uw++mI l.1++[.k 31 (bn ({ l.1 with Length:=f.bL.1 }) 147)])))) K<|SD.done K fun a w h=>?_;exact⟨{ c with ah:=({ l.1 with Length:=f.bL.1 },c.ah.2),aM:=(([]:List eH),([]:List eH)),ar:=(([]:List bJ),([]:List bJ)),params:=0,data:=false,frame:=false,answer:=false },0,b,h.t (gr [(0,5),(147,5),(10,137)])⟩
    replace b:=dU b G;rcases bB (z==1)with H | H
    ·replace b:=fU b H;rw[(eq_of_beq H)];refine M.f (JH (off:=1) (T:=55) (cs:=(hx3 f 0)) d rfl rfl K K)<|M.n d 1 [1,4,5,19] [(23,vs 1)] ?_;obtain⟨m,U,b⟩:=bI b;refine M.f (bA Tryz.call9 (Wl F 1 f.ak.2 _ U) [.g 1] [J 1,vs 1] (.u [.inr (bn m.1 147),.inl (cI m.2)]) K iR)<|M.n d 3 [1,4,5] [(25,.g (bn m.1 147)),(26,J m.2)]<|M.f (eA (E:=31) d zM K)<|M.d d 2 [1,4,5,6] [(7,J m.2)] [(152,31,(bn m.1 147))] [] []<|M.nT<|Z.seq<|Z.n d [1,4,5,6] [(28,vb (m.2 != 0))]<|Z.j b (fun b=>?_) fun b=>?_
     ·refine Z.n d [] [(2,vp 4 0),(3,vb false)] ?_;have ho:=dI b hs3;replace b:=ho3
      try rw[ho]at b
      cases b;exact Z.q d ((gr [(0,3),(4,11)])++[.z 15,.z 16]++(gr [(17,128)])++[.z 145,.z 146])
     refine Z.aD<|Z.d d [1,4,5,6] [] [(152,31,(bn ({ m.1 with Length:=f.bL.2 }) 147))] [] []<|Z.qU MO ((bm 153 11373380051250617802183216319050664368050143215),(bm 153 11373380051250617802183216319050664368050143231),[6]) K fun E0 S=>?_;refine SD.n d S [0,1,2,3,4,5] [I,I,I,I,I,I,O] [1,4,5] [(37,.g (bn ({ m.1 with Length:=f.bL.2 }) 147)),(40,vp 4 11)]<|SD.all1 (i:=6) K<|SW.store S d (i:=6) (q:=4) (T:=70) (cs:=(kG ({ c with ah:=(c.ah.1,{ m.1 with Length:=f.bL.2 }),aM:=(([]:List eH),([]:List eH)),ar:=(([]:List bJ),([]:List bJ)),params:=0,data:=false,frame:=false,answer:=false }) (.s 5) (.s 6) (.s 7) (.s 8) (.s 9) (.s 147) (.s 148) (.s 149) (.s 150) (.s 151) (.s 15) (.s 16) 17 (.s 145) (.s 146))) (bs':=[I,I,I,I,I,I,I]) rfl K K rfl K<|SD.norm (bq:=((LH f++[.k 70 (kG ({ c with ah:=(c.ah.1,{ m.1 with Length:=f.bL.2 }),aM:=(([]:List eH),([]:List eH)),ar:=(([]:List bJ),([]:List bJ)),params:=0,data:=false,frame:=false,answer:=false }) (.s 5) (.s 6) (.s 7) (.s 8) (.s 9) (.s 147) (.s 148) (.s 149) (.s 150) (.s 151) (.s 15) (.s 16) 17 (.s 145) (.s 146))]++wJ0 c++[.o 2 45 bS ([]:List eH),.o 2 45 bS ([]:List eH)])++(tW c.au++(Uw++mI m.1++[.k 31 (bn ({ m.1 with Length:=f.bL.2 }) 147)])))) K<|SD.done K fun a w h=>?_;exact⟨{ c with ah:=(c.ah.1,{ m.1 with Length:=f.bL.2 }),aM:=(([]:List eH),([]:List eH)),ar:=(([]:List bJ),([]:List bJ)),params:=0,data:=false,frame:=false,answer:=false },1,b,h.t (gr [(0,10),(147,5),(15,132)])⟩
    replace b:=dU b H;cases b
   rintro a w ⟨u,D,b,h⟩;refine h.go<|Z.reg<|M.n d 3 [1,4] [(5,J (aK (D+1)))]<|M.aS fun a w h=>?_;exact⟨n3,Nat.lt_succ_self _,{ c with ah:=u.ah,aM:=(([]:List eH),([]:List eH)),ar:=(([]:List bJ),([]:List bJ)),params:=0,data:=false,frame:=false,answer:=false },aK (D+1),nI b hs3,h.t (gs 147)⟩
  refine Z.xJ rfl fun a w h=>?_;have ho:=dI b hs3;replace b:=ho3
  try rw[ho]at b
  exact⟨{ c with aM:=(([]:List eH),([]:List eH)),ar:=(([]:List bJ),([]:List bJ)),params:=0,data:=false,frame:=false,answer:=false },b,h.t (gs 147)⟩
 rintro a w ⟨q,b,h⟩;refine h.go<|Z.cut (fun a w=>∃k,q81 F k=some r/\A 91 3 fx [(4,vp 3 0)] ([.e,.e,.e,.k 70 (wC k 4 16 144)]++wJ0 k++wA k++(tW k.au++wF0 k)) a w) ?_ ?_
 ·refine Z.n d [1,4] [(8,J 0)]<|Z.block ?_;obtain⟨o2,hi2,ho2⟩:=bI b;clear b;refine Z.loop (fun n a w=>∃(i:bD) (B:Int),iter (fun s=>VA F f s.1 s.2) n (i,B)=some o2/\A 91 3 fx [(1,vp 3 0),(4,vp 4 0),(8,J B)] ((LH f++[.k 70 (wC i 5 17 145)]++wJ0 i++wA i)++(tW i.au++wF0 i)) a w) F (fun a w h=>⟨{ q with aM:=(([]:List eH),([]:List eH)),ar:=(([]:List bJ),([]:List bJ)),params:=0,data:=false,frame:=false,answer:=false },0,hi2,h.t (gs 147)⟩) ?_;rintro n2 a w ⟨i,B,hi2,h⟩;obtain⟨n2,q2,rfl,b,hs2⟩:=iI hi2;replace b:VA F f i B=some q2:=b;clear hi2;refine h.go<|Z.seq<|Z.n d [1,4,8] [(45,vb (decide (B<(len f.eP))))]<|Z.j b (fun b=>?_) fun b=>?_
  ·refine Z.aD<|Z.seq<|Z.block<|Z.reg ?_;obtain⟨L,W,b⟩:=bI b;refine M.pre (pX (i:=2) (iv:=B) (sz:=14) (R:=Hg) (l:=f.eP) K rfl W)<|M.d d 6 [1,4,8] [(48,vp 4 0),(53,.g (P5 L (.s 148)))] [] [.el 147] [B] ?_;obtain⟨X,Y,b⟩:=bI b;refine M.f (bA Tryz.call49 (kq21 F i L _ Y) (gr [(4,143),(148,1)]) [vp 4 0,.g (P5 L (.s 148))] (.u []) K iR)<|M.nT<|Z.reg<|M.n d 3 [1,4] [(8,J (aK (B+1)))]<|M.aS fun a w h=>?_;exact⟨n2,Nat.lt_succ_self _,X,aK (B+1),nI b hs2,h.t (gr [(0,5),(149,142)])⟩
  refine Z.xJ rfl fun a w h=>?_;have ho:=dI b hs2;replace b:=ho2
  try rw[ho]at b
  exact⟨i,b,h.t (gr [(0,3),(4,143)])⟩
 rintro a w ⟨k,b,h⟩;refine h.go<|Z.cut (fun a w=>∃p,q92 F p=some r/\A 91 3 fx [(4,vp 3 0)] ([.e,.e,.e,.k 70 (wC p 4 16 144)]++wJ0 p++wA p++(tW p.au++wF0 p)) a w) ?_ ?_
 ·refine Z.n d [4] [(9,J 0)]<|Z.block ?_;obtain⟨o1,hi1,ho1⟩:=bI b;clear b;refine Z.loop (fun n a w=>∃(g:bD) (C:Int),iter (fun s=>q22 F s.1 s.2) n (g,C)=some o1/\A 91 3 fx [(4,vp 3 0),(9,J C)] ([.e,.e,.e,.k 70 (wC g 4 16 144)]++wJ0 g++wA g++(tW g.au++wF0 g)) a w) F (fun a w h=>⟨k,0,hi1,h.t (gs 146)⟩) ?_;rintro n1 a w ⟨g,C,hi1,h⟩;obtain⟨n1,q1,rfl,b,hs1⟩:=iI hi1;replace b:q22 F g C=some q1:=b;clear hi1;refine h.go<|Z.seq<|Z.n d [4,9] [(56,vb (decide (C<20000)))]<|Z.j b (fun b=>?_) fun b=>?_
  ·refine Z.aD<|Z.seq<|Z.block<|Z.s<|M.n d 1 [4,9] [(59,vp 3 0)] ?_;obtain⟨v,Bv,b⟩:=bI b;refine M.f (bA Tryz.call50 (kq39 F g 100 _ Bv) (gr [(3,143)]) [vp 3 0,J 0,J 100] (.u []) K iR)<|M.nT<|Z.s<|M.n d 1 [4,9] [(61,vp 3 0)] ?_;obtain⟨y,Bw,b⟩:=bI b;refine M.f (bA Tryz.call50 (kq3e F v 100 _ Bw) (gr [(3,1),(146,142)]) [vp 3 0,J 1,J 100] (.u []) K iR)<|M.nT<|Z.s<|M.n d 1 [4,9] [(63,vp 3 0)] ?_;obtain⟨t,Bx,b⟩:=bI b;refine M.f (bA Tryz.call51 (kq37 F y 20 _ Bx) (gr [(3,1),(288,142)]) [vp 3 0,J 0,J 20] (vb t.1) K iR)<|M.n d 1 [4,9,64] [(65,vp 3 0)] ?_;obtain⟨e,By,b⟩:=bI b;refine M.f (bA Tryz.call51 (kq3c F t.2 20 _ By) (gr [(3,1),(430,142)]) [vp 3 0,J 1,J 20] (vb e.1) K iR)<|M.norm (bq:=(([.e,.e,.e,.k 70 (wC e.2 572 584 712)]++wJ0 g++(bE++([.e,.e,.e,.e]++wJ0 v++(bE++([.e,.e,.e,.e]++wJ0 y++(bE++([.e,.e,.e,.e]++wJ0 t.2++(bE++[.e,.e,.e,.e]++wJ0 e.2++wA e.2))))))))++(tW e.2.au++wF0 e.2))) K<|M.n d 2 [4,9] [(10,vb t.1),(11,vb e.1)]<|M.nT<|Z.cut (fun a w=>∃(P:Bool),q6b F C e P=some q1/\A 91 3 fx [(4,vp 3 0),(9,J C),(88,vb P)] ([.e,.e,.e,.k 70 (wC e.2 4 16 144)]++wJ0 e.2++wA e.2++(tW e.2.au++wF0 e.2)) a w) ?_ ?_
   ·refine Z.draw MO (bm 714 64636549958226413656977283680831021042345876621718183077200985600882046664702145574629766900142606003444660315233795567626961274258001677308275277857163769629289463595921549140982350399128683007346282921042294882296) K fun E1 Q=>?_;refine SD.n d Q [0,1,2,3,4,5,6] (bm 22 127) [4,9] [(73,vb ((!t.1)&&(!e.1)))] ?_;rcases bB (((!t.1)&&(!e.1)))with E | E
    ·replace b:=fU b E;refine SD.d d Q [(73,true)] (wU rfl E qC) [7,8,9,10,11,12,13,14,15,16,17,18,19,20,21] [] [] (bm 22 4194303) [4,9] [(74,vp 3 0),(75,vp 3 0),(76,vp 3 22),(77,vp 3 22),(78,vs 582),(79,J (len e.2.aM.1)),(80,vp 3 0),(81,vp 3 0),(82,vp 3 22),(83,vp 3 23),(84,vs 583),(85,J (len e.2.aM.2)),(86,J (aK ((len e.2.aM.1)+(len e.2.aM.2)))),(87,vb ((aK ((len e.2.aM.1)+(len e.2.aM.2)))==0)),(88,vb ((aK ((len e.2.aM.1)+(len e.2.aM.2)))==0))]<|SD.done K fun a w h=>?_;exact⟨((aK ((len e.2.aM.1)+(len e.2.aM.2)))==0),b,h.t (gr [(0,4),(572,142)])⟩
    replace b:=dU b E;refine SD.d d Q [(73,false)] (wU rfl E qC) [7,8,9,10,11,12,13,14,15,16,17,18,19,20,21] [] [] (bm 22 4194303) [4,9] [(74,.u []),(75,.u []),(76,.u []),(77,.u []),(78,.u []),(79,.u []),(80,.u []),(81,.u []),(82,.u []),(83,.u []),(84,.u []),(85,.u []),(86,.u []),(87,.u []),(88,vb false)]<|SD.done K fun a w h=>?_;exact⟨false,b,h.t (gr [(0,4),(572,142)])⟩
   rintro a w ⟨P,b,h⟩;refine h.go<|Z.j b (fun b=>?_) fun b=>?_
   ·refine Z.n d [] [(2,vp 3 0),(3,vb true)] ?_;have ho:=dI b hs1;replace b:=ho1
    try rw[ho]at b
    cases b;exact Z.q d ((gr [(0,14)])++[.z 14,.z 15]++(gr [(16,128)])++[.z 144,.z 145])
   refine Z.aD<|Z.reg<|M.n d 3 [4] [(9,J (aK (C+1)))]<|M.aS fun a w h=>?_;exact⟨n1,Nat.lt_succ_self _,e.2,aK (C+1),nI b hs1,h.t (gs 146)⟩
  refine Z.xJ rfl fun a w h=>?_;have ho:=dI b hs1;replace b:=ho1
  try rw[ho]at b
  exact⟨g,b,h.t (gs 146)⟩
 rintro a w ⟨p,b,h⟩;refine h.go<|Z.n d [] [(2,vp 3 0),(3,vb false)] ?_;cases b;exact Z.q d ((gr [(0,14)])++[.z 14,.z 15]++(gr [(16,128)])++[.z 144,.z 145])
theorem kq3w(F:Nat)(c:Int)(r:Bool)(b:q3w F c=some r):Spec Tryz.prog 30 [J c] [] (vb r) []:=by
 refine eN Tryz.func30 rfl Tryz.ntmps30 rfl rfl fun fx=>?_;refine Z.n d [0] []<|Z.n d [] [(2,vb ((decide (c≥23))&&(decide (c<=4096))))] ?_;cases b;exact Z.q d []
theorem kq5y(F:Nat)(c:Int)(r:Bool)(b:q5y F c=some r):Spec Tryz.prog 31 [J c] [] (vb r) []:=by
 refine eN Tryz.func31 rfl Tryz.ntmps31 rfl rfl fun fx=>?_;refine Z.n d [0] []<|Z.n d [] [(2,vb ((decide (c≥0))&&(decide (c<=65535))))] ?_;cases b;exact Z.q d []
def J8(e:List fA):List Item:=[.d 5 dw e,.k 31 zM]
theorem kq3h(F:Nat)(g:Int)(e:List fA)(r:aI×Int)(b:q3h F g e=some r):Spec Tryz.prog 10 [J g,vs 0] [.d 5 dw e] (.u [.inr (bn r.1 1),.inl (cI r.2)]) ([.e]++mI r.1):=by
 refine eN Tryz.func10 rfl Tryz.ntmps10 rfl rfl fun fx=>?_;refine Z.s<|M.f (eA (E:=31) d zM K)<|M.n d 1 [0,1,4] []<|M.nT<|Z.seq<|Z.n d [0,1,4] [(14,vb ((g != 0)&&(g != 1)))]<|Z.j b (fun b=>?_) fun b=>?_
 ·refine Z.d d [4] [(5,J 1)] [(1,31,zM)] [] [] ?_;cases b;exact Z.q d [.g 0,.n,.n,.n,.n,.n]
 refine Z.aD<|Z.seq<|Z.n d [0,1,4] [(18,vb (decide ((len e)>64)))]<|Z.j b (fun b=>?_) fun b=>?_
 ·refine Z.d d [4] [(5,J 4)] [(1,31,zM)] [] [] ?_;cases b;exact Z.q d [.g 0,.n,.n,.n,.n,.n]
 refine Z.aD<|Z.cut (fun a w=>q83 F g e=some r/\A 80 1 fx [(0,J g),(1,vs 0),(4,vp 1 0)] (J8 e) a w) ?_ ?_
 ·refine Z.n d [0,1,4] [(6,J 0)]<|Z.block ?_;obtain⟨o1,hi1,ho1⟩:=bI b;clear b;refine Z.loop (fun n a w=>∃(f:Int),iter (fun s=>X4 F e s) n (f)=some o1/\A 80 1 fx [(0,J g),(1,vs 0),(4,vp 1 0),(6,J f)] (J8 e) a w) F (fun a w h=>⟨0,hi1,h.t [.g 0,.g 1]⟩) ?_;rintro n1 a w ⟨f,hi1,h⟩;obtain⟨n1,q1,rfl,b,hs1⟩:=iI hi1;replace b:X4 F e f=some q1:=b;clear hi1;refine h.go<|Z.seq<|Z.n d [0,1,4,6] [(23,vb (decide (f<(len e))))]<|Z.j b (fun b=>?_) fun b=>?_
  ·refine Z.aD<|Z.cut (fun a w=>q84 F f=some q1/\A 80 1 fx [(0,J g),(1,vs 0),(4,vp 1 0),(6,J f)] (J8 e) a w) ?_ ?_
   ·refine Z.block<|Z.s ?_;obtain⟨c,z,b⟩:=bI b;refine M.pre (pX (i:=0) (iv:=f) (sz:=5) (R:=dw) (l:=e) K rfl z)<|M.d d 4 [0,1,4,6] [(29,.g (mM c))] [] [.el 2] [f]<|M.f (eA (E:=83) d (mM (fA.mk 0 0 0 0 0)) K)<|M.d d 1 [0,1,4,6,7] [] [(3,83,(mM c))] [] []<|M.nT<|Z.seq<|Z.n d [0,1,4,6,7] [(32,vb (c.bQ==0))]<|Z.j b (fun b=>?_) fun b=>?_
    ·refine Z.d d [4] [(5,J 1)] [(1,31,zM)] [] [] ?_;have ho:=dI b hs1;replace b:=ho1
     try rw[ho]at b
     cases b;exact Z.q d [.g 0,.n,.n,.n,.n,.n]
    refine Z.aD<|Z.cut (fun a w=>q85 F f c=some q1/\A 80 1 fx [(0,J g),(1,vs 0),(4,vp 1 0),(6,J f),(7,vp 2 0)] (J8 e++[.k 83 (mM c)]) a w) ?_ ?_
    ·refine Z.n d [0,1,4,6,7] [(8,J 0)]<|Z.block ?_;obtain⟨o2,hi2,ho2⟩:=bI b;clear b;refine Z.loop (fun n a w=>∃(l:Int),iter (fun s=>X5 F e f c s) n (l)=some o2/\A 80 1 fx [(0,J g),(1,vs 0),(4,vp 1 0),(6,J f),(7,vp 2 0),(8,J l)] (J8 e++[.k 83 (mM c)]) a w) F (fun a w h=>⟨0,hi2,h.t [.g 0,.g 1,.g 3]⟩) ?_;rintro n2 a w ⟨l,hi2,h⟩;obtain⟨n2,q2,rfl,b,hs2⟩:=iI hi2;replace b:X5 F e f c l=some q2:=b;clear hi2;refine h.go<|Z.seq<|Z.n d [0,1,4,6,7,8] [(36,vb (decide (l<f)))]<|Z.j b (fun b=>?_) fun b=>?_
     ·refine Z.aD<|Z.seq<|Z.block<|Z.cut (fun a w=>∃(m:Bool),q86 F l m=some q2/\A 80 1 fx [(0,J g),(1,vs 0),(4,vp 1 0),(6,J f),(7,vp 2 0),(8,J l),(46,vb m)] (J8 e++[.k 83 (mM c)]) a w) ?_ ?_
      ·obtain⟨t,B,b⟩:=bI b;refine Z.pre (pX (i:=0) (iv:=l) (sz:=5) (R:=dw) (l:=e) K rfl B)<|Z.draw MO [true,true,true,true] K fun L C=>?_;refine SD.d d C [] qC [0,1,2,3,4,5,6,7] [.el 3] [l] (bm 8 255) [0,1,4,6,7,8] [(46,vb (t.bQ==c.bQ))]<|SD.done K fun a w h=>?_;exact⟨(t.bQ==c.bQ),b,h.t (gs 3)⟩
      rintro a w ⟨m,b,h⟩;refine h.go<|Z.j b (fun b=>?_) fun b=>?_
      ·refine Z.d d [4] [(5,J 7)] [(1,31,zM)] [] [] ?_;have ho:=dI b hs2;replace b:=ho2
       try rw[ho]at b
       have ho:=dI b hs1;replace b:=ho1
       try rw[ho]at b
       cases b;exact Z.q d [.g 0,.n,.n,.n,.n,.n]
      refine Z.aD<|Z.reg<|M.n d 3 [0,1,4,6,7] [(8,J (aK (l+1)))]<|M.aS fun a w h=>?_;exact⟨n2,Nat.lt_succ_self _,aK (l+1),nI b hs2,h.t (gs 3)⟩
     refine Z.xJ rfl fun a w h=>?_;have ho:=dI b hs2;replace b:=ho2
     try rw[ho]at b
     exact⟨b,h.t (gs 3)⟩
    rintro a w ⟨b,h⟩;refine h.go<|Z.s<|M.n d 2 [0,1,4,6,7] [(49,J c.bZ)] ?_;obtain⟨p,D,b⟩:=bI b;refine M.f (bA Tryz.call30 (kq3w F c.bZ _ D) [] [J c.bZ] (vb p) K iR)<|M.n d 2 [0,1,4,6,7] [(52,vb (!p))] ?_;obtain⟨q,hz,hpr⟩:=bI b;clear b;refine M.cutAt 5 (fun a w=>A 80 1 fx [(0,J g),(1,vs 0),(4,vp 1 0),(6,J f),(7,vp 2 0),(57,vb q)] (J8 e++[.k 83 (mM c)]) a w) ?_ ?_
    ·have b:=hz;rcases bB ((!p))with i | i
     ·replace b:=fU b i;refine M.no rfl rfl i rfl<|M.no rfl rfl i rfl<|M.no rfl rfl i rfl<|M.no rfl rfl i rfl<|M.iL rfl i rfl rfl<|M.aS fun a w h=>?_;cases b;exact h.t (gs 3)
     replace b:=dU b i;refine M.yes rfl rfl i<|M.n d 1 [0,1,4,6,7,52] [(53,vp 2 2)]<|M.yes rfl rfl i<|M.n d 1 [0,1,4,6,7,52,53] [(54,J c.cu)]<|M.yes rfl rfl i ?_;obtain⟨u,E,b⟩:=bI b;refine M.f (bA Tryz.call30 (kq3w F c.cu _ E) [] [J c.cu] (vb u) K iR)<|M.yes rfl rfl i<|M.n d 1 [0,1,4,6,7,52,53,54,55] [(56,vb (!u))]<|M.iB rfl i rfl rfl<|M.aS fun a w h=>?_;cases b;exact h.t (gs 3)
    intro a w h;have b:=hpr;clear hpr hz;refine h.zi<|M.n d 1 [0,1,4,6,7] [(58,vb q)] ?_;obtain⟨v,hz,hpr⟩:=bI b;clear b;refine M.cutAt 5 (fun a w=>A 80 1 fx [(0,J g),(1,vs 0),(4,vp 1 0),(6,J f),(7,vp 2 0),(63,vb v)] (J8 e++[.k 83 (mM c)]) a w) ?_ ?_
    ·have b:=hz;rcases bB (q)with k | k
     ·replace b:=fU b k;refine M.no rfl rfl k rfl<|M.no rfl rfl k rfl<|M.no rfl rfl k rfl<|M.no rfl rfl k rfl<|M.iL rfl k rfl rfl<|M.aS fun a w h=>?_;cases b;exact h.t (gs 3)
     replace b:=dU b k;refine M.yes rfl rfl k<|M.n d 1 [0,1,4,6,7,58] [(59,vp 2 3)]<|M.yes rfl rfl k<|M.n d 1 [0,1,4,6,7,58,59] [(60,J c.aA)]<|M.yes rfl rfl k ?_;obtain⟨y,G,b⟩:=bI b;refine M.f (bA Tryz.call31 (kq5y F c.aA _ G) [] [J c.aA] (vb y) K iR)<|M.yes rfl rfl k<|M.n d 1 [0,1,4,6,7,58,59,60,61] [(62,vb (!y))]<|M.iB rfl k rfl rfl<|M.aS fun a w h=>?_;cases b;exact h.t (gs 3)
    intro a w h;have b:=hpr;clear hpr hz;refine h.zi<|M.n d 10 [0,1,4,6] [(73,vb ((v||(decide (c.bc<0)))||(decide (c.bc>2))))]<|M.nT<|Z.j b (fun b=>?_) fun b=>?_
    ·refine Z.d d [4] [(5,J 5)] [(1,31,zM)] [] [] ?_;have ho:=dI b hs1;replace b:=ho1
     try rw[ho]at b
     cases b;exact Z.q d [.g 0,.n,.n,.n,.n,.n]
    refine Z.kJ fun a w h=>?_;exact⟨b,h.t [.g 0,.g 1]⟩
   rintro a w ⟨b,h⟩;refine h.go<|Z.reg<|M.n d 3 [0,1,4] [(6,J (aK (f+1)))]<|M.aS fun a w h=>?_;exact⟨n1,Nat.lt_succ_self _,aK (f+1),nI b hs1,h.t [.g 0,.g 1]⟩
  refine Z.xJ rfl fun a w h=>?_;have ho:=dI b hs1;replace b:=ho1
  try rw[ho]at b
  exact⟨b,h.t [.g 0,.g 1]⟩
 rintro a w ⟨b,h⟩;refine h.go<|Z.s<|M.n d 1 [1,4] [(75,J g)]<|M.f (eL (sz:=5) (E:=83) (R:=dw) (dA:=40) d [] ([]:List fA) K trivial rfl K K)<|M.n d 1 [4,75,76] [(77,vs 0)] ?_;obtain⟨P,H,b⟩:=bI b;refine M.f (gH (i:=2) (l:=([]:List fA)) (sz:=5) (E:=83) (R:=dw) (dA:=40) (m:=e) d rfl K rfl (.r K) H K)<|M.d d 3 [4] [(5,J 0)] [(1,31,[cI g,cI 0,.s 3,nl,nl,cI 1,cb false,nl,nl,cI 0,cI 27])] [] []<|M.nT ?_;cases b;exact Z.q d [.g 0,.z 3,.n,.n,.n,.n]
theorem kq58(F:Nat)(f:uS)(r:Bool)(b:q58 F f=some r):Spec Tryz.prog 17 [.g (hx3 f 0)] [.d 5 dw f.ak.1,.d 5 dw f.ak.2,.d 14 Hg f.eP] (vb r) [.e,.e,.e]:=by
 refine eN Tryz.func17 rfl Tryz.ntmps17 rfl rfl fun fx=>?_;refine Z.s<|M.f (bW (E:=55) (hx3 f 0) K)<|M.n d 1 [1] []<|M.nT<|Z.s<|M.n d 3 [1] [(10,vs 0)] ?_;obtain⟨e,i,b⟩:=bI b;refine M.f (bA Tryz.call10 (kq3h F 0 f.ak.1 _ i) [.g 0] [J 0,vs 0] (.u [.inr (bn e.1 4),.inl (cI e.2)]) K iR)<|M.n d 3 [1] [(12,.g (bn e.1 4)),(13,J e.2)]<|M.f (eA (E:=31) d zM K)<|M.d d 2 [1] [(4,J e.2)] [(9,31,(bn e.1 4))] [] []<|M.nT<|Z.s<|M.n d 3 [4] [(17,vs 1)] ?_;obtain⟨g,k,b⟩:=bI b;refine M.f (bA Tryz.call10 (kq3h F 1 f.ak.2 _ k) [.g 1] [J 1,vs 1] (.u [.inr (bn g.1 10),.inl (cI g.2)]) K iR)<|M.n d 3 [4] [(19,.g (bn g.1 10)),(20,J g.2)]<|M.f (eA (E:=31) d zM K)<|M.norm (bq:=([.d 5 dw f.ak.1,.d 5 dw f.ak.2,.d 14 Hg f.eP,.k 55 (hx3 f 0)]++mI e.1++[.k 31 (bn e.1 4)]++mI g.1++[.k 31 zM])) K<|M.d d 2 [4] [(6,J g.2)] [(15,31,(bn g.1 10))] [] []<|M.nT<|Z.n d [] [(2,vb ((e.2 != 0)||(g.2 != 0)))] ?_;cases b;exact Z.q d (gs 3)
def Y7a(c:bD×Bool):List Item:=([.e,.e,.e,.k 70 (wC c.1 4 16 144)]++wJ0 c.1++[.d 2 bS c.1.aM.1,.d 2 bS c.1.aM.2])
def XC(c:bD×Bool):List Item:=[.d 2 bG c.1.ar.1,.d 2 bG c.1.ar.2]
set_option maxHeartbeats 20000000 in
theorem kq3x(F:Nat)(e:uS)(r:Bool)(b:q3x F e=some r):Spec Tryz.prog 7 [.g (hx3 e 0)] [.d 5 dw e.ak.1,.d 5 dw e.ak.2,.d 14 Hg e.eP] (vb r) [.e,.e,.e]:=by
 refine eN Tryz.func7 rfl Tryz.ntmps7 rfl rfl fun fx=>?_;refine Z.s<|M.f (bW (E:=55) (hx3 e 0) K)<|M.n d 1 [1] []<|M.nT<|Z.seq<|Z.s<|M.n d 1 [1] [(7,.g (hx3 e 0))] ?_;obtain⟨q,B,b⟩:=bI b;refine M.f (bA Tryz.call15 (kq3y F e _ B) (gs 3) [.g (hx3 e 0)] (vb q) K iR)<|M.n d 1 [1] [(9,vb (!q))]<|M.nT<|Z.j b (fun b=>?_) fun b=>?_
 ·refine Z.s ?_;obtain⟨t,C,b⟩:=bI b;refine M.f (bA Tryz.call8 (aaA F _ C) [] [] (vb t) K iR)<|M.n d 1 [] [(2,vb t)]<|M.nT ?_;cases b;exact Z.q d (gs 3)
 refine Z.aD<|Z.s<|M.n d 1 [1] [(12,.g (hx3 e 0))] ?_;obtain⟨c,D,b⟩:=bI b;refine M.f (bA Tryz.call16 (kq3v F e _ D) (gs 3) [.g (hx3 e 0)] (.u [.inl (.p 4 0),.inl (cb c.2)]) K iR)<|M.n d 5 [1] [(3,vp 4 0),(4,vb c.2)]<|M.nT<|Z.seq<|Z.n d [1,3] [(17,vb (!c.2))]<|Z.j b (fun b=>?_) fun b=>?_
 ·refine Z.s<|M.n d 1 [] [(18,.g (hx3 e 0))] ?_;obtain⟨l,E,b⟩:=bI b;refine M.f (bA Tryz.call17 (kq58 F e _ E) (gs 3) [.g (hx3 e 0)] (vb l) K iR)<|M.n d 1 [] [(20,vb l)] ?_;obtain⟨u,hz,hpr⟩:=bI b;clear b;refine M.cutAt 2 (fun a w=>A 54 3 fx [(22,vb u)] [.e,.e,.e] a w) ?_ ?_
  ·have b:=hz;rcases bB (l)with i | i
   ·replace b:=fU b i;refine M.yes rfl rfl i ?_;obtain⟨G,H,b⟩:=bI b;refine M.f (bA Tryz.call8 (aaA F _ H) [] [] (vb G) K iR)<|M.norm (bq:=([.d 5 dw e.ak.1,.d 5 dw e.ak.2,.d 14 Hg e.eP,.k 55 (hx3 e 0),.k 70 (wC c.1 5 17 145)]++wJ0 c.1++[.d 2 bS c.1.aM.1,.d 2 bS c.1.aM.2]++(tW c.1.au++(XC c)))) K<|M.iL rfl i rfl rfl<|M.aS fun a w h=>?_;cases b;exact h.t (gs 3)
   replace b:=dU b i;refine M.no rfl rfl i rfl<|M.iB rfl i rfl rfl<|M.aS fun a w h=>?_;cases b;exact h.t (gs 3)
  intro a w h;have b:=hpr;clear hpr hz;refine h.zi<|M.n d 1 [] [(2,vb u)]<|M.nT ?_;cases b;exact Z.q d (gs 3)
 refine Z.aD<|Z.cut (fun a w=>q87 F c=some r/\A 54 3 fx [(3,vp 3 0)] ((Y7a c)++(tW c.1.au++(XC c))) a w) ?_ ?_
 ·refine Z.n d [3] [(5,J 0)]<|Z.block<|Z.unr 3 (Rd.lay 1 (fun a w=>q88 F c=some r/\A 54 3 fx [(3,vp 3 0),(5,J 2)] ((Y7a c)++(tW c.1.au++(XC c))) a w) ?_ (fun acI=>?_))
  ·rintro a w ⟨b,h⟩;refine h.rd<|Z.seq<|Z.n d [3,5] [(24,vb false)]<|Z.iff rfl<|Z.xJ rfl fun a w h=>?_;exact⟨b,h.t (gs 146)⟩
  refine Rd.lay 2 (fun a w=>q8a F c=some r/\A 54 3 fx [(3,vp 3 0),(5,J 1)] ((Y7a c)++(tW c.1.au++(XC c))) a w) ?_ (fun acJ=>?_)
  ·rintro a w ⟨b,h⟩;refine h.rd<|Z.seq<|Z.n d [3,5] [(24,vb true)]<|Z.MU rfl<|Z.aD<|Z.cut (fun a w=>q89 F c=some r/\A 54 3 fx [(3,vp 3 0),(5,J 1)] ((Y7a c)++(tW c.1.au++(XC c))) a w) ?_ ?_
   ·refine Z.block<|Z.n d [3,5] [(6,J 0)]<|Z.block ?_;obtain⟨o1,hi1,ho1⟩:=bI b;clear b;refine Z.loop (fun n a w=>∃(f:Int),iter (fun s=>q59 F c s) n (f)=some o1/\A 54 3 fx [(3,vp 3 0),(5,J 1),(6,J f)] ((Y7a c)++(tW c.1.au++(XC c))) a w) F (fun a w h=>⟨0,hi1,h.t (gs 146)⟩) ?_;rintro n1 a w ⟨f,hi1,h⟩;obtain⟨n1,q1,rfl,b,hs1⟩:=iI hi1;replace b:q59 F c f=some q1:=b;clear hi1;refine h.go<|Z.seq<|Z.n d [3,5,6] [(28,vb (decide (f<64)))]<|Z.j b (fun b=>?_) fun b=>?_
    ·refine Z.aD<|Z.seq<|Z.block<|Z.s<|M.n d 6 [3,5,6] [(33,J f),(36,vp 3 218)] ?_;obtain⟨m,v,b⟩:=bI b;refine M.f (fI (n:=64) (off:=154+(64+m)) (T:=70) (cs:=(wC c.1 4 16 144)) d rfl rfl K K v (by omega))<|M.f (l7 (T:=70) (cs:=(wC c.1 4 16 144)) (o:=154+(64+m)) (c:=cb (c.1.ab (64+m))) d rfl K (w_c (aR v).2) K)<|M.nT<|Z.j b (fun b=>?_) fun b=>?_
     ·refine Z.n d [] [(2,vb false)] ?_;have ho:=dI b hs1;replace b:=ho1
      try rw[ho]at b
      cases b;exact Z.q d (gs 3)
     refine Z.aD<|Z.reg<|M.n d 3 [3,5] [(6,J (aK (f+1)))]<|M.aS fun a w h=>?_;exact⟨n1,Nat.lt_succ_self _,aK (f+1),nI b hs1,h.t (gs 146)⟩
    refine Z.xJ rfl fun a w h=>?_;have ho:=dI b hs1;replace b:=ho1
    try rw[ho]at b
    exact⟨b,h.t (gs 146)⟩
   rintro a w ⟨b,h⟩;refine h.go<|Z.reg<|M.n d 3 [3] [(5,J 2)]<|M.aS fun a w h=>?_;exact acI a w ⟨b,h.t (gs 146)⟩
  rintro a w h;refine(show A 54 3 fx [(3,vp 4 0),(5,J 0)] ([.e,.e,.e,.e,.k 70 (wC c.1 5 17 145)]++wJ0 c.1++[.d 2 bS c.1.aM.1,.d 2 bS c.1.aM.2]++(tW c.1.au++(XC c))) a w from h.t (gs 147)).rd<|Z.seq<|Z.n d [3,5] [(24,vb true)]<|Z.MU rfl<|Z.aD<|Z.cut (fun a w=>q8b F c=some r/\A 54 3 fx [(3,vp 3 0),(5,J 0)] ((Y7a c)++(tW c.1.au++(XC c))) a w) ?_ ?_
  ·refine Z.block<|Z.n d [3,5] [(6,J 0)]<|Z.block ?_;obtain⟨o2,hi2,ho2⟩:=bI b;clear b;refine Z.loop (fun n a w=>∃(g:Int),iter (fun s=>q5a F c s) n (g)=some o2/\A 54 3 fx [(3,vp 3 0),(5,J 0),(6,J g)] ((Y7a c)++(tW c.1.au++(XC c))) a w) F (fun a w h=>⟨0,hi2,h.t (gr [(0,3),(4,143)])⟩) ?_;rintro n2 a w ⟨g,hi2,h⟩;obtain⟨n2,q2,rfl,b,hs2⟩:=iI hi2;replace b:q5a F c g=some q2:=b;clear hi2;refine h.go<|Z.seq<|Z.n d [3,5,6] [(28,vb (decide (g<64)))]<|Z.j b (fun b=>?_) fun b=>?_
   ·refine Z.aD<|Z.seq<|Z.block<|Z.s<|M.n d 6 [3,5,6] [(33,J g),(36,vp 3 154)] ?_;obtain⟨p,y,b⟩:=bI b;refine M.f (fI (n:=64) (off:=154+p) (T:=70) (cs:=(wC c.1 4 16 144)) d rfl rfl K K y (by omega))<|M.f (l7 (T:=70) (cs:=(wC c.1 4 16 144)) (o:=154+p) (c:=cb (c.1.ab p)) d rfl K (w_c (aR y).1) K)<|M.nT<|Z.j b (fun b=>?_) fun b=>?_
    ·refine Z.n d [] [(2,vb false)] ?_;have ho:=dI b hs2;replace b:=ho2
     try rw[ho]at b
     cases b;exact Z.q d (gs 3)
    refine Z.aD<|Z.reg<|M.n d 3 [3,5] [(6,J (aK (g+1)))]<|M.aS fun a w h=>?_;exact⟨n2,Nat.lt_succ_self _,aK (g+1),nI b hs2,h.t (gs 146)⟩
   refine Z.xJ rfl fun a w h=>?_;have ho:=dI b hs2;replace b:=ho2
   try rw[ho]at b
   exact⟨b,h.t (gs 146)⟩
  rintro a w ⟨b,h⟩;refine h.go<|Z.reg<|M.n d 3 [3] [(5,J 1)]<|M.aS fun a w h=>?_;exact acJ a w ⟨b,h.t (gs 146)⟩
 rintro a w ⟨b,h⟩;refine h.go<|Z.s<|M.n d 13 [] [(51,vb ((!c.1.answer)&&(decide (c.1.params<=0))))] ?_;obtain⟨z,hz,hpr⟩:=bI b;clear b;refine M.cutAt 2 (fun a w=>A 54 3 fx [(53,vb z)] [.e,.e,.e] a w) ?_ ?_
 ·have b:=hz;rcases bB (((!c.1.answer)&&(decide (c.1.params<=0))))with k | k
  ·replace b:=fU b k;refine M.yes rfl rfl k ?_;obtain⟨L,P,b⟩:=bI b;refine M.f (bA Tryz.call8 (aaA F _ P) [] [] (vb L) K iR)<|M.iL rfl k rfl rfl<|M.aS fun a w h=>?_;cases b;exact h.t (gs 3)
  replace b:=dU b k;refine M.no rfl rfl k rfl<|M.iB rfl k rfl rfl<|M.aS fun a w h=>?_;cases b;exact h.t (gs 3)
 intro a w h;have b:=hpr;clear hpr hz;refine h.zi<|M.n d 1 [] [(2,vb z)]<|M.nT ?_;cases b;exact Z.q d (gs 3)
end V
end Go.Proofs.YtbgfhaahhdnogaaGreat
