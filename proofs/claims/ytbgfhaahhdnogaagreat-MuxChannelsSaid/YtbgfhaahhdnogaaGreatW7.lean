/- Walks, wn by program: each Go function returns what its -/
import Derived.Test.YtbgfhaahhdnogaaGreatW6
namespace Go.Proofs.YtbgfhaahhdnogaaGreat
namespace V
def M6(t_1:vH):List Item:=[.d 5 dA t_1.ak.1,.d 5 dA t_1.ak.2,.d 14 IJ t_1.eZ,.k 55 (hx3 t_1 0)]
def V7:List Item:=[.o 2 116 bM ([]:List bq),.o 2 116 bM ([]:List bq)]
set_option maxHeartbeats 20000000 in
theorem kq3w F f r(b:q3w F f=some r):Spec Tryz.prog 16 [.g (hx3 f 0)] [.d 5 dA f.ak.1,.d 5 dA f.ak.2,.d 14 IJ f.eZ] (.u [.inl (.p 3 0),.inl (cb r.2)]) ([.e,.e,.e,.k 70 (wC r.1 4 16 144)]++wJ0 r.1++[.d 2 bS r.1.aP.1,.d 2 bS r.1.aP.2]++(tW r.1.au++[.d 2 bM r.1.aw.1,.d 2 bM r.1.aw.2])):=by
 refine eN Tryz.func16 rfl Tryz.ntmps16 rfl rfl fun fx=>?_;refine Z.s<|M.f (bR (E:=55) (hx3 f 0) K)<|M.n d 2 [1] []<|M.nT<|Z.s<|M.n d 1 [1] [(12,.g zW0)]<|M.f (bR (E:=70) zW0 K)<|M.pre (sO (List.replicate 132 .n) (aR:=((M6 f++[.k 70 (kU (bA.mk (aJ.mk 0 0 [] [] [] 0 (kV.mk false []) [] 0 0,aJ.mk 0 0 [] [] [] 0 (kV.mk false []) [] 0 0) (([]:List eY),([]:List eY)) (fun _=>[]) (([]:List bq),([]:List bq)) (fun _=>false) 0 false false false) nl nl nl nl nl nl nl nl nl nl (.s 133) (.s 134) 5 (.s 135) (.s 136))])++(tW (fun _=>[])++[.o 2 45 bS ([]:List eY),.o 2 45 bS ([]:List eY),.o 2 116 bM ([]:List bq),.o 2 116 bM ([]:List bq)]))) K) ?_;refine M.n d 1 [1] [(4,vp 4 0)]<|M.nT<|Z.cut (fun a w=>∃q,q6d F f q=some r/\A 91 3 fx [(1,vp 3 0),(4,vp 4 0)] ((M6 f++[.k 70 (kU ({q with aP:=(([]:List eY),([]:List eY)),aw:=(([]:List bq),([]:List bq)),params:=0,data:=false,frame:=false,answer:=false}) (.s 5) (.s 6) (.s 7) (.s 8) (.s 9) (.s 10) (.s 11) (.s 12) (.s 13) (.s 14) (.s 15) (.s 16) 17 (.s 145) (.s 146))]++wJ0 q++[.o 2 45 bS ([]:List eY),.o 2 45 bS ([]:List eY)])++(tW q.au++V7)) a w) ?_ ?_
 .refine Z.n d [1,4] [(5,J 0)]<|Z.block ?_;obtain⟨o3,hi3,ho3⟩:=bI b;clear b;refine Z.loop (fun n a w=>∃(c:bA) (z:Int),iter (fun s=>qi F f s.1 s.2) n (c,z)=some o3/\A 91 3 fx [(1,vp 3 0),(4,vp 4 0),(5,J z)] ((M6 f++[.k 70 (kU ({c with aP:=(([]:List eY),([]:List eY)),aw:=(([]:List bq),([]:List bq)),params:=0,data:=false,frame:=false,answer:=false}) (.s 5) (.s 6) (.s 7) (.s 8) (.s 9) (.s 10) (.s 11) (.s 12) (.s 13) (.s 14) (.s 15) (.s 16) 17 (.s 145) (.s 146))]++wJ0 c++[.o 2 45 bS ([]:List eY),.o 2 45 bS ([]:List eY)])++(tW c.au++V7)) a w) F (fun a w h=>⟨bA.mk (aJ.mk 0 0 [] [] [] 0 (kV.mk false []) [] 0 0,aJ.mk 0 0 [] [] [] 0 (kV.mk false []) [] 0 0) (([]:List eY),([]:List eY)) (fun _=>[]) (([]:List bq),([]:List bq)) (fun _=>false) 0 false false false,0,hi3,h.t (gr [(0,5)]++[.n,.n,.n,.n,.n,.n,.n,.n,.n,.n]++gr [(133,2),(5,128),(135,2)])⟩) ?_;rintro n3 a w ⟨c,z,hi3,h⟩;obtain⟨n3,q3,rfl,b,hs3⟩:=iI hi3;replace b:qi F f c z=some q3:=b;clear hi3;refine h.go<|Z.seq<|Z.n d [1,4,5] [(15,vb (decide (z<2)))]<|Z.j b (fun b=>?_) fun b=>?_
  .refine Z.aF<|Z.cut (fun a w=>∃(u:bA) (D:Int),q85 F c u D=some q3/\A 91 3 fx [(1,vp 3 0),(4,vp 4 0),(5,J D)] ((M6 f++[.k 70 (kU ({c with ai:=u.ai,aP:=(([]:List eY),([]:List eY)),aw:=(([]:List bq),([]:List bq)),params:=0,data:=false,frame:=false,answer:=false}) (.s 5) (.s 6) (.s 7) (.s 8) (.s 9) (.s 10) (.s 11) (.s 12) (.s 13) (.s 14) (.s 15) (.s 16) 17 (.s 145) (.s 146))]++wJ0 u++[.o 2 45 bS ([]:List eY),.o 2 45 bS ([]:List eY)])++(tW c.au++V7)) a w) ?_ ?_
   .refine Z.block<|Z.s<|M.n d 3 [1,4,5] [(19,J z),(20,J z),(21,vp 3 0)] ?_
    rcases bB (z==0)with G|G
    .replace b:=gy b G;rw[eq_of_beq G];refine M.f (KH (off:=0) (T:=55) (cs:=(hx3 f 0)) d rfl rfl K K)<|M.n d 1 [1,4,5,19] [(23,vs 0)] ?_;obtain⟨l,T,b⟩:=bI b;refine M.f (bD Tryz.call9 (Yc F 0 f.ak.1 _ T) [.g 0] [J 0,vs 0] (.u [.inr (bn l.1 147),.inl (cI l.2)]) K iR)<|M.n d 3 [1,4,5] [(25,.g (bn l.1 147)),(26,J l.2)]<|M.f (eA (E:=31) d zM K)<|M.d d 2 [1,4,5,6] [(7,J l.2)] [(152,31,bn l.1 147)] [] []<|M.nT<|Z.seq<|Z.n d [1,4,5,6] [(28,vb (l.2 != 0))]<|Z.j b (fun b=>?_) fun b=>?_
     .refine Z.n d [] [(2,vp 4 0),(3,vb false)] ?_;have ho:=dI b hs3;replace b:=ho3
      try rw[ho]at b
      cases b;exact Z.q d (gr [(0,3),(4,11)]++[.z 15,.z 16]++gr [(17,128)]++[.z 145,.z 146])
     refine Z.aF<|Z.d d [1,4,5,6] [] [(152,31,bn ({l.1 with Length:=f.bL.1}) 147)] [] []<|Z.rY MO (bm 153 11373380051250617802183216319050664368050143215,bm 153 11373380051250617802183216319050664368050143231,[6]) K fun Bz R=>?_;refine SD.n d R [0,1,2,3,4,5] [I,I,I,I,I,I,O] [1,4,5] [(37,.g (bn ({l.1 with Length:=f.bL.1}) 147)),(40,vp 4 0)]<|SD.all1 (i:=6) K<|SW.store R d (i:=6) (q:=4) (T:=70) (cs:=(kU ({c with ai:=({l.1 with Length:=f.bL.1},c.ai.2),aP:=(([]:List eY),([]:List eY)),aw:=(([]:List bq),([]:List bq)),params:=0,data:=false,frame:=false,answer:=false}) (.s 147) (.s 148) (.s 149) (.s 150) (.s 151) (.s 10) (.s 11) (.s 12) (.s 13) (.s 14) (.s 15) (.s 16) 17 (.s 145) (.s 146))) (bs':=[I,I,I,I,I,I,I]) rfl K K rfl K<|SD.norm (bC:=((M6 f++[.k 70 (kU ({c with ai:=({l.1 with Length:=f.bL.1},c.ai.2),aP:=(([]:List eY),([]:List eY)),aw:=(([]:List bq),([]:List bq)),params:=0,data:=false,frame:=false,answer:=false}) (.s 147) (.s 148) (.s 149) (.s 150) (.s 151) (.s 10) (.s 11) (.s 12) (.s 13) (.s 14) (.s 15) (.s 16) 17 (.s 145) (.s 146))]++wJ0 c++[.o 2 45 bS ([]:List eY),.o 2 45 bS ([]:List eY)])++(tW c.au++(V7++mI l.1++[.k 31 (bn ({l.1 with Length:=f.bL.1}) 147)])))) K<|SD.done K fun a w h=>?_;exact⟨{c with ai:=({l.1 with Length:=f.bL.1},c.ai.2),aP:=(([]:List eY),([]:List eY)),aw:=(([]:List bq),([]:List bq)),params:=0,data:=false,frame:=false,answer:=false},0,b,h.t (gr [(0,5),(147,5),(10,137)])⟩
    replace b:=dU b G;rcases bB (z==1)with H|H
    .replace b:=gy b H;rw[eq_of_beq H];refine M.f (KH (off:=1) (T:=55) (cs:=(hx3 f 0)) d rfl rfl K K)<|M.n d 1 [1,4,5,19] [(23,vs 1)] ?_;obtain⟨m,U,b⟩:=bI b;refine M.f (bD Tryz.call9 (Yc F 1 f.ak.2 _ U) [.g 1] [J 1,vs 1] (.u [.inr (bn m.1 147),.inl (cI m.2)]) K iR)<|M.n d 3 [1,4,5] [(25,.g (bn m.1 147)),(26,J m.2)]<|M.f (eA (E:=31) d zM K)<|M.d d 2 [1,4,5,6] [(7,J m.2)] [(152,31,bn m.1 147)] [] []<|M.nT<|Z.seq<|Z.n d [1,4,5,6] [(28,vb (m.2 != 0))]<|Z.j b (fun b=>?_) fun b=>?_
     .refine Z.n d [] [(2,vp 4 0),(3,vb false)] ?_;have ho:=dI b hs3;replace b:=ho3
      try rw[ho]at b
      cases b;exact Z.q d (gr [(0,3),(4,11)]++[.z 15,.z 16]++gr [(17,128)]++[.z 145,.z 146])
     refine Z.aF<|Z.d d [1,4,5,6] [] [(152,31,bn ({m.1 with Length:=f.bL.2}) 147)] [] []<|Z.rY MO (bm 153 11373380051250617802183216319050664368050143215,bm 153 11373380051250617802183216319050664368050143231,[6]) K fun E0 S=>?_;refine SD.n d S [0,1,2,3,4,5] [I,I,I,I,I,I,O] [1,4,5] [(37,.g (bn ({m.1 with Length:=f.bL.2}) 147)),(40,vp 4 11)]<|SD.all1 (i:=6) K<|SW.store S d (i:=6) (q:=4) (T:=70) (cs:=(kU ({c with ai:=(c.ai.1,{m.1 with Length:=f.bL.2}),aP:=(([]:List eY),([]:List eY)),aw:=(([]:List bq),([]:List bq)),params:=0,data:=false,frame:=false,answer:=false}) (.s 5) (.s 6) (.s 7) (.s 8) (.s 9) (.s 147) (.s 148) (.s 149) (.s 150) (.s 151) (.s 15) (.s 16) 17 (.s 145) (.s 146))) (bs':=[I,I,I,I,I,I,I]) rfl K K rfl K<|SD.norm (bC:=((M6 f++[.k 70 (kU ({c with ai:=(c.ai.1,{m.1 with Length:=f.bL.2}),aP:=(([]:List eY),([]:List eY)),aw:=(([]:List bq),([]:List bq)),params:=0,data:=false,frame:=false,answer:=false}) (.s 5) (.s 6) (.s 7) (.s 8) (.s 9) (.s 147) (.s 148) (.s 149) (.s 150) (.s 151) (.s 15) (.s 16) 17 (.s 145) (.s 146))]++wJ0 c++[.o 2 45 bS ([]:List eY),.o 2 45 bS ([]:List eY)])++(tW c.au++(V7++mI m.1++[.k 31 (bn ({m.1 with Length:=f.bL.2}) 147)])))) K<|SD.done K fun a w h=>?_;exact⟨{c with ai:=(c.ai.1,{m.1 with Length:=f.bL.2}),aP:=(([]:List eY),([]:List eY)),aw:=(([]:List bq),([]:List bq)),params:=0,data:=false,frame:=false,answer:=false},1,b,h.t (gr [(0,10),(147,5),(15,132)])⟩
    replace b:=dU b H;cases b
   rintro a w ⟨u,D,b,h⟩;refine h.go<|Z.reg<|M.n d 3 [1,4] [(5,J (aL (D+1)))]<|M.aV fun a w h=>?_;exact⟨n3,Nat.lt_succ_self _,{c with ai:=u.ai,aP:=(([]:List eY),([]:List eY)),aw:=(([]:List bq),([]:List bq)),params:=0,data:=false,frame:=false,answer:=false},aL (D+1),nI b hs3,h.t (gs 147)⟩
  refine Z.xJ rfl fun a w h=>?_;have ho:=dI b hs3;replace b:=ho3
  try rw[ho]at b
  exact⟨{c with aP:=(([]:List eY),([]:List eY)),aw:=(([]:List bq),([]:List bq)),params:=0,data:=false,frame:=false,answer:=false},b,h.t (gs 147)⟩
 rintro a w ⟨q,b,h⟩;refine h.go<|Z.cut (fun a w=>∃k,q84 F k=some r/\A 91 3 fx [(4,vp 3 0)] ([.e,.e,.e,.k 70 (wC k 4 16 144)]++wJ0 k++wA k++(tW k.au++wF0 k)) a w) ?_ ?_
 .refine Z.n d [1,4] [(8,J 0)]<|Z.block ?_;obtain⟨o2,hi2,ho2⟩:=bI b;clear b;refine Z.loop (fun n a w=>∃(i:bA) (B:Int),iter (fun s=>Xw F f s.1 s.2) n (i,B)=some o2/\A 91 3 fx [(1,vp 3 0),(4,vp 4 0),(8,J B)] ((M6 f++[.k 70 (wC i 5 17 145)]++wJ0 i++wA i)++(tW i.au++wF0 i)) a w) F (fun a w h=>⟨{q with aP:=(([]:List eY),([]:List eY)),aw:=(([]:List bq),([]:List bq)),params:=0,data:=false,frame:=false,answer:=false},0,hi2,h.t (gs 147)⟩) ?_;rintro n2 a w ⟨i,B,hi2,h⟩;obtain⟨n2,q2,rfl,b,hs2⟩:=iI hi2;replace b:Xw F f i B=some q2:=b;clear hi2;refine h.go<|Z.seq<|Z.n d [1,4,8] [(45,vb (decide (B<len f.eZ)))]<|Z.j b (fun b=>?_) fun b=>?_
  .refine Z.aF<|Z.seq<|Z.block<|Z.reg ?_;obtain⟨L,W,b⟩:=bI b;refine M.pre (pX (i:=2) (iv:=B) (sz:=14) (R:=IJ) (l:=f.eZ) K rfl W)<|M.d d 6 [1,4,8] [(48,vp 4 0),(53,.g (Rq L (.s 148)))] [] [.el 147] [B] ?_;obtain⟨X,Y,b⟩:=bI b;refine M.f (bD Tryz.call49 (kq1z F i L _ Y) (gr [(4,143),(148,1)]) [vp 4 0,.g (Rq L (.s 148))] (.u []) K iR)<|M.nT<|Z.reg<|M.n d 3 [1,4] [(8,J (aL (B+1)))]<|M.aV fun a w h=>?_;exact⟨n2,Nat.lt_succ_self _,X,aL (B+1),nI b hs2,h.t (gr [(0,5),(149,142)])⟩
  refine Z.xJ rfl fun a w h=>?_;have ho:=dI b hs2;replace b:=ho2
  try rw[ho]at b
  exact⟨i,b,h.t (gr [(0,3),(4,143)])⟩
 rintro a w ⟨k,b,h⟩;refine h.go<|Z.cut (fun a w=>∃p,q93 F p=some r/\A 91 3 fx [(4,vp 3 0)] ([.e,.e,.e,.k 70 (wC p 4 16 144)]++wJ0 p++wA p++(tW p.au++wF0 p)) a w) ?_ ?_
 .refine Z.n d [4] [(9,J 0)]<|Z.block ?_;obtain⟨o1,hi1,ho1⟩:=bI b;clear b;refine Z.loop (fun n a w=>∃(g:bA) (C:Int),iter (fun s=>Xx F s.1 s.2) n (g,C)=some o1/\A 91 3 fx [(4,vp 3 0),(9,J C)] ([.e,.e,.e,.k 70 (wC g 4 16 144)]++wJ0 g++wA g++(tW g.au++wF0 g)) a w) F (fun a w h=>⟨k,0,hi1,h.t (gs 146)⟩) ?_;rintro n1 a w ⟨g,C,hi1,h⟩;obtain⟨n1,q1,rfl,b,hs1⟩:=iI hi1;replace b:Xx F g C=some q1:=b;clear hi1;refine h.go<|Z.seq<|Z.n d [4,9] [(56,vb (decide (C<20000)))]<|Z.j b (fun b=>?_) fun b=>?_
  .refine Z.aF<|Z.seq<|Z.block<|Z.s<|M.n d 1 [4,9] [(59,vp 3 0)] ?_;obtain⟨v,Bv,b⟩:=bI b;refine M.f (bD Tryz.call50 (kq38 F g 100 _ Bv) (gr [(3,143)]) [vp 3 0,J 0,J 100] (.u []) K iR)<|M.nT<|Z.s<|M.n d 1 [4,9] [(61,vp 3 0)] ?_;obtain⟨y,Bw,b⟩:=bI b;refine M.f (bD Tryz.call50 (kq3d F v 100 _ Bw) (gr [(3,1),(146,142)]) [vp 3 0,J 1,J 100] (.u []) K iR)<|M.nT<|Z.s<|M.n d 1 [4,9] [(63,vp 3 0)] ?_;obtain⟨t,Bx,b⟩:=bI b;refine M.f (bD Tryz.call51 (kq35 F y 20 _ Bx) (gr [(3,1),(288,142)]) [vp 3 0,J 0,J 20] (vb t.1) K iR)<|M.n d 1 [4,9,64] [(65,vp 3 0)] ?_;obtain⟨e,By,b⟩:=bI b;refine M.f (bD Tryz.call51 (kq3a F t.2 20 _ By) (gr [(3,1),(430,142)]) [vp 3 0,J 1,J 20] (vb e.1) K iR)<|M.norm (bC:=(([.e,.e,.e,.k 70 (wC e.2 572 584 712)]++wJ0 g++(bH++([.e,.e,.e,.e]++wJ0 v++(bH++([.e,.e,.e,.e]++wJ0 y++(bH++([.e,.e,.e,.e]++wJ0 t.2++(bH++[.e,.e,.e,.e]++wJ0 e.2++wA e.2))))))))++(tW e.2.au++wF0 e.2))) K<|M.n d 2 [4,9] [(10,vb t.1),(11,vb e.1)]<|M.nT<|Z.cut (fun a w=>∃(P:Bool),q6c F C e P=some q1/\A 91 3 fx [(4,vp 3 0),(9,J C),(88,vb P)] ([.e,.e,.e,.k 70 (wC e.2 4 16 144)]++wJ0 e.2++wA e.2++(tW e.2.au++wF0 e.2)) a w) ?_ ?_
   .refine Z.draw MO (bm 714 64636549958226413656977283680831021042345876621718183077200985600882046664702145574629766900142606003444660315233795567626961274258001677308275277857163769629289463595921549140982350399128683007346282921042294882296) K fun E1 Q=>?_;refine SD.n d Q [0,1,2,3,4,5,6] (bm 22 127) [4,9] [(73,vb ((!t.1)&&(!e.1)))] ?_;rcases bB ((!t.1)&&(!e.1))with E|E
    .replace b:=gy b E;refine SD.d d Q [(73,true)] (qZ rfl E mD) [7,8,9,10,11,12,13,14,15,16,17,18,19,20,21] [] [] (bm 22 4194303) [4,9] [(74,vp 3 0),(75,vp 3 0),(76,vp 3 22),(77,vp 3 22),(78,vs 582),(79,J (len e.2.aP.1)),(80,vp 3 0),(81,vp 3 0),(82,vp 3 22),(83,vp 3 23),(84,vs 583),(85,J (len e.2.aP.2)),(86,J (aL (len e.2.aP.1+len e.2.aP.2))),(87,vb (aL (len e.2.aP.1+len e.2.aP.2)==0)),(88,vb (aL (len e.2.aP.1+len e.2.aP.2)==0))]<|SD.done K fun a w h=>?_;exact⟨aL (len e.2.aP.1+len e.2.aP.2)==0,b,h.t (gr [(0,4),(572,142)])⟩
    replace b:=dU b E;refine SD.d d Q [(73,false)] (qZ rfl E mD) [7,8,9,10,11,12,13,14,15,16,17,18,19,20,21] [] [] (bm 22 4194303) [4,9] [(74,.u []),(75,.u []),(76,.u []),(77,.u []),(78,.u []),(79,.u []),(80,.u []),(81,.u []),(82,.u []),(83,.u []),(84,.u []),(85,.u []),(86,.u []),(87,.u []),(88,vb false)]<|SD.done K fun a w h=>?_;exact⟨false,b,h.t (gr [(0,4),(572,142)])⟩
   rintro a w ⟨P,b,h⟩;refine h.go<|Z.j b (fun b=>?_) fun b=>?_
   .refine Z.n d [] [(2,vp 3 0),(3,vb true)] ?_;have ho:=dI b hs1;replace b:=ho1
    try rw[ho]at b
    cases b;exact Z.q d (gr [(0,14)]++[.z 14,.z 15]++gr [(16,128)]++[.z 144,.z 145])
   refine Z.aF<|Z.reg<|M.n d 3 [4] [(9,J (aL (C+1)))]<|M.aV fun a w h=>?_;exact⟨n1,Nat.lt_succ_self _,e.2,aL (C+1),nI b hs1,h.t (gs 146)⟩
  refine Z.xJ rfl fun a w h=>?_;have ho:=dI b hs1;replace b:=ho1
  try rw[ho]at b
  exact⟨g,b,h.t (gs 146)⟩
 rintro a w ⟨p,b,h⟩;refine h.go<|Z.n d [] [(2,vp 3 0),(3,vb false)] ?_;cases b;exact Z.q d (gr [(0,14)]++[.z 14,.z 15]++gr [(16,128)]++[.z 144,.z 145])
theorem kq3x F c r(b:q3x F c=some r):Spec Tryz.prog 30 [J c] [] (vb r) []:=by
 refine eN Tryz.func30 rfl Tryz.ntmps30 rfl rfl fun fx=>?_;refine Z.n d [0] []<|Z.n d [] [(2,vb ((decide (c>=23))&&(decide (c<=4096))))] ?_;cases b;exact Z.q d []
theorem kq5t F c r(b:q5t F c=some r):Spec Tryz.prog 31 [J c] [] (vb r) []:=by
 refine eN Tryz.func31 rfl Tryz.ntmps31 rfl rfl fun fx=>?_;refine Z.n d [0] []<|Z.n d [] [(2,vb ((decide (c>=0))&&(decide (c<=65535))))] ?_;cases b;exact Z.q d []
def K6(e:List fI):List Item:=[.d 5 dA e,.k 31 zM]
theorem kq3g F g e r(b:q3g F g e=some r):Spec Tryz.prog 10 [J g,vs 0] [.d 5 dA e] (.u [.inr (bn r.1 1),.inl (cI r.2)]) ([.e]++mI r.1):=by
 refine eN Tryz.func10 rfl Tryz.ntmps10 rfl rfl fun fx=>?_;refine Z.s<|M.f (eA (E:=31) d zM K)<|M.n d 1 [0,1,4] []<|M.nT<|Z.seq<|Z.n d [0,1,4] [(14,vb ((g != 0)&&(g != 1)))]<|Z.j b (fun b=>?_) fun b=>?_
 .refine Z.d d [4] [(5,J 1)] [(1,31,zM)] [] [] ?_;cases b;exact Z.q d [.g 0,.n,.n,.n,.n,.n]
 refine Z.aF<|Z.seq<|Z.n d [0,1,4] [(18,vb (decide (len e>64)))]<|Z.j b (fun b=>?_) fun b=>?_
 .refine Z.d d [4] [(5,J 4)] [(1,31,zM)] [] [] ?_;cases b;exact Z.q d [.g 0,.n,.n,.n,.n,.n]
 refine Z.aF<|Z.cut (fun a w=>q86 F g e=some r/\A 80 1 fx [(0,J g),(1,vs 0),(4,vp 1 0)] (K6 e) a w) ?_ ?_
 .refine Z.n d [0,1,4] [(6,J 0)]<|Z.block ?_;obtain⟨o1,hi1,ho1⟩:=bI b;clear b;refine Z.loop (fun n a w=>∃(f:Int),iter (fun s=>Zt F e s) n f=some o1/\A 80 1 fx [(0,J g),(1,vs 0),(4,vp 1 0),(6,J f)] (K6 e) a w) F (fun a w h=>⟨0,hi1,h.t [.g 0,.g 1]⟩) ?_;rintro n1 a w ⟨f,hi1,h⟩;obtain⟨n1,q1,rfl,b,hs1⟩:=iI hi1;replace b:Zt F e f=some q1:=b;clear hi1;refine h.go<|Z.seq<|Z.n d [0,1,4,6] [(23,vb (decide (f<len e)))]<|Z.j b (fun b=>?_) fun b=>?_
  .refine Z.aF<|Z.cut (fun a w=>q87 F f=some q1/\A 80 1 fx [(0,J g),(1,vs 0),(4,vp 1 0),(6,J f)] (K6 e) a w) ?_ ?_
   .refine Z.block<|Z.s ?_;obtain⟨c,z,b⟩:=bI b;refine M.pre (pX (i:=0) (iv:=f) (sz:=5) (R:=dA) (l:=e) K rfl z)<|M.d d 4 [0,1,4,6] [(29,.g (mX c))] [] [.el 2] [f]<|M.f (eA (E:=83) d (mX (fI.mk 0 0 0 0 0)) K)<|M.d d 1 [0,1,4,6,7] [] [(3,83,mX c)] [] []<|M.nT<|Z.seq<|Z.n d [0,1,4,6,7] [(32,vb (c.bT==0))]<|Z.j b (fun b=>?_) fun b=>?_
    .refine Z.d d [4] [(5,J 1)] [(1,31,zM)] [] [] ?_;have ho:=dI b hs1;replace b:=ho1
     try rw[ho]at b
     cases b;exact Z.q d [.g 0,.n,.n,.n,.n,.n]
    refine Z.aF<|Z.cut (fun a w=>q88 F f c=some q1/\A 80 1 fx [(0,J g),(1,vs 0),(4,vp 1 0),(6,J f),(7,vp 2 0)] (K6 e++[.k 83 (mX c)]) a w) ?_ ?_
    .refine Z.n d [0,1,4,6,7] [(8,J 0)]<|Z.block ?_;obtain⟨o2,hi2,ho2⟩:=bI b;clear b;refine Z.loop (fun n a w=>∃(l:Int),iter (fun s=>Zu F e f c s) n l=some o2/\A 80 1 fx [(0,J g),(1,vs 0),(4,vp 1 0),(6,J f),(7,vp 2 0),(8,J l)] (K6 e++[.k 83 (mX c)]) a w) F (fun a w h=>⟨0,hi2,h.t [.g 0,.g 1,.g 3]⟩) ?_;rintro n2 a w ⟨l,hi2,h⟩;obtain⟨n2,q2,rfl,b,hs2⟩:=iI hi2;replace b:Zu F e f c l=some q2:=b;clear hi2;refine h.go<|Z.seq<|Z.n d [0,1,4,6,7,8] [(36,vb (decide (l<f)))]<|Z.j b (fun b=>?_) fun b=>?_
     .refine Z.aF<|Z.seq<|Z.block<|Z.cut (fun a w=>∃(m:Bool),q89 F l m=some q2/\A 80 1 fx [(0,J g),(1,vs 0),(4,vp 1 0),(6,J f),(7,vp 2 0),(8,J l),(46,vb m)] (K6 e++[.k 83 (mX c)]) a w) ?_ ?_
      .obtain⟨t,B,b⟩:=bI b;refine Z.pre (pX (i:=0) (iv:=l) (sz:=5) (R:=dA) (l:=e) K rfl B)<|Z.draw MO [true,true,true,true] K fun L C=>?_;refine SD.d d C [] mD [0,1,2,3,4,5,6,7] [.el 3] [l] (bm 8 255) [0,1,4,6,7,8] [(46,vb (t.bT==c.bT))]<|SD.done K fun a w h=>?_;exact⟨t.bT==c.bT,b,h.t (gs 3)⟩
      rintro a w ⟨m,b,h⟩;refine h.go<|Z.j b (fun b=>?_) fun b=>?_
      .refine Z.d d [4] [(5,J 7)] [(1,31,zM)] [] [] ?_;have ho:=dI b hs2;replace b:=ho2
       try rw[ho]at b
       have ho:=dI b hs1;replace b:=ho1
       try rw[ho]at b
       cases b;exact Z.q d [.g 0,.n,.n,.n,.n,.n]
      refine Z.aF<|Z.reg<|M.n d 3 [0,1,4,6,7] [(8,J (aL (l+1)))]<|M.aV fun a w h=>?_;exact⟨n2,Nat.lt_succ_self _,aL (l+1),nI b hs2,h.t (gs 3)⟩
     refine Z.xJ rfl fun a w h=>?_;have ho:=dI b hs2;replace b:=ho2
     try rw[ho]at b
     exact⟨b,h.t (gs 3)⟩
    rintro a w ⟨b,h⟩;refine h.go<|Z.s<|M.n d 2 [0,1,4,6,7] [(49,J c.dh)] ?_;obtain⟨p,D,b⟩:=bI b;refine M.f (bD Tryz.call30 (kq3x F c.dh _ D) [] [J c.dh] (vb p) K iR)<|M.n d 2 [0,1,4,6,7] [(52,vb (!p))] ?_;obtain⟨q,hz,hpr⟩:=bI b;clear b;refine M.cutAt 5 (fun a w=>A 80 1 fx [(0,J g),(1,vs 0),(4,vp 1 0),(6,J f),(7,vp 2 0),(57,vb q)] (K6 e++[.k 83 (mX c)]) a w) ?_ ?_
    .have b:=hz;rcases bB (!p)with i|i
     .replace b:=gy b i;refine M.no rfl rfl i rfl<|M.no rfl rfl i rfl<|M.no rfl rfl i rfl<|M.no rfl rfl i rfl<|M.jg rfl i rfl rfl<|M.aV fun a w h=>?_;cases b;exact h.t (gs 3)
     replace b:=dU b i;refine M.yes rfl rfl i<|M.n d 1 [0,1,4,6,7,52] [(53,vp 2 2)]<|M.yes rfl rfl i<|M.n d 1 [0,1,4,6,7,52,53] [(54,J c.cZ)]<|M.yes rfl rfl i ?_;obtain⟨u,E,b⟩:=bI b;refine M.f (bD Tryz.call30 (kq3x F c.cZ _ E) [] [J c.cZ] (vb u) K iR)<|M.yes rfl rfl i<|M.n d 1 [0,1,4,6,7,52,53,54,55] [(56,vb (!u))]<|M.iW rfl i rfl rfl<|M.aV fun a w h=>?_;cases b;exact h.t (gs 3)
    intro a w h;have b:=hpr;clear hpr hz;refine h.Aw<|M.n d 1 [0,1,4,6,7] [(58,vb q)] ?_;obtain⟨v,hz,hpr⟩:=bI b;clear b;refine M.cutAt 5 (fun a w=>A 80 1 fx [(0,J g),(1,vs 0),(4,vp 1 0),(6,J f),(7,vp 2 0),(63,vb v)] (K6 e++[.k 83 (mX c)]) a w) ?_ ?_
    .have b:=hz;rcases bB (q)with k|k
     .replace b:=gy b k;refine M.no rfl rfl k rfl<|M.no rfl rfl k rfl<|M.no rfl rfl k rfl<|M.no rfl rfl k rfl<|M.jg rfl k rfl rfl<|M.aV fun a w h=>?_;cases b;exact h.t (gs 3)
     replace b:=dU b k;refine M.yes rfl rfl k<|M.n d 1 [0,1,4,6,7,58] [(59,vp 2 3)]<|M.yes rfl rfl k<|M.n d 1 [0,1,4,6,7,58,59] [(60,J c.aA)]<|M.yes rfl rfl k ?_;obtain⟨y,G,b⟩:=bI b;refine M.f (bD Tryz.call31 (kq5t F c.aA _ G) [] [J c.aA] (vb y) K iR)<|M.yes rfl rfl k<|M.n d 1 [0,1,4,6,7,58,59,60,61] [(62,vb (!y))]<|M.iW rfl k rfl rfl<|M.aV fun a w h=>?_;cases b;exact h.t (gs 3)
    intro a w h;have b:=hpr;clear hpr hz;refine h.Aw<|M.n d 10 [0,1,4,6] [(73,vb ((v||(decide (c.bh<0)))||(decide (c.bh>2))))]<|M.nT<|Z.j b (fun b=>?_) fun b=>?_
    .refine Z.d d [4] [(5,J 5)] [(1,31,zM)] [] [] ?_;have ho:=dI b hs1;replace b:=ho1
     try rw[ho]at b
     cases b;exact Z.q d [.g 0,.n,.n,.n,.n,.n]
    refine Z.kJ fun a w h=>?_;exact⟨b,h.t [.g 0,.g 1]⟩
   rintro a w ⟨b,h⟩;refine h.go<|Z.reg<|M.n d 3 [0,1,4] [(6,J (aL (f+1)))]<|M.aV fun a w h=>?_;exact⟨n1,Nat.lt_succ_self _,aL (f+1),nI b hs1,h.t [.g 0,.g 1]⟩
  refine Z.xJ rfl fun a w h=>?_;have ho:=dI b hs1;replace b:=ho1
  try rw[ho]at b
  exact⟨b,h.t [.g 0,.g 1]⟩
 rintro a w ⟨b,h⟩;refine h.go<|Z.s<|M.n d 1 [1,4] [(75,J g)]<|M.f (eL (sz:=5) (E:=83) (R:=dA) (dF:=40) d [] ([]:List fI) K trivial rfl K K)<|M.n d 1 [4,75,76] [(77,vs 0)] ?_;obtain⟨P,H,b⟩:=bI b;refine M.f (gW (i:=2) (l:=([]:List fI)) (sz:=5) (E:=83) (R:=dA) (dF:=40) (m:=e) d rfl K rfl (.r K) H K)<|M.d d 3 [4] [(5,J 0)] [(1,31,[cI g,cI 0,.s 3,nl,nl,cI 1,cb false,nl,nl,cI 0,cI 27])] [] []<|M.nT ?_;cases b;exact Z.q d [.g 0,.z 3,.n,.n,.n,.n]
theorem kq55 F e r(b:q55 F e=some r):Spec Tryz.prog 17 [.g (hx3 e 0)] [.d 5 dA e.ak.1,.d 5 dA e.ak.2,.d 14 IJ e.eZ] (vb r) [.e,.e,.e]:=by
 refine eN Tryz.func17 rfl Tryz.ntmps17 rfl rfl fun fx=>?_;refine Z.s<|M.f (bR (E:=55) (hx3 e 0) K)<|M.n d 1 [1] []<|M.nT<|Z.s<|M.n d 3 [1] [(10,vs 0)] ?_;obtain⟨c,k,b⟩:=bI b;refine M.f (bD Tryz.call10 (kq3g F 0 e.ak.1 _ k) [.g 0] [J 0,vs 0] (.u [.inr (bn c.1 4),.inl (cI c.2)]) K iR)<|M.n d 3 [1] [(12,.g (bn c.1 4)),(13,J c.2)]<|M.f (eA (E:=31) d zM K)<|M.d d 2 [1] [(4,J c.2)] [(9,31,bn c.1 4)] [] []<|M.nT<|Z.s<|M.n d 3 [4] [(17,vs 1)] ?_;obtain⟨f,l,b⟩:=bI b;refine M.f (bD Tryz.call10 (kq3g F 1 e.ak.2 _ l) [.g 1] [J 1,vs 1] (.u [.inr (bn f.1 10),.inl (cI f.2)]) K iR)<|M.n d 3 [4] [(19,.g (bn f.1 10)),(20,J f.2)]<|M.f (eA (E:=31) d zM K)<|M.norm (bC:=([.d 5 dA e.ak.1,.d 5 dA e.ak.2,.d 14 IJ e.eZ,.k 55 (hx3 e 0)]++mI c.1++[.k 31 (bn c.1 4)]++mI f.1++[.k 31 zM])) K<|M.d d 2 [4] [(6,J f.2)] [(15,31,bn f.1 10)] [] []<|M.nT<|Z.n d [] [(2,vb ((c.2 != 0)||(f.2 != 0)))] ?_;cases b;exact Z.q d (gs 3)
def Q8(g i:aJ):List Item:=(mI g++mI i++[.k 31 (bn g 0),.k 31 (bn i 5)])
theorem kq1m F f e r(b:q1m F f e=some r):Spec Tryz.prog 18 [.g (bn f 0),.g (bn e 5)] (mI f++mI e) (vb r) [.e,.e,.e,.e,.e,.e,.e,.e,.e,.e]:=by
 refine eN Tryz.func18 rfl Tryz.ntmps18 rfl rfl fun fx=>?_;refine Z.s<|M.f (bR (E:=31) (bn f 0) K)<|M.f (bR (E:=31) (bn e 5) K)<|M.n d 1 [2,3] []<|M.nT<|Z.cut (fun a w=>q8a F f e=some r/\A 98 10 fx [(2,vp 10 0),(3,vp 11 0)] (Q8 f e) a w) ?_ ?_
 .refine Z.n d [2,3] [(5,J 0)]<|Z.block ?_;obtain⟨o1,hi1,ho1⟩:=bI b;clear b;refine Z.loop (fun n a w=>∃(g:Int),iter (fun s=>q22 F f e s) n g=some o1/\A 98 10 fx [(2,vp 10 0),(3,vp 11 0),(5,J g)] (Q8 f e) a w) F (fun a w h=>⟨0,hi1,h.t (gs 12)⟩) ?_;rintro n1 a w ⟨g,hi1,h⟩;obtain⟨n1,q1,rfl,b,hs1⟩:=iI hi1;replace b:q22 F f e g=some q1:=b;clear hi1;refine h.go<|Z.seq<|Z.n d [2,3,5] [(14,vb (decide (g<len f.aj)))]<|Z.j b (fun b=>?_) fun b=>?_
  .refine Z.aF<|Z.cut (fun a w=>q8b F g=some q1/\A 98 10 fx [(2,vp 10 0),(3,vp 11 0),(5,J g)] (Q8 f e) a w) ?_ ?_
   .refine Z.block<|Z.s ?_;obtain⟨c,t,b⟩:=bI b;refine M.pre (pX (i:=1) (iv:=g) (sz:=15) (R:=dJ) (l:=f.aj) K rfl t)<|M.d d 5 [2,3,5] [(21,.g (hx4 c 13))] [] [.el 12] [g]<|M.f (eA (E:=91) d (mg (aM.mk 0 0 0 0 0 0 0 0 0 0 [] 0 [] 0 false) nl nl) K)<|M.d d 2 [2,3,5,6] [(7,J 0)] [(15,91,hx4 c 13)] [] []<|M.nT<|Z.cut (fun a w=>∃(m:Int),q8c F g c m=some q1/\A 98 10 fx [(2,vp 10 0),(3,vp 11 0),(5,J g),(6,vp 12 0),(7,J m)] (Q8 f e++[.k 91 (hx4 c 13),.d 1 (aN 1 R8) c.Out,.d 1 R8 c.In]) a w) ?_ ?_
    .refine Z.n d [2,3,5,6,7] [(8,J 0)]<|Z.block ?_;obtain⟨o2,hi2,ho2⟩:=bI b;clear b;refine Z.loop (fun n a w=>∃(l i:Int),iter (fun s=>PN F e c s.1 s.2) n (l,i)=some o2/\A 98 10 fx [(2,vp 10 0),(3,vp 11 0),(5,J g),(6,vp 12 0),(7,J l),(8,J i)] (Q8 f e++[.k 91 (hx4 c 13),.d 1 (aN 1 R8) c.Out,.d 1 R8 c.In]) a w) F (fun a w h=>⟨0,0,hi2,h.t (gr [(0,12),(15,1),(13,2)])⟩) ?_;rintro n2 a w ⟨l,i,hi2,h⟩;obtain⟨n2,q2,rfl,b,hs2⟩:=iI hi2;replace b:PN F e c l i=some q2:=b;clear hi2;refine h.go<|Z.seq<|Z.n d [2,3,5,6,7,8] [(26,vb (decide (i<len e.aj)))]<|Z.j b (fun b=>?_) fun b=>?_
     .refine Z.aF<|Z.cut (fun a w=>∃(p:Int),q5u F i p=some q2/\A 98 10 fx [(2,vp 10 0),(3,vp 11 0),(5,J g),(6,vp 12 0),(7,J p),(8,J i)] (Q8 f e++[.k 91 (hx4 c 13),.d 1 (aN 1 R8) c.Out,.d 1 R8 c.In]) a w) ?_ ?_
      .refine Z.block<|Z.s ?_;obtain⟨k,u,b⟩:=bI b;refine M.pre (pX (i:=6) (iv:=i) (sz:=15) (R:=dJ) (l:=e.aj) K rfl u)<|M.d d 5 [2,3,5,6,7,8] [(33,.g (hx4 k 16))] [] [.el 15] [i]<|M.f (eA (E:=91) d (mg (aM.mk 0 0 0 0 0 0 0 0 0 0 [] 0 [] 0 false) nl nl) K)<|M.d d 1 [2,3,5,6,7,8,9] [] [(18,91,hx4 k 16)] [] []<|M.nT<|Z.seq<|Z.n d [2,3,5,6,7,8,9] [(38,vb (k.ap != c.al))]<|Z.j b (fun b=>?_) fun b=>?_
       .refine Z.xJ rfl fun a w h=>?_;exact⟨l,b,h.t (gs 15)⟩
       refine Z.aF<|Z.seq<|Z.n d [2,3,5,6,7,8] [(82,vb ((((((k.al != c.ap)||(k.bT != c.bT))||(k.dh != c.gu))||(k.cZ != c.bJ))||(k.aC != c.aG))||((decide (len c.Out>0))&&(decide (k.bd>0)))))]<|Z.j b (fun b=>?_) fun b=>?_
       .refine Z.n d [] [(4,vb false)] ?_;have ho:=dI b hs2;replace b:=ho2
        try rw[ho]at b
        have ho:=dI b hs1;replace b:=ho1
        try rw[ho]at b
        cases b;exact Z.q d (gs 10)
       refine Z.aF<|Z.reg<|M.n d 3 [2,3,5,6,8] [(7,J (aL (l+1)))]<|M.aV fun a w h=>?_;exact⟨aL (l+1),b,h.t (gs 15)⟩
      rintro a w ⟨p,b,h⟩;refine h.go<|Z.reg<|M.n d 3 [2,3,5,6,7] [(8,J (aL (i+1)))]<|M.aV fun a w h=>?_;exact⟨n2,Nat.lt_succ_self _,p,aL (i+1),nI b hs2,h.t (gs 15)⟩
     refine Z.xJ rfl fun a w h=>?_;have ho:=dI b hs2;replace b:=ho2
     try rw[ho]at b
     exact⟨l,b,h.t (gs 15)⟩
    rintro a w ⟨m,b,h⟩;refine h.go<|Z.n d [2,3,5] [(90,vb ((m != 1)||c.ba))]<|Z.j b (fun b=>?_) fun b=>?_
    .refine Z.n d [] [(4,vb false)] ?_;have ho:=dI b hs1;replace b:=ho1
     try rw[ho]at b
     cases b;exact Z.q d (gs 10)
    refine Z.kJ fun a w h=>?_;exact⟨b,h.t (gs 12)⟩
   rintro a w ⟨b,h⟩;refine h.go<|Z.reg<|M.n d 3 [2,3] [(5,J (aL (g+1)))]<|M.aV fun a w h=>?_;exact⟨n1,Nat.lt_succ_self _,aL (g+1),nI b hs1,h.t (gs 12)⟩
  refine Z.xJ rfl fun a w h=>?_;have ho:=dI b hs1;replace b:=ho1
  try rw[ho]at b
  exact⟨b,h.t (gs 12)⟩
 rintro a w ⟨b,h⟩;refine h.go<|Z.n d [] [(4,vb (len f.aj==len e.aj))] ?_;cases b;exact Z.q d (gs 10)
def Y5a(q:vH)(c:bA×Bool):List Item:=([.d 5 dA q.ak.1,.d 5 dA q.ak.2,.d 14 IJ q.eZ,.k 55 (hx3 q 0),.k 70 (wC c.1 5 17 145)]++wJ0 c.1++[.d 2 bS c.1.aP.1,.d 2 bS c.1.aP.2])
set_option maxHeartbeats 20000000 in
theorem kq3y F e r(b:q3y F e=some r):Spec Tryz.prog 5 [.g (hx3 e 0)] [.d 5 dA e.ak.1,.d 5 dA e.ak.2,.d 14 IJ e.eZ] (vb r) [.e,.e,.e]:=by
 refine eN Tryz.func5 rfl Tryz.ntmps5 rfl rfl fun fx=>?_;refine Z.s<|M.f (bR (E:=55) (hx3 e 0) K)<|M.n d 1 [1] []<|M.nT<|Z.seq<|Z.s<|M.n d 1 [1] [(5,.g (hx3 e 0))] ?_;obtain⟨v,B,b⟩:=bI b;refine M.f (bD Tryz.call15 (kq3z F e _ B) (gs 3) [.g (hx3 e 0)] (vb v) K iR)<|M.n d 1 [1] [(7,vb (!v))]<|M.nT<|Z.j b (fun b=>?_) fun b=>?_
 .refine Z.s ?_;obtain⟨y,C,b⟩:=bI b;refine M.f (bD Tryz.call8 (ab2 F _ C) [] [] (vb y) K iR)<|M.n d 1 [] [(2,vb y)]<|M.nT ?_;cases b;exact Z.q d (gs 3)
 refine Z.aF<|Z.s<|M.n d 1 [1] [(10,.g (hx3 e 0))] ?_;obtain⟨c,D,b⟩:=bI b;refine M.f (bD Tryz.call16 (kq3w F e _ D) (gs 3) [.g (hx3 e 0)] (.u [.inl (.p 4 0),.inl (cb c.2)]) K iR)<|M.n d 5 [1] [(3,vp 4 0),(4,vb c.2)]<|M.nT<|Z.seq<|Z.n d [1,3] [(15,vb (!c.2))]<|Z.j b (fun b=>?_) fun b=>?_
 .refine Z.s<|M.n d 1 [] [(16,.g (hx3 e 0))] ?_;obtain⟨m,E,b⟩:=bI b;refine M.f (bD Tryz.call17 (kq55 F e _ E) (gs 3) [.g (hx3 e 0)] (vb m) K iR)<|M.n d 1 [] [(18,vb m)] ?_;obtain⟨z,hz,hpr⟩:=bI b;clear b;refine M.cutAt 2 (fun a w=>A 55 3 fx [(20,vb z)] [.e,.e,.e] a w) ?_ ?_
  .have b:=hz;rcases bB (m)with g|g
   .replace b:=gy b g;refine M.yes rfl rfl g ?_;obtain⟨G,H,b⟩:=bI b;refine M.f (bD Tryz.call8 (ab2 F _ H) [] [] (vb G) K iR)<|M.norm (bC:=(Y5a e c++(tW c.1.au++[.d 2 bM c.1.aw.1,.d 2 bM c.1.aw.2]))) K<|M.jg rfl g rfl rfl<|M.aV fun a w h=>?_;cases b;exact h.t (gs 3)
   replace b:=dU b g;refine M.no rfl rfl g rfl<|M.iW rfl g rfl rfl<|M.aV fun a w h=>?_;cases b;exact h.t (gs 3)
  intro a w h;have b:=hpr;clear hpr hz;refine h.Aw<|M.n d 1 [] [(2,vb z)]<|M.nT ?_;cases b;exact Z.q d (gs 3)
 refine Z.aF<|Z.cut (fun a w=>∃p,q5v F p=some r/\A 55 3 fx [(2,vb p)] [.e,.e,.e] a w) ?_ ?_
 .refine Z.draw MO (bm 147 133804471191183738849214309635890169036013567) K fun R f=>?_;refine SD.n d f [0,1,2,3,4,5] (bm 35 63) [3] [(26,vb (!c.1.data))] ?_;rcases bB (!c.1.data)with i|i
  .replace b:=gy b i;refine SD.d d f [(26,true)] (qZ rfl i mD) [6,7,8,9,10,11,12,13,14,15] [] [] (bm 35 65535) [3,26] [(31,.g (bn c.1.ai.1 5)),(36,.g (bn c.1.ai.2 10))] ?_;obtain⟨q,L,b⟩:=bI b;refine SD.all1 (i:=16) K<|SW.p8 f (i:=16) (bs':=(bm 35 131071)) rfl (.inr ⟨_,_,_,_,rfl,rfl,rfl,i⟩) rfl (bD Tryz.call18 (kq1m F c.1.ai.1 c.1.ai.2 _ L) (gr [(5,10)]) [.g (bn c.1.ai.1 5),.g (bn c.1.ai.2 10)] (vb q) K iR) K rfl K<|SD.d d f [(26,true)] (qZ rfl i mD) [17,18] [] [] (bm 35 524287) [3] [(39,vb q)] ?_
   rcases bB (q)with k|k
   .replace b:=gy b k;refine SD.d d f [(39,true)] (qZ rfl k mD) [19,20,21,22,23,24,25,26,27,28] [] [] (bm 35 536870911) [39] [(44,.g (bn c.1.ai.2 10)),(49,.g (bn c.1.ai.1 5))] ?_;obtain⟨t,P,b⟩:=bI b;refine SD.all1 (i:=29) K<|SW.p8 f (i:=29) (bs':=(bm 35 1073741823)) rfl (.inr ⟨_,_,_,_,rfl,rfl,rfl,k⟩) rfl (bD Tryz.call18 (kq1m F c.1.ai.2 c.1.ai.1 _ P) (gr [(10,5),(5,5)]) [.g (bn c.1.ai.2 10),.g (bn c.1.ai.1 5)] (vb t) K iR) K rfl K<|SD.norm (bC:=(Y5a e c++(tW c.1.au++[.d 2 bM c.1.aw.1,.d 2 bM c.1.aw.2]))) K<|SD.d d f [(39,true)] (qZ rfl k mD) [30,31] [] [] (bm 35 4294967295) [] [(52,vb t)] ?_
    rcases bB (t)with l|l
    .replace b:=gy b l;obtain⟨u,Q,b⟩:=bI b;refine SD.all1 (i:=32) K<|SW.p8 f (i:=32) (bs':=(bm 35 8589934591)) rfl (.inr ⟨_,_,_,_,rfl,rfl,rfl,l⟩) rfl (bD Tryz.call8 (ab2 F _ Q) [] [] (vb u) K iR) K rfl K<|SD.d d f [(52,true)] (qZ rfl l mD) [33,34] [] [] (bm 35 34359738367) [] [(2,vb u)]<|SD.done K fun a w h=>?_;exact⟨u,b,h.t (gs 3)⟩
    replace b:=dU b l;refine SD.d d f [(52,false)] (qZ rfl l mD) [32,33,34] [] [] (bm 35 34359738367) [] [(2,vb false)]<|SD.done K fun a w h=>?_;exact⟨false,b,h.t (gs 3)⟩
   replace b:=dU b k;refine SD.d d f [(39,false)] (qZ rfl k mD) [19,20,21,22,23,24,25,26,27,28,29,30,31] [] [] (bm 35 4294967295) [] [(52,vb false)]<|SD.d d f [(52,false)] (qZ rfl rfl mD) [32,33,34] [] [] (bm 35 34359738367) [] [(2,vb false)]<|SD.done K fun a w h=>?_;exact⟨false,b,h.t (gs 3)⟩
  replace b:=dU b i;refine SD.d d f [(26,false)] (qZ rfl i mD) [6,7,8,9,10,11,12,13,14,15,16,17,18] [] [] (bm 35 524287) [3] [(39,vb false)]<|SD.d d f [(39,false)] (qZ rfl rfl mD) [19,20,21,22,23,24,25,26,27,28,29,30,31] [] [] (bm 35 4294967295) [] [(52,vb false)]<|SD.d d f [(52,false)] (qZ rfl rfl mD) [32,33,34] [] [] (bm 35 34359738367) [] [(2,vb false)]<|SD.done K fun a w h=>?_;exact⟨false,b,h.t (gs 3)⟩
 rintro a w ⟨p,b,h⟩;refine h.go ?_;cases b;exact Z.q d (gs 3)
end V
end Go.Proofs.YtbgfhaahhdnogaaGreat
