/- Walks, wn by program: each Go function returns what its -/
import Derived.Test.YtbgfhaahhdnogaaGreatW4
namespace Go.Proofs.YtbgfhaahhdnogaaGreat
namespace V
def kS(iT:bA):List Item:=([.e,.e,.e,.e,.e,.e,.e,.e,.e,.e,.e,.e,.e,.e]++wJ0 iT++[.o 2 45 bS iT.aP.1])
def jY(iT:bA):List Item:=wF0 iT
def AO:List Item:=[.e,.e,.e,.e,.e,.e,.e,.e,.e,.e,.e,.e,.e,.e]
set_option maxHeartbeats 20000000 in
theorem kq3d F m z r(b:q3d F m z=some r):Spec Tryz.prog 50 [vp 0 0,J 1,J z] ([.k 70 (wC m 1 13 141)]++wJ0 m++wA m++(tW m.au++wF0 m)) (.u []) (([.k 70 (wC r 143 155 283)]++(bH++[.e,.e,.e,.e,.e,.e,.e,.e,.e,.e,.e,.e,.e,.e]++wJ0 r++wA r))++(tW r.au++wF0 r)):=by
 refine eN Tryz.func50 rfl Tryz.ntmps50 rfl rfl fun fx=>?_;refine Z.mid (fun a w=>∃p,q92 F p=some r/\A 75 143 fx [] (([.k 70 (wC p 143 155 283)]++(bH++(AO++wJ0 p++wA p)))++(tW p.au++wF0 p)) a w) ?_ ?_
 .refine Z.block ?_;obtain⟨o1,hi1,ho1⟩:=bI b;clear b;refine Z.loop (fun n a w=>∃(c:bA) (i:Int),iter (fun s=>Zv F s.1 s.2) n (c,i)=some o1/\A 75 143 fx [(0,vp 0 0),(1,J 1),(2,J i)] (([.k 70 (wC c 143 155 283)]++(bH++(kS c++[.o 2 45 bS c.aP.2])))++(tW c.au++jY c)) a w) F (fun a w h=>⟨m,z,hi1,h.t (gr [(0,143),(1,142)])⟩) ?_;rintro n1 a w ⟨c,i,hi1,h⟩;obtain⟨n1,q1,rfl,b,hs1⟩:=iI hi1;replace b:Zv F c i=some q1:=b;clear hi1;refine h.go<|Z.seq<|Z.n d [0,1,2] [(20,vb ((decide (i>0))&&(decide (len c.aP.2>0))))]<|Z.j b (fun b=>?_) fun b=>?_
  .refine Z.aF<|Z.cut (fun a w=>∃(l:bA),q80 F i l=some q1/\A 75 143 fx [(0,vp 0 0),(1,J 1),(2,J i)] (([.k 70 (wC l 143 155 283)]++(bH++(AO++wJ0 l++wA l)))++(tW l.au++wF0 l)) a w) ?_ ?_
   .refine Z.block<|Z.cut (fun a w=>∃(g:aJ) (q:List iw),q83 F c i g q=some q1/\A 75 143 fx [(0,vp 0 0),(1,J 1),(2,J i),(6,vp 285 0),(7,vs 291)] (([.k 70 (wC c 143 155 283)]++(bH++(kS c++[.o 2 45 bS c.aP.2])))++(tW c.au++(jY c++[.k 31 (bn g 286)]++mI g++[.d 10 dW q]))) a w) ?_ ?_
    .refine Z.draw MO (bm 285 46624053413417497702067085763764453759463424913045339960925792216896950365108498857985) K fun S f=>?_;refine SD.n d f [0,1,2,3,4,5,6,7,8,9,10,11,12] (bm 22 8191) [0,1,2] [(30,.g (bn c.ai.1 143)),(36,vs 154)] ?_;obtain⟨T,C,b⟩:=bI b;obtain⟨v,D,b⟩:=bI b;obtain⟨e,E,b⟩:=bI b;refine SD.lay 0 (bm 22 4194303) [(0,vp 0 0),(1,J 1),(2,J i),(6,vp 293 0),(7,vs 292)] (([.k 70 (wC c 143 155 283)]++(bH++(kS c++[.o 2 45 bS c.aP.2])))++(tW c.au++(jY c++[.e,.e]++mI e.1++[.d 10 dW e.2,.k 31 (bn e.1 287)]))) ?_ (fun c0=>?_)
     .refine SD.done K fun a w h=>?_;exact⟨e.1,e.2,b,h.t (gr [(0,285),(293,1),(287,6)])⟩
     refine SD.lay 2 (bm 22 1048575) [(0,vp 0 0),(1,J 1),(2,J i),(6,vp 293 0),(40,.g (bn e.1 287)),(41,vs 292)] (([.k 70 (wC c 143 155 283)]++(bH++(kS c++[.o 2 45 bS c.aP.2])))++(tW c.au++(jY c++[.e,.e]++mI e.1++[.d 10 dW e.2,.k 31 zM]))) ?_ (fun c1=>?_)
     .exact SD.all1 (i:=20) K<|SW.store f d (i:=20) (q:=293) (T:=31) (cs:=(bn e.1 287)) (bs':=(bm 22 2097151)) rfl K K rfl K<|SD.n d f [21] (bm 22 4194303) [0,1,2,6] [(7,vs 292)]<|SD.kG f (gr [(0,285)]++[.n,.n]++gr [(287,7)]) c0 K
     refine SD.lay 3 (bm 22 524287) [(0,vp 0 0),(1,J 1),(2,J i),(40,.g (bn e.1 287)),(41,vs 292)] (([.k 70 (wC c 143 155 283)]++(bH++(kS c++[.o 2 45 bS c.aP.2])))++(tW c.au++(jY c++[.e,.e]++mI e.1++[.d 10 dW e.2]))) ?_ (fun c2=>?_)
     .exact SD.all1 (i:=19) K<|SW.f f 19 (bm 22 1048575) rfl rfl rfl (eA (E:=31) d zM K)<|SD.kG f (gr [(0,285)]++[.n,.n]++gr [(287,7)]) c1 K
     refine SD.lay 6 (bm 22 557055) [(0,vp 0 0),(1,J 1),(2,J i),(6,vp 287 0),(30,.g (bn c.ai.1 143)),(38,.g [cI v.dV,.s 286])] (([.k 70 (wC c 143 155 283)]++(bH++(kS c++[.o 2 45 bS c.aP.2])))++(tW c.au++(jY c++[.e,.d 1 R8 v.am,.k 31 zM]))) ?_ (fun c3=>?_)
     .exact SD.all1 (i:=15) K<|SW.f f 15 (bm 22 589823) rfl rfl rfl (bD Tryz.call21 (kql F c.ai.1 v _ E) (gr [(143,5),(286,1)]) [.g (bn c.ai.1 143),.g [cI v.dV,.s 286]] (.u [.inr (bn e.1 288),.inl (.s 293)]) K iR)<|SD.n d f [16,17,18] (bm 22 1048575) [0,1,2,6] [(40,.g (bn e.1 288)),(41,vs 293)]<|SD.kG f (gr [(0,285)]++[.n,.n]++gr [(288,6),(287,1)]) c1 K
     refine SD.lay 7 (bm 22 32767) [(0,vp 0 0),(1,J 1),(2,J i),(30,.g (bn c.ai.1 143)),(38,.g [cI v.dV,.s 286])] (([.k 70 (wC c 143 155 283)]++(bH++(kS c++[.o 2 45 bS c.aP.2])))++(tW c.au++(jY c++[.e,.d 1 R8 v.am]))) ?_ (fun c4=>?_)
     .refine SD.all2 (i:=15) (j:=19) K ?_ ?_
      .exact SW.f f 15 (bm 22 65535) rfl rfl rfl (bD Tryz.call21 (kql F c.ai.1 v _ E) (gr [(143,5),(286,1)]) [.g (bn c.ai.1 143),.g [cI v.dV,.s 286]] (.u [.inr (bn e.1 287),.inl (.s 292)]) K iR)<|SD.n d f [16,17,18] (bm 22 524287) [0,1,2] [(40,.g (bn e.1 287)),(41,vs 292)]<|SD.kG f (gr [(0,285)]++[.n,.n]++gr [(287,6)]) c2 K
      exact SW.f f 19 (bm 22 557055) rfl rfl rfl (eA (E:=31) d zM K)<|SD.kG f (gr [(0,285)]++[.n]++gr [(286,2)]) c3 K
     refine SD.lay 7 (bm 22 540671) [(0,vp 0 0),(1,J 1),(2,J i),(6,vp 285 0),(30,.g (bn c.ai.1 143)),(37,vp 154 ((0:Int).toNat*2))] (([.k 70 (wC c 143 155 283)]++(bH++(kS c++[.o 2 45 bS c.aP.2])))++(tW c.au++(jY c++[.k 31 zM]))) ?_ (fun c5=>?_)
     .exact SD.all1 (i:=14) K<|SW.f f 14 (bm 22 557055) rfl rfl rfl (FW (sz:=2) (E:=45) (R:=bS) (i:=154) (iv:=0) (l:=c.aP.2) d rfl rfl D K K rfl)<|SD.kG f (gr [(0,285)]++[.n]++[.g 287,.g 285]) c3 K
     refine SD.lay 8 (bm 22 16383) [(0,vp 0 0),(1,J 1),(2,J i),(30,.g (bn c.ai.1 143)),(37,vp 154 ((0:Int).toNat*2))] (([.k 70 (wC c 143 155 283)]++(bH++(kS c++[.o 2 45 bS c.aP.2])))++(tW c.au++jY c)) ?_ (fun c6=>?_)
     .refine SD.all2 (i:=14) (j:=19) K ?_ ?_
      .exact SW.f f 14 (bm 22 32767) rfl rfl rfl (FW (sz:=2) (E:=45) (R:=bS) (i:=154) (iv:=0) (l:=c.aP.2) d rfl rfl D K K rfl)<|SD.kG f (gr [(0,285)]++[.n]++[.g 286]) c4 K
      exact SW.f f 19 (bm 22 540671) rfl rfl rfl (eA (E:=31) d zM K)<|SD.kG f (gs 286) c5 K
     refine SD.lay 8 (bm 22 532479) [(0,vp 0 0),(1,J 1),(2,J i),(6,vp 285 0),(30,.g (bn c.ai.1 143)),(36,vs 154)] (([.k 70 (wC c 143 155 283)]++(bH++(kS c++[.o 2 45 bS c.aP.2])))++(tW c.au++(jY c++[.k 31 zM]))) ?_ (fun c7=>?_)
     .exact SD.all1 (i:=13) K<|SW.f f 13 (bm 22 540671) rfl rfl rfl (nG (sz:=2) (E:=45) (R:=bS) (dF:=32) (l:=c.aP.2) d rfl rfl rfl C K)<|SD.kG f (gs 286) c5 K
     refine SD.all2 (i:=13) (j:=19) K ?_ ?_
     .exact SW.f f 13 (bm 22 16383) rfl rfl rfl (nG (sz:=2) (E:=45) (R:=bS) (dF:=32) (l:=c.aP.2) d rfl rfl rfl C K)<|SD.kG f (gs 285) c6 K
     exact SW.f f 19 (bm 22 532479) rfl rfl rfl (eA (E:=31) d zM K)<|SD.kG f (gs 286) c7 K
    rintro a w ⟨g,q,b,h⟩;refine h.go<|Z.cut (fun a w=>∃(t:List eY),q82 F c i g q t=some q1/\A 75 143 fx [(0,vp 0 0),(1,J 1),(2,J i),(6,vp 285 0),(7,vs 291)] (([.k 70 (wC ({c with aP:=(c.aP.1,t)}) 143 155 283)]++(bH++(kS c++[.o 2 45 bS t])))++(tW c.au++(jY c++[.k 31 (bn g 286)]++mI g++[.d 10 dW q]))) a w) ?_ ?_
    .refine Z.rY MO (bm 292 7941630431418780441918760275094545290354181982857857058970194492820292773516893711499264,bm 292 7941630431418780441918760275094545290354181982857857058970194492820292773516893711499265,[12]) K fun U y=>?_;refine SD.n d y [0,1,2,3,4,5,6,7,9,10] (bm 13 1791) [0,1,2,6,7] [(43,J 1),(49,vs 154),(52,vp 0 22)] ?_;obtain⟨G,L,b⟩:=bI b;refine SD.all1 (i:=8) K<|SW.f y 8 (bm 13 2047) rfl rfl rfl (rA (sz:=2) (E:=45) (R:=bS) (i:=154) (dF:=32) (l:=c.aP.2) d rfl K rfl rfl L K)<|SD.n d y [11] (bm 13 4095) [0,1,2,6,7,50] [(53,vp 0 23)]<|SD.all1 (i:=12) K<|SW.store y d (i:=12) (q:=0) (T:=70) (cs:=(kU ({c with aP:=(c.aP.1,G)}) (.s 143) (.s 144) (.s 145) (.s 146) (.s 147) (.s 148) (.s 149) (.s 150) (.s 151) (.s 152) (.s 153) (.s 292) 155 (.s 283) (.s 284))) (bs':=(bm 13 8191)) rfl K K rfl K<|SD.done K fun a w h=>?_;exact⟨G,b,h.t (gr [(0,154),(292,1),(155,137)])⟩
    rintro a w ⟨t,b,h⟩;refine h.go<|Z.cut (fun a w=>q81 F c i g q t=some q1/\A 75 143 fx [(0,vp 0 0),(1,J 1),(2,J i),(7,vs 285)] (([.k 70 (wC ({c with ai:=(g,c.ai.2),aP:=(c.aP.1,t)}) 143 155 283)]++(bH++(AO++mI g++mI c.ai.2++[.o 2 45 bS c.aP.1,.o 2 45 bS t])))++(tW c.au++(jY c++[.d 10 dW q]))) a w) ?_ ?_
    .refine Z.rY MO (bm 292 7941630431418780441918760275094545290354204818820940354328291425395803965439075835445248,bm 292 7941630431418780441918760275094545290354204818820940354328291425395803965439075835445249,[7]) K fun W H=>?_;refine SD.n d H [0,1,2,3,4,5,6] (bm 8 127) [0,1,2,7] [(57,.g (bn g 286)),(60,vp 0 0)]<|SD.all1 (i:=7) K<|SW.store H d (i:=7) (q:=0) (T:=70) (cs:=(kU ({c with ai:=(g,c.ai.2),aP:=(c.aP.1,t)}) (.s 286) (.s 287) (.s 288) (.s 289) (.s 290) (.s 148) (.s 149) (.s 150) (.s 151) (.s 152) (.s 153) (.s 154) 155 (.s 283) (.s 284))) (bs':=(bm 8 255)) rfl K K rfl K<|SD.done K fun a w h=>?_;exact⟨b,h.t (gr [(0,143),(286,5),(148,137),(291,1)])⟩
    rintro a w ⟨b,h⟩;refine h.go<|Z.n d [0,1,2,7] [(8,J 0)]<|Z.block ?_;obtain⟨o2,hi2,ho2⟩:=bI b;clear b;refine Z.loop (fun n a w=>∃(k:bA) (u:Int),iter (fun s=>q6b F q s.1 s.2) n (k,u)=some o2/\A 75 143 fx [(0,vp 0 0),(1,J 1),(2,J i),(7,vs 285),(8,J u)] (([.k 70 (wC k 143 155 283)]++(bH++(AO++wJ0 k++wA k)))++(tW k.au++wF0 k++[.d 10 dW q])) a w) F (fun a w h=>⟨{c with ai:=(g,c.ai.2),aP:=(c.aP.1,t)},0,hi2,h.t (gs 286)⟩) ?_;rintro n2 a w ⟨k,u,hi2,h⟩;obtain⟨n2,q2,rfl,b,hs2⟩:=iI hi2;replace b:q6b F q k u=some q2:=b;clear hi2;refine h.go<|Z.seq<|Z.n d [0,1,2,7,8] [(64,vb (decide (u<len q)))]<|Z.j b (fun b=>?_) fun b=>?_
    .refine Z.aF<|Z.seq<|Z.block<|Z.reg ?_;obtain⟨B,P,b⟩:=bI b;refine M.pre (pX (i:=285) (iv:=u) (sz:=10) (R:=dW) (l:=q) K rfl P)<|M.d d 7 [0,1,2,7,8] [(67,vp 0 0),(69,J 0),(73,.g (kE B (.s 287)))] [] [.el 286] [u] ?_;obtain⟨Q,R,b⟩:=bI b;refine M.f (bD Tryz.call95 (kq3v F k B _ R) (gr [(0,1),(143,142),(287,1)]) [vp 0 0,J 0,.g (kE B (.s 287))] (.u []) K iR)<|M.nT<|Z.reg<|M.n d 3 [0,1,2,7] [(8,J (aL (u+1)))]<|M.aV fun a w h=>?_;exact⟨n2,Nat.lt_succ_self _,Q,aL (u+1),nI b hs2,h.t (gr [(0,143),(288,142),(285,1)])⟩
    refine Z.xJ rfl fun a w h=>?_;have ho:=dI b hs2;replace b:=ho2
    try rw[ho]at b
    exact⟨k,b,h.t (gs 285)⟩
   rintro a w ⟨l,b,h⟩;refine h.go<|Z.reg<|M.n d 3 [0,1] [(2,J (aL (i-1)))]<|M.aV fun a w h=>?_;exact⟨n1,Nat.lt_succ_self _,l,aL (i-1),nI b hs1,h.t (gs 285)⟩
  refine Z.xJ rfl fun a w h=>?_;have ho:=dI b hs1;replace b:=ho1
  try rw[ho]at b
  exact⟨c,b,h.t (gs 285)⟩
 rintro a w ⟨p,b,h⟩;cases b;exact A.re (js:=(gs 285)) d h K
end V
end Go.Proofs.YtbgfhaahhdnogaaGreat
