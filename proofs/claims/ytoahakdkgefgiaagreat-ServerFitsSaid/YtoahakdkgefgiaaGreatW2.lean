/- Walks, wn by program: each Go function returns what its -/
import Derived.Test.YtoahakdkgefgiaaGreatW1
namespace Go.Proofs.YtoahakdkgefgiaaGreat
namespace V
def Y43a (s_1:Tx8):List Item:=[.rd 5 Rx1 s_1.DB,.rd 3 Rx7 s_1.Queue,.rd 2 Rx6 s_1.Subs,.rd 12 Rx3 s_1.Out,.blk 30 (hx8 s_1 0)]
def Y43b (c_6:Tx8) (l_7:(List Tx7)) (l_9:(List Tx3)) (s_1:Tx8) (x_11:Tx3):List Item:=[.gone,.gone,.gone,.gone,.blk 30 (hx8 ({ s_1 with DB:=c_6.DB,Queue:=l_7,Subs:=c_6.Subs,Out:=l_9 }) 5),.own 5 56 Rx1 c_6.DB,.own 3 115 Rx7 l_7,.own 2 83 Rx6 c_6.Subs,.own 12 47 Rx3 l_9,.gone,.rd 1 R8 x_11.Value,.rd 5 Rx2 x_11.List,.blk 47 (hx3 x_11 10)]
def Y43c (c_6:Tx8) (l_894:(List Tx7)) (s_1:Tx8) (x_896:Tx7):List Item:=[.gone,.gone,.gone,.gone,.blk 30 (hx8 ({ s_1 with DB:=c_6.DB,Queue:=l_894,Subs:=c_6.Subs,Out:=c_6.Out }) 5),.own 5 56 Rx1 c_6.DB,.own 3 115 Rx7 l_894,.own 2 83 Rx6 c_6.Subs,.own 12 47 Rx3 c_6.Out,.gone,.rd 1 R8 x_896.Value,.blk 115 (Cx7 x_896 (.s 10))]
def Y43d (s_1:Tx8):List Item:=[.rd 5 Rx1 s_1.DB,.rd 3 Rx7 s_1.Queue,.rd 2 Rx6 s_1.Subs,.rd 12 Rx3 s_1.Out]
theorem kq1x (F:Nat) (B1:Tx8) (r:Txa) (hp:q1x F B1=some r):Spec Tryz.prog 43 [.g (hx8 B1 0)] [.rd 5 Rx1 B1.DB,.rd 3 Rx7 B1.Queue,.rd 2 Rx6 B1.Subs,.rd 12 Rx3 B1.Out] (vp 4 0) [.gone,.gone,.gone,.gone,.blk 97 [.s 5,ci .i64 r.Server.MTU,ci .i64 r.Server.Max,ci .i64 r.Server.Level,.s 6,ci .i64 r.Server.Aware,cb r.Server.Robust,.s 7,.s 8,cb r.Server.Wait,ci .i64 r.Server.Since,.s 9],.own 5 56 Rx1 r.Server.DB,.own 3 115 Rx7 r.Server.Queue,.own 2 83 Rx6 r.Server.Subs,.rd 12 Rx3 r.Server.Out,.rd 1 (RInt .u16) r.wn]:=by
 refine Spec.enter Tryz.func43 rfl Tryz.ntmps43 rfl rfl fun fx=>?_;refine SC.s (SL.f (e_box (E:=30) (hx8 B1 0) K) (SL.m tk 1 [(1,vp 4 0)] (SL.nT (SC.cut (fun a w=>∃(B2:Tx8),q4r F B1 B2=some r∧A 62 4 fx [(1,vp 4 0)] [.gone,.gone,.gone,.gone,.blk 30 (hx8 ({ B1 with DB:=B2.DB,Queue:=B2.Queue,Subs:=B2.Subs,Out:=B2.Out }) 5),.own 5 56 Rx1 B2.DB,.own 3 115 Rx7 B2.Queue,.own 2 83 Rx6 B2.Subs,.own 12 47 Rx3 B2.Out] a w) ?_ ?_))))
 ·refine SC.draw MO [true,true,true,true,false] K fun E1 B0=>?_;obtain⟨B3,B9,hp⟩:=bI hp;obtain⟨B6,Bh,hp⟩:=bI hp;obtain⟨Bd,Bl,hp⟩:=bI hp;obtain⟨Bg,Bq,hp⟩:=bI hp;refine SD.lay 0 (bm 20 1048575) [(1,vp 4 0)] (Y43d B1++[.blk 30 (Cx8 ({ B1 with DB:=B3,Queue:=Bd,Subs:=B6,Out:=Bg }) (.s 5) (.s 7) (.s 6) (.s 8)),.own 5 56 Rx1 B3,.own 2 83 Rx6 B6,.own 3 115 Rx7 Bd,.own 12 47 Rx3 Bg]) ?_ (fun c0=>?_)
  ·refine SD.done K fun a w h=>?_;exact⟨{ B1 with DB:=B3,Queue:=Bd,Subs:=B6,Out:=Bg },hp,h.t [.g 0,.g 1,.g 2,.g 3,.g 4,.g 5,.g 7,.g 6,.g 8]⟩
  refine SD.lay 1 (bm 20 524287) [(1,vp 4 0),(18,vs 8),(22,vp 4 8)] (Y43d B1++[.blk 30 (Cx8 ({ B1 with DB:=B3,Queue:=Bd,Subs:=B6 }) (.s 5) (.s 7) (.s 6) (.s 3)),.own 5 56 Rx1 B3,.own 2 83 Rx6 B6,.own 3 115 Rx7 Bd,.own 12 47 Rx3 Bg]) ?_ (fun c1=>?_)
  ·exact SD.all1 (i:=19) K (SW.store B0 tk (i:=19) (q:=4) (T:=30) (cs:=(Cx8 ({ B1 with DB:=B3,Queue:=Bd,Subs:=B6,Out:=Bg }) (.s 5) (.s 7) (.s 6) (.s 8))) (bs':=(bm 20 1048575)) rfl K rfl rfl K (SD.vie B0 (gs 9) c0 K))
  refine SD.lay 2 (bm 20 262143) [(1,vp 4 0),(18,vs 8)] (Y43d B1++[.blk 30 (Cx8 ({ B1 with DB:=B3,Queue:=Bd,Subs:=B6 }) (.s 5) (.s 7) (.s 6) (.s 3)),.own 5 56 Rx1 B3,.own 2 83 Rx6 B6,.own 3 115 Rx7 Bd,.own 12 47 Rx3 Bg]) ?_ (fun c2=>?_)
  ·exact SD.all1 (i:=18) K (SW.w tk B0 18 (vp 4 8) (bm 20 524287) (SD.vie B0 (gs 9) c1 K))
  refine SD.lay 3 (bm 20 131071) [(1,vp 4 0),(15,vs 7),(18,vs 8),(21,vp 4 4)] (Y43d B1++[.blk 30 (Cx8 ({ B1 with DB:=B3,Subs:=B6 }) (.s 5) (.s 1) (.s 6) (.s 3)),.own 5 56 Rx1 B3,.own 2 83 Rx6 B6,.own 3 115 Rx7 Bd,.own 12 47 Rx3 Bg]) ?_ (fun c3=>?_)
  ·exact SD.all1 (i:=17) K (SW.store B0 tk (i:=17) (q:=4) (T:=30) (cs:=(Cx8 ({ B1 with DB:=B3,Queue:=Bd,Subs:=B6 }) (.s 5) (.s 7) (.s 6) (.s 3))) (bs':=(bm 20 262143)) rfl K rfl rfl K (SD.vie B0 (gs 9) c2 K))
  refine SD.lay 4 (bm 20 65535) [(1,vp 4 0),(15,vs 7),(18,vs 8)] (Y43d B1++[.blk 30 (Cx8 ({ B1 with DB:=B3,Subs:=B6 }) (.s 5) (.s 1) (.s 6) (.s 3)),.own 5 56 Rx1 B3,.own 2 83 Rx6 B6,.own 3 115 Rx7 Bd,.own 12 47 Rx3 Bg]) ?_ (fun c4=>?_)
  ·exact SD.all1 (i:=16) K (SW.w tk B0 16 (vp 4 4) (bm 20 131071) (SD.vie B0 (gs 9) c3 K))
  refine SD.lay 5 (bm 20 32767) [(1,vp 4 0),(12,vs 6),(15,vs 7),(18,vs 8),(20,vp 4 7)] (Y43d B1++[.blk 30 (Cx8 ({ B1 with DB:=B3 }) (.s 5) (.s 1) (.s 2) (.s 3)),.own 5 56 Rx1 B3,.own 2 83 Rx6 B6,.own 3 115 Rx7 Bd,.own 12 47 Rx3 Bg]) ?_ (fun c5=>?_)
  ·exact SD.all1 (i:=15) K (SW.store B0 tk (i:=15) (q:=4) (T:=30) (cs:=(Cx8 ({ B1 with DB:=B3,Subs:=B6 }) (.s 5) (.s 1) (.s 6) (.s 3))) (bs':=(bm 20 65535)) rfl K rfl rfl K (SD.vie B0 (gs 9) c4 K))
  refine SD.lay 6 (bm 20 16383) [(1,vp 4 0),(12,vs 6),(15,vs 7),(18,vs 8)] (Y43d B1++[.blk 30 (Cx8 ({ B1 with DB:=B3 }) (.s 5) (.s 1) (.s 2) (.s 3)),.own 5 56 Rx1 B3,.own 2 83 Rx6 B6,.own 3 115 Rx7 Bd,.own 12 47 Rx3 Bg]) ?_ (fun c6=>?_)
  ·exact SD.all1 (i:=14) K (SW.w tk B0 14 (vp 4 7) (bm 20 32767) (SD.vie B0 (gs 9) c5 K))
  refine SD.lay 7 (bm 20 8191) [(1,vp 4 0),(9,vs 5),(12,vs 6),(15,vs 7),(18,vs 8),(19,vp 4 0)] (Y43a B1++[.own 5 56 Rx1 B3,.own 2 83 Rx6 B6,.own 3 115 Rx7 Bd,.own 12 47 Rx3 Bg]) ?_ (fun c7=>?_)
  ·exact SD.all1 (i:=13) K (SW.store B0 tk (i:=13) (q:=4) (T:=30) (cs:=(Cx8 ({ B1 with DB:=B3 }) (.s 5) (.s 1) (.s 2) (.s 3))) (bs':=(bm 20 16383)) rfl K rfl rfl K (SD.vie B0 (gs 9) c6 K))
  refine SD.lay 8 (bm 20 4095) [(1,vp 4 0),(9,vs 5),(12,vs 6),(15,vs 7),(18,vs 8)] (Y43a B1++[.own 5 56 Rx1 B3,.own 2 83 Rx6 B6,.own 3 115 Rx7 Bd,.own 12 47 Rx3 Bg]) ?_ (fun c8=>?_)
  ·exact SD.all1 (i:=12) K (SW.w tk B0 12 (vp 4 0) (bm 20 8191) (SD.vie B0 (gs 9) c7 K))
  refine SD.lay 8 (bm 20 6143) [(1,vp 4 0),(9,vs 5),(12,vs 6),(15,vs 7),(17,vs 3),(19,vp 4 0)] (Y43a B1++[.own 5 56 Rx1 B3,.own 2 83 Rx6 B6,.own 3 115 Rx7 Bd]) ?_ (fun c9=>?_)
  ·exact SD.all1 (i:=11) K (SW.f B0 11 (bm 20 8191) rfl rfl rfl (e_c Tryz.call81 (kq2j F B1.Out _ Bq) [.g 3] [vs 3] (vs 8) K (.inl rfl)) (SD.vie B0 (gs 9) c7 K))
  refine SD.lay 9 (bm 20 2047) [(1,vp 4 0),(9,vs 5),(12,vs 6),(15,vs 7),(17,vs 3)] (Y43a B1++[.own 5 56 Rx1 B3,.own 2 83 Rx6 B6,.own 3 115 Rx7 Bd]) ?_ (fun c10=>?_)
  ·refine SD.all2 (i:=11) (j:=12) K ?_ ?_
   ·exact SW.f B0 11 (bm 20 4095) rfl rfl rfl (e_c Tryz.call81 (kq2j F B1.Out _ Bq) [.g 3] [vs 3] (vs 8) K (.inl rfl)) (SD.vie B0 (gs 9) c8 K)
   exact SW.w tk B0 12 (vp 4 0) (bm 20 6143) (SD.vie B0 (gs 8) c9 K)
  refine SD.lay 10 (bm 20 1023) [(1,vp 4 0),(9,vs 5),(12,vs 6),(15,vs 7),(16,vp 4 8)] (Y43a B1++[.own 5 56 Rx1 B3,.own 2 83 Rx6 B6,.own 3 115 Rx7 Bd]) ?_ (fun c11=>?_)
  ·exact SD.all1 (i:=10) K (SW.w tk B0 10 (vs 3) (bm 20 2047) (SD.vie B0 (gs 8) c10 K))
  refine SD.lay 11 (bm 20 511) [(1,vp 4 0),(9,vs 5),(12,vs 6),(15,vs 7)] (Y43a B1++[.own 5 56 Rx1 B3,.own 2 83 Rx6 B6,.own 3 115 Rx7 Bd]) ?_ (fun c12=>?_)
  ·exact SD.all1 (i:=9) K (SW.w tk B0 9 (vp 4 8) (bm 20 1023) (SD.vie B0 (gs 8) c11 K))
  refine SD.lay 9 (bm 20 5887) [(1,vp 4 0),(9,vs 5),(12,vs 6),(14,vs 1),(17,vs 3),(19,vp 4 0)] (Y43a B1++[.own 5 56 Rx1 B3,.own 2 83 Rx6 B6]) ?_ (fun c13=>?_)
  ·exact SD.all1 (i:=8) K (SW.f B0 8 (bm 20 6143) rfl rfl rfl (e_c Tryz.call80 (kq1a F B1.Queue _ Bl) [.g 1] [vs 1] (vs 7) K (.inl rfl)) (SD.vie B0 (gs 8) c9 K))
  refine SD.lay 10 (bm 20 1791) [(1,vp 4 0),(9,vs 5),(12,vs 6),(14,vs 1),(17,vs 3)] (Y43a B1++[.own 5 56 Rx1 B3,.own 2 83 Rx6 B6]) ?_ (fun c14=>?_)
  ·refine SD.all2 (i:=8) (j:=12) K ?_ ?_
   ·exact SW.f B0 8 (bm 20 2047) rfl rfl rfl (e_c Tryz.call80 (kq1a F B1.Queue _ Bl) [.g 1] [vs 1] (vs 7) K (.inl rfl)) (SD.vie B0 (gs 8) c10 K)
   exact SW.w tk B0 12 (vp 4 0) (bm 20 5887) (SD.vie B0 (gs 7) c13 K)
  refine SD.lay 11 (bm 20 767) [(1,vp 4 0),(9,vs 5),(12,vs 6),(14,vs 1),(16,vp 4 8)] (Y43a B1++[.own 5 56 Rx1 B3,.own 2 83 Rx6 B6]) ?_ (fun c15=>?_)
  ·refine SD.all2 (i:=8) (j:=10) K ?_ ?_
   ·exact SW.f B0 8 (bm 20 1023) rfl rfl rfl (e_c Tryz.call80 (kq1a F B1.Queue _ Bl) [.g 1] [vs 1] (vs 7) K (.inl rfl)) (SD.vie B0 (gs 8) c11 K)
   exact SW.w tk B0 10 (vs 3) (bm 20 1791) (SD.vie B0 (gs 7) c14 K)
  refine SD.lay 12 (bm 20 255) [(1,vp 4 0),(9,vs 5),(12,vs 6),(14,vs 1)] (Y43a B1++[.own 5 56 Rx1 B3,.own 2 83 Rx6 B6]) ?_ (fun c16=>?_)
  ·refine SD.all2 (i:=8) (j:=9) K ?_ ?_
   ·exact SW.f B0 8 (bm 20 511) rfl rfl rfl (e_c Tryz.call80 (kq1a F B1.Queue _ Bl) [.g 1] [vs 1] (vs 7) K (.inl rfl)) (SD.vie B0 (gs 8) c12 K)
   exact SW.w tk B0 9 (vp 4 8) (bm 20 767) (SD.vie B0 (gs 7) c15 K)
  refine SD.lay 11 (bm 20 1663) [(1,vp 4 0),(9,vs 5),(12,vs 6),(13,vp 4 4),(17,vs 3)] (Y43a B1++[.own 5 56 Rx1 B3,.own 2 83 Rx6 B6]) ?_ (fun c17=>?_)
  ·exact SD.all1 (i:=7) K (SW.w tk B0 7 (vs 1) (bm 20 1791) (SD.vie B0 (gs 7) c14 K))
  refine SD.lay 12 (bm 20 639) [(1,vp 4 0),(9,vs 5),(12,vs 6),(13,vp 4 4),(16,vp 4 8)] (Y43a B1++[.own 5 56 Rx1 B3,.own 2 83 Rx6 B6]) ?_ (fun c18=>?_)
  ·refine SD.all2 (i:=7) (j:=10) K ?_ ?_
   ·exact SW.w tk B0 7 (vs 1) (bm 20 767) (SD.vie B0 (gs 7) c15 K)
   exact SW.w tk B0 10 (vs 3) (bm 20 1663) (SD.vie B0 (gs 7) c17 K)
  refine SD.lay 13 (bm 20 127) [(1,vp 4 0),(9,vs 5),(12,vs 6),(13,vp 4 4)] (Y43a B1++[.own 5 56 Rx1 B3,.own 2 83 Rx6 B6]) ?_ (fun c19=>?_)
  ·refine SD.all2 (i:=7) (j:=9) K ?_ ?_
   ·exact SW.w tk B0 7 (vs 1) (bm 20 255) (SD.vie B0 (gs 7) c16 K)
   exact SW.w tk B0 9 (vp 4 8) (bm 20 639) (SD.vie B0 (gs 7) c18 K)
  refine SD.lay 12 (bm 20 1599) [(1,vp 4 0),(9,vs 5),(12,vs 6),(17,vs 3)] (Y43a B1++[.own 5 56 Rx1 B3,.own 2 83 Rx6 B6]) ?_ (fun c20=>?_)
  ·exact SD.all1 (i:=6) K (SW.w tk B0 6 (vp 4 4) (bm 20 1663) (SD.vie B0 (gs 7) c17 K))
  refine SD.lay 13 (bm 20 575) [(1,vp 4 0),(9,vs 5),(12,vs 6),(16,vp 4 8)] (Y43a B1++[.own 5 56 Rx1 B3,.own 2 83 Rx6 B6]) ?_ (fun c21=>?_)
  ·refine SD.all2 (i:=6) (j:=10) K ?_ ?_
   ·exact SW.w tk B0 6 (vp 4 4) (bm 20 639) (SD.vie B0 (gs 7) c18 K)
   exact SW.w tk B0 10 (vs 3) (bm 20 1599) (SD.vie B0 (gs 7) c20 K)
  refine SD.lay 14 (bm 20 63) [(1,vp 4 0),(9,vs 5),(12,vs 6)] (Y43a B1++[.own 5 56 Rx1 B3,.own 2 83 Rx6 B6]) ?_ (fun c22=>?_)
  ·refine SD.all2 (i:=6) (j:=9) K ?_ ?_
   ·exact SW.w tk B0 6 (vp 4 4) (bm 20 127) (SD.vie B0 (gs 7) c19 K)
   exact SW.w tk B0 9 (vp 4 8) (bm 20 575) (SD.vie B0 (gs 7) c21 K)
  refine SD.lay 10 (bm 20 5855) [(1,vp 4 0),(9,vs 5),(11,vs 2),(14,vs 1),(17,vs 3),(19,vp 4 0)] (Y43a B1++[.own 5 56 Rx1 B3]) ?_ (fun c23=>?_)
  ·exact SD.all1 (i:=5) K (SW.f B0 5 (bm 20 5887) rfl rfl rfl (e_c Tryz.call37 (kqg F B1.Subs _ Bh) [.g 2] [vs 2] (vs 6) K (.inl rfl)) (SD.vie B0 (gs 7) c13 K))
  refine SD.lay 11 (bm 20 1759) [(1,vp 4 0),(9,vs 5),(11,vs 2),(14,vs 1),(17,vs 3)] (Y43a B1++[.own 5 56 Rx1 B3]) ?_ (fun c24=>?_)
  ·refine SD.all2 (i:=5) (j:=12) K ?_ ?_
   ·exact SW.f B0 5 (bm 20 1791) rfl rfl rfl (e_c Tryz.call37 (kqg F B1.Subs _ Bh) [.g 2] [vs 2] (vs 6) K (.inl rfl)) (SD.vie B0 (gs 7) c14 K)
   exact SW.w tk B0 12 (vp 4 0) (bm 20 5855) (SD.vie B0 (gs 6) c23 K)
  refine SD.lay 12 (bm 20 735) [(1,vp 4 0),(9,vs 5),(11,vs 2),(14,vs 1),(16,vp 4 8)] (Y43a B1++[.own 5 56 Rx1 B3]) ?_ (fun c25=>?_)
  ·refine SD.all2 (i:=5) (j:=10) K ?_ ?_
   ·exact SW.f B0 5 (bm 20 767) rfl rfl rfl (e_c Tryz.call37 (kqg F B1.Subs _ Bh) [.g 2] [vs 2] (vs 6) K (.inl rfl)) (SD.vie B0 (gs 7) c15 K)
   exact SW.w tk B0 10 (vs 3) (bm 20 1759) (SD.vie B0 (gs 6) c24 K)
  refine SD.lay 13 (bm 20 223) [(1,vp 4 0),(9,vs 5),(11,vs 2),(14,vs 1)] (Y43a B1++[.own 5 56 Rx1 B3]) ?_ (fun c26=>?_)
  ·refine SD.all2 (i:=5) (j:=9) K ?_ ?_
   ·exact SW.f B0 5 (bm 20 255) rfl rfl rfl (e_c Tryz.call37 (kqg F B1.Subs _ Bh) [.g 2] [vs 2] (vs 6) K (.inl rfl)) (SD.vie B0 (gs 7) c16 K)
   exact SW.w tk B0 9 (vp 4 8) (bm 20 735) (SD.vie B0 (gs 6) c25 K)
  refine SD.lay 12 (bm 20 1631) [(1,vp 4 0),(9,vs 5),(11,vs 2),(13,vp 4 4),(17,vs 3)] (Y43a B1++[.own 5 56 Rx1 B3]) ?_ (fun c27=>?_)
  ·refine SD.all2 (i:=5) (j:=7) K ?_ ?_
   ·exact SW.f B0 5 (bm 20 1663) rfl rfl rfl (e_c Tryz.call37 (kqg F B1.Subs _ Bh) [.g 2] [vs 2] (vs 6) K (.inl rfl)) (SD.vie B0 (gs 7) c17 K)
   exact SW.w tk B0 7 (vs 1) (bm 20 1759) (SD.vie B0 (gs 6) c24 K)
  refine SD.lay 13 (bm 20 607) [(1,vp 4 0),(9,vs 5),(11,vs 2),(13,vp 4 4),(16,vp 4 8)] (Y43a B1++[.own 5 56 Rx1 B3]) ?_ (fun c28=>?_)
  ·refine SD.all3 (i:=5) (j:=7) (k:=10) K ?_ ?_ ?_
   ·exact SW.f B0 5 (bm 20 639) rfl rfl rfl (e_c Tryz.call37 (kqg F B1.Subs _ Bh) [.g 2] [vs 2] (vs 6) K (.inl rfl)) (SD.vie B0 (gs 7) c18 K)
   ·exact SW.w tk B0 7 (vs 1) (bm 20 735) (SD.vie B0 (gs 6) c25 K)
   exact SW.w tk B0 10 (vs 3) (bm 20 1631) (SD.vie B0 (gs 6) c27 K)
  refine SD.lay 14 (bm 20 95) [(1,vp 4 0),(9,vs 5),(11,vs 2),(13,vp 4 4)] (Y43a B1++[.own 5 56 Rx1 B3]) ?_ (fun c29=>?_)
  ·refine SD.all3 (i:=5) (j:=7) (k:=9) K ?_ ?_ ?_
   ·exact SW.f B0 5 (bm 20 127) rfl rfl rfl (e_c Tryz.call37 (kqg F B1.Subs _ Bh) [.g 2] [vs 2] (vs 6) K (.inl rfl)) (SD.vie B0 (gs 7) c19 K)
   ·exact SW.w tk B0 7 (vs 1) (bm 20 223) (SD.vie B0 (gs 6) c26 K)
   exact SW.w tk B0 9 (vp 4 8) (bm 20 607) (SD.vie B0 (gs 6) c28 K)
  refine SD.lay 13 (bm 20 1567) [(1,vp 4 0),(9,vs 5),(11,vs 2),(17,vs 3)] (Y43a B1++[.own 5 56 Rx1 B3]) ?_ (fun c30=>?_)
  ·refine SD.all2 (i:=5) (j:=6) K ?_ ?_
   ·exact SW.f B0 5 (bm 20 1599) rfl rfl rfl (e_c Tryz.call37 (kqg F B1.Subs _ Bh) [.g 2] [vs 2] (vs 6) K (.inl rfl)) (SD.vie B0 (gs 7) c20 K)
   exact SW.w tk B0 6 (vp 4 4) (bm 20 1631) (SD.vie B0 (gs 6) c27 K)
  refine SD.lay 14 (bm 20 543) [(1,vp 4 0),(9,vs 5),(11,vs 2),(16,vp 4 8)] (Y43a B1++[.own 5 56 Rx1 B3]) ?_ (fun c31=>?_)
  ·refine SD.all3 (i:=5) (j:=6) (k:=10) K ?_ ?_ ?_
   ·exact SW.f B0 5 (bm 20 575) rfl rfl rfl (e_c Tryz.call37 (kqg F B1.Subs _ Bh) [.g 2] [vs 2] (vs 6) K (.inl rfl)) (SD.vie B0 (gs 7) c21 K)
   ·exact SW.w tk B0 6 (vp 4 4) (bm 20 607) (SD.vie B0 (gs 6) c28 K)
   exact SW.w tk B0 10 (vs 3) (bm 20 1567) (SD.vie B0 (gs 6) c30 K)
  refine SD.lay 15 (bm 20 31) [(1,vp 4 0),(9,vs 5),(11,vs 2)] (Y43a B1++[.own 5 56 Rx1 B3]) ?_ (fun c32=>?_)
  ·refine SD.all3 (i:=5) (j:=6) (k:=9) K ?_ ?_ ?_
   ·exact SW.f B0 5 (bm 20 63) rfl rfl rfl (e_c Tryz.call37 (kqg F B1.Subs _ Bh) [.g 2] [vs 2] (vs 6) K (.inl rfl)) (SD.vie B0 (gs 7) c22 K)
   ·exact SW.w tk B0 6 (vp 4 4) (bm 20 95) (SD.vie B0 (gs 6) c29 K)
   exact SW.w tk B0 9 (vp 4 8) (bm 20 543) (SD.vie B0 (gs 6) c31 K)
  refine SD.lay 12 (bm 20 1743) [(1,vp 4 0),(9,vs 5),(10,vp 4 7),(14,vs 1),(17,vs 3)] (Y43a B1++[.own 5 56 Rx1 B3]) ?_ (fun c33=>?_)
  ·exact SD.all1 (i:=4) K (SW.w tk B0 4 (vs 2) (bm 20 1759) (SD.vie B0 (gs 6) c24 K))
  refine SD.lay 13 (bm 20 719) [(1,vp 4 0),(9,vs 5),(10,vp 4 7),(14,vs 1),(16,vp 4 8)] (Y43a B1++[.own 5 56 Rx1 B3]) ?_ (fun c34=>?_)
  ·refine SD.all2 (i:=4) (j:=10) K ?_ ?_
   ·exact SW.w tk B0 4 (vs 2) (bm 20 735) (SD.vie B0 (gs 6) c25 K)
   exact SW.w tk B0 10 (vs 3) (bm 20 1743) (SD.vie B0 (gs 6) c33 K)
  refine SD.lay 14 (bm 20 207) [(1,vp 4 0),(9,vs 5),(10,vp 4 7),(14,vs 1)] (Y43a B1++[.own 5 56 Rx1 B3]) ?_ (fun c35=>?_)
  ·refine SD.all2 (i:=4) (j:=9) K ?_ ?_
   ·exact SW.w tk B0 4 (vs 2) (bm 20 223) (SD.vie B0 (gs 6) c26 K)
   exact SW.w tk B0 9 (vp 4 8) (bm 20 719) (SD.vie B0 (gs 6) c34 K)
  refine SD.lay 13 (bm 20 1615) [(1,vp 4 0),(9,vs 5),(10,vp 4 7),(13,vp 4 4),(17,vs 3)] (Y43a B1++[.own 5 56 Rx1 B3]) ?_ (fun c36=>?_)
  ·refine SD.all2 (i:=4) (j:=7) K ?_ ?_
   ·exact SW.w tk B0 4 (vs 2) (bm 20 1631) (SD.vie B0 (gs 6) c27 K)
   exact SW.w tk B0 7 (vs 1) (bm 20 1743) (SD.vie B0 (gs 6) c33 K)
  refine SD.lay 14 (bm 20 591) [(1,vp 4 0),(9,vs 5),(10,vp 4 7),(13,vp 4 4),(16,vp 4 8)] (Y43a B1++[.own 5 56 Rx1 B3]) ?_ (fun c37=>?_)
  ·refine SD.all3 (i:=4) (j:=7) (k:=10) K ?_ ?_ ?_
   ·exact SW.w tk B0 4 (vs 2) (bm 20 607) (SD.vie B0 (gs 6) c28 K)
   ·exact SW.w tk B0 7 (vs 1) (bm 20 719) (SD.vie B0 (gs 6) c34 K)
   exact SW.w tk B0 10 (vs 3) (bm 20 1615) (SD.vie B0 (gs 6) c36 K)
  refine SD.lay 15 (bm 20 79) [(1,vp 4 0),(9,vs 5),(10,vp 4 7),(13,vp 4 4)] (Y43a B1++[.own 5 56 Rx1 B3]) ?_ (fun c38=>?_)
  ·refine SD.all3 (i:=4) (j:=7) (k:=9) K ?_ ?_ ?_
   ·exact SW.w tk B0 4 (vs 2) (bm 20 95) (SD.vie B0 (gs 6) c29 K)
   ·exact SW.w tk B0 7 (vs 1) (bm 20 207) (SD.vie B0 (gs 6) c35 K)
   exact SW.w tk B0 9 (vp 4 8) (bm 20 591) (SD.vie B0 (gs 6) c37 K)
  refine SD.lay 14 (bm 20 1551) [(1,vp 4 0),(9,vs 5),(10,vp 4 7),(17,vs 3)] (Y43a B1++[.own 5 56 Rx1 B3]) ?_ (fun c39=>?_)
  ·refine SD.all2 (i:=4) (j:=6) K ?_ ?_
   ·exact SW.w tk B0 4 (vs 2) (bm 20 1567) (SD.vie B0 (gs 6) c30 K)
   exact SW.w tk B0 6 (vp 4 4) (bm 20 1615) (SD.vie B0 (gs 6) c36 K)
  refine SD.lay 15 (bm 20 527) [(1,vp 4 0),(9,vs 5),(10,vp 4 7),(16,vp 4 8)] (Y43a B1++[.own 5 56 Rx1 B3]) ?_ (fun c40=>?_)
  ·refine SD.all3 (i:=4) (j:=6) (k:=10) K ?_ ?_ ?_
   ·exact SW.w tk B0 4 (vs 2) (bm 20 543) (SD.vie B0 (gs 6) c31 K)
   ·exact SW.w tk B0 6 (vp 4 4) (bm 20 591) (SD.vie B0 (gs 6) c37 K)
   exact SW.w tk B0 10 (vs 3) (bm 20 1551) (SD.vie B0 (gs 6) c39 K)
  refine SD.lay 16 (bm 20 15) [(1,vp 4 0),(9,vs 5),(10,vp 4 7)] (Y43a B1++[.own 5 56 Rx1 B3]) ?_ (fun c41=>?_)
  ·refine SD.all3 (i:=4) (j:=6) (k:=9) K ?_ ?_ ?_
   ·exact SW.w tk B0 4 (vs 2) (bm 20 31) (SD.vie B0 (gs 6) c32 K)
   ·exact SW.w tk B0 6 (vp 4 4) (bm 20 79) (SD.vie B0 (gs 6) c38 K)
   exact SW.w tk B0 9 (vp 4 8) (bm 20 527) (SD.vie B0 (gs 6) c40 K)
  refine SD.lay 13 (bm 20 1735) [(1,vp 4 0),(9,vs 5),(14,vs 1),(17,vs 3)] (Y43a B1++[.own 5 56 Rx1 B3]) ?_ (fun c42=>?_)
  ·exact SD.all1 (i:=3) K (SW.w tk B0 3 (vp 4 7) (bm 20 1743) (SD.vie B0 (gs 6) c33 K))
  refine SD.lay 14 (bm 20 711) [(1,vp 4 0),(9,vs 5),(14,vs 1),(16,vp 4 8)] (Y43a B1++[.own 5 56 Rx1 B3]) ?_ (fun c43=>?_)
  ·refine SD.all2 (i:=3) (j:=10) K ?_ ?_
   ·exact SW.w tk B0 3 (vp 4 7) (bm 20 719) (SD.vie B0 (gs 6) c34 K)
   exact SW.w tk B0 10 (vs 3) (bm 20 1735) (SD.vie B0 (gs 6) c42 K)
  refine SD.lay 15 (bm 20 199) [(1,vp 4 0),(9,vs 5),(14,vs 1)] (Y43a B1++[.own 5 56 Rx1 B3]) ?_ (fun c44=>?_)
  ·refine SD.all2 (i:=3) (j:=9) K ?_ ?_
   ·exact SW.w tk B0 3 (vp 4 7) (bm 20 207) (SD.vie B0 (gs 6) c35 K)
   exact SW.w tk B0 9 (vp 4 8) (bm 20 711) (SD.vie B0 (gs 6) c43 K)
  refine SD.lay 14 (bm 20 1607) [(1,vp 4 0),(9,vs 5),(13,vp 4 4),(17,vs 3)] (Y43a B1++[.own 5 56 Rx1 B3]) ?_ (fun c45=>?_)
  ·refine SD.all2 (i:=3) (j:=7) K ?_ ?_
   ·exact SW.w tk B0 3 (vp 4 7) (bm 20 1615) (SD.vie B0 (gs 6) c36 K)
   exact SW.w tk B0 7 (vs 1) (bm 20 1735) (SD.vie B0 (gs 6) c42 K)
  refine SD.lay 15 (bm 20 583) [(1,vp 4 0),(9,vs 5),(13,vp 4 4),(16,vp 4 8)] (Y43a B1++[.own 5 56 Rx1 B3]) ?_ (fun c46=>?_)
  ·refine SD.all3 (i:=3) (j:=7) (k:=10) K ?_ ?_ ?_
   ·exact SW.w tk B0 3 (vp 4 7) (bm 20 591) (SD.vie B0 (gs 6) c37 K)
   ·exact SW.w tk B0 7 (vs 1) (bm 20 711) (SD.vie B0 (gs 6) c43 K)
   exact SW.w tk B0 10 (vs 3) (bm 20 1607) (SD.vie B0 (gs 6) c45 K)
  refine SD.lay 16 (bm 20 71) [(1,vp 4 0),(9,vs 5),(13,vp 4 4)] (Y43a B1++[.own 5 56 Rx1 B3]) ?_ (fun c47=>?_)
  ·refine SD.all3 (i:=3) (j:=7) (k:=9) K ?_ ?_ ?_
   ·exact SW.w tk B0 3 (vp 4 7) (bm 20 79) (SD.vie B0 (gs 6) c38 K)
   ·exact SW.w tk B0 7 (vs 1) (bm 20 199) (SD.vie B0 (gs 6) c44 K)
   exact SW.w tk B0 9 (vp 4 8) (bm 20 583) (SD.vie B0 (gs 6) c46 K)
  refine SD.lay 15 (bm 20 1543) [(1,vp 4 0),(9,vs 5),(17,vs 3)] (Y43a B1++[.own 5 56 Rx1 B3]) ?_ (fun c48=>?_)
  ·refine SD.all2 (i:=3) (j:=6) K ?_ ?_
   ·exact SW.w tk B0 3 (vp 4 7) (bm 20 1551) (SD.vie B0 (gs 6) c39 K)
   exact SW.w tk B0 6 (vp 4 4) (bm 20 1607) (SD.vie B0 (gs 6) c45 K)
  refine SD.lay 16 (bm 20 519) [(1,vp 4 0),(9,vs 5),(16,vp 4 8)] (Y43a B1++[.own 5 56 Rx1 B3]) ?_ (fun c49=>?_)
  ·refine SD.all3 (i:=3) (j:=6) (k:=10) K ?_ ?_ ?_
   ·exact SW.w tk B0 3 (vp 4 7) (bm 20 527) (SD.vie B0 (gs 6) c40 K)
   ·exact SW.w tk B0 6 (vp 4 4) (bm 20 583) (SD.vie B0 (gs 6) c46 K)
   exact SW.w tk B0 10 (vs 3) (bm 20 1543) (SD.vie B0 (gs 6) c48 K)
  refine SD.lay 17 (bm 20 7) [(1,vp 4 0),(9,vs 5)] (Y43a B1++[.own 5 56 Rx1 B3]) ?_ (fun c50=>?_)
  ·refine SD.all3 (i:=3) (j:=6) (k:=9) K ?_ ?_ ?_
   ·exact SW.w tk B0 3 (vp 4 7) (bm 20 15) (SD.vie B0 (gs 6) c41 K)
   ·exact SW.w tk B0 6 (vp 4 4) (bm 20 71) (SD.vie B0 (gs 6) c47 K)
   exact SW.w tk B0 9 (vp 4 8) (bm 20 519) (SD.vie B0 (gs 6) c49 K)
  refine SD.lay 12 (bm 20 1755) [(1,vp 4 0),(8,vs 0),(11,vs 2),(14,vs 1),(17,vs 3)] (Y43a B1) ?_ (fun c51=>?_)
  ·exact SD.all1 (i:=2) K (SW.f B0 2 (bm 20 1759) rfl rfl rfl (e_c Tryz.call36 (kq6 F B1.DB _ B9) [.g 0] [vs 0] (vs 5) K (.inl rfl)) (SD.vie B0 (gs 6) c24 K))
  refine SD.lay 13 (bm 20 731) [(1,vp 4 0),(8,vs 0),(11,vs 2),(14,vs 1),(16,vp 4 8)] (Y43a B1) ?_ (fun c52=>?_)
  ·refine SD.all2 (i:=2) (j:=10) K ?_ ?_
   ·exact SW.f B0 2 (bm 20 735) rfl rfl rfl (e_c Tryz.call36 (kq6 F B1.DB _ B9) [.g 0] [vs 0] (vs 5) K (.inl rfl)) (SD.vie B0 (gs 6) c25 K)
   exact SW.w tk B0 10 (vs 3) (bm 20 1755) (SD.vie B0 (gs 5) c51 K)
  refine SD.lay 14 (bm 20 219) [(1,vp 4 0),(8,vs 0),(11,vs 2),(14,vs 1)] (Y43a B1) ?_ (fun c53=>?_)
  ·refine SD.all2 (i:=2) (j:=9) K ?_ ?_
   ·exact SW.f B0 2 (bm 20 223) rfl rfl rfl (e_c Tryz.call36 (kq6 F B1.DB _ B9) [.g 0] [vs 0] (vs 5) K (.inl rfl)) (SD.vie B0 (gs 6) c26 K)
   exact SW.w tk B0 9 (vp 4 8) (bm 20 731) (SD.vie B0 (gs 5) c52 K)
  refine SD.lay 13 (bm 20 1627) [(1,vp 4 0),(8,vs 0),(11,vs 2),(13,vp 4 4),(17,vs 3)] (Y43a B1) ?_ (fun c54=>?_)
  ·refine SD.all2 (i:=2) (j:=7) K ?_ ?_
   ·exact SW.f B0 2 (bm 20 1631) rfl rfl rfl (e_c Tryz.call36 (kq6 F B1.DB _ B9) [.g 0] [vs 0] (vs 5) K (.inl rfl)) (SD.vie B0 (gs 6) c27 K)
   exact SW.w tk B0 7 (vs 1) (bm 20 1755) (SD.vie B0 (gs 5) c51 K)
  refine SD.lay 14 (bm 20 603) [(1,vp 4 0),(8,vs 0),(11,vs 2),(13,vp 4 4),(16,vp 4 8)] (Y43a B1) ?_ (fun c55=>?_)
  ·refine SD.all3 (i:=2) (j:=7) (k:=10) K ?_ ?_ ?_
   ·exact SW.f B0 2 (bm 20 607) rfl rfl rfl (e_c Tryz.call36 (kq6 F B1.DB _ B9) [.g 0] [vs 0] (vs 5) K (.inl rfl)) (SD.vie B0 (gs 6) c28 K)
   ·exact SW.w tk B0 7 (vs 1) (bm 20 731) (SD.vie B0 (gs 5) c52 K)
   exact SW.w tk B0 10 (vs 3) (bm 20 1627) (SD.vie B0 (gs 5) c54 K)
  refine SD.lay 15 (bm 20 91) [(1,vp 4 0),(8,vs 0),(11,vs 2),(13,vp 4 4)] (Y43a B1) ?_ (fun c56=>?_)
  ·refine SD.all3 (i:=2) (j:=7) (k:=9) K ?_ ?_ ?_
   ·exact SW.f B0 2 (bm 20 95) rfl rfl rfl (e_c Tryz.call36 (kq6 F B1.DB _ B9) [.g 0] [vs 0] (vs 5) K (.inl rfl)) (SD.vie B0 (gs 6) c29 K)
   ·exact SW.w tk B0 7 (vs 1) (bm 20 219) (SD.vie B0 (gs 5) c53 K)
   exact SW.w tk B0 9 (vp 4 8) (bm 20 603) (SD.vie B0 (gs 5) c55 K)
  refine SD.lay 14 (bm 20 1563) [(1,vp 4 0),(8,vs 0),(11,vs 2),(17,vs 3)] (Y43a B1) ?_ (fun c57=>?_)
  ·refine SD.all2 (i:=2) (j:=6) K ?_ ?_
   ·exact SW.f B0 2 (bm 20 1567) rfl rfl rfl (e_c Tryz.call36 (kq6 F B1.DB _ B9) [.g 0] [vs 0] (vs 5) K (.inl rfl)) (SD.vie B0 (gs 6) c30 K)
   exact SW.w tk B0 6 (vp 4 4) (bm 20 1627) (SD.vie B0 (gs 5) c54 K)
  refine SD.lay 15 (bm 20 539) [(1,vp 4 0),(8,vs 0),(11,vs 2),(16,vp 4 8)] (Y43a B1) ?_ (fun c58=>?_)
  ·refine SD.all3 (i:=2) (j:=6) (k:=10) K ?_ ?_ ?_
   ·exact SW.f B0 2 (bm 20 543) rfl rfl rfl (e_c Tryz.call36 (kq6 F B1.DB _ B9) [.g 0] [vs 0] (vs 5) K (.inl rfl)) (SD.vie B0 (gs 6) c31 K)
   ·exact SW.w tk B0 6 (vp 4 4) (bm 20 603) (SD.vie B0 (gs 5) c55 K)
   exact SW.w tk B0 10 (vs 3) (bm 20 1563) (SD.vie B0 (gs 5) c57 K)
  refine SD.lay 16 (bm 20 27) [(1,vp 4 0),(8,vs 0),(11,vs 2)] (Y43a B1) ?_ (fun c59=>?_)
  ·refine SD.all3 (i:=2) (j:=6) (k:=9) K ?_ ?_ ?_
   ·exact SW.f B0 2 (bm 20 31) rfl rfl rfl (e_c Tryz.call36 (kq6 F B1.DB _ B9) [.g 0] [vs 0] (vs 5) K (.inl rfl)) (SD.vie B0 (gs 6) c32 K)
   ·exact SW.w tk B0 6 (vp 4 4) (bm 20 91) (SD.vie B0 (gs 5) c56 K)
   exact SW.w tk B0 9 (vp 4 8) (bm 20 539) (SD.vie B0 (gs 5) c58 K)
  refine SD.lay 13 (bm 20 1739) [(1,vp 4 0),(8,vs 0),(10,vp 4 7),(14,vs 1),(17,vs 3)] (Y43a B1) ?_ (fun c60=>?_)
  ·refine SD.all2 (i:=2) (j:=4) K ?_ ?_
   ·exact SW.f B0 2 (bm 20 1743) rfl rfl rfl (e_c Tryz.call36 (kq6 F B1.DB _ B9) [.g 0] [vs 0] (vs 5) K (.inl rfl)) (SD.vie B0 (gs 6) c33 K)
   exact SW.w tk B0 4 (vs 2) (bm 20 1755) (SD.vie B0 (gs 5) c51 K)
  refine SD.lay 14 (bm 20 715) [(1,vp 4 0),(8,vs 0),(10,vp 4 7),(14,vs 1),(16,vp 4 8)] (Y43a B1) ?_ (fun c61=>?_)
  ·refine SD.all3 (i:=2) (j:=4) (k:=10) K ?_ ?_ ?_
   ·exact SW.f B0 2 (bm 20 719) rfl rfl rfl (e_c Tryz.call36 (kq6 F B1.DB _ B9) [.g 0] [vs 0] (vs 5) K (.inl rfl)) (SD.vie B0 (gs 6) c34 K)
   ·exact SW.w tk B0 4 (vs 2) (bm 20 731) (SD.vie B0 (gs 5) c52 K)
   exact SW.w tk B0 10 (vs 3) (bm 20 1739) (SD.vie B0 (gs 5) c60 K)
  refine SD.lay 15 (bm 20 203) [(1,vp 4 0),(8,vs 0),(10,vp 4 7),(14,vs 1)] (Y43a B1) ?_ (fun c62=>?_)
  ·refine SD.all3 (i:=2) (j:=4) (k:=9) K ?_ ?_ ?_
   ·exact SW.f B0 2 (bm 20 207) rfl rfl rfl (e_c Tryz.call36 (kq6 F B1.DB _ B9) [.g 0] [vs 0] (vs 5) K (.inl rfl)) (SD.vie B0 (gs 6) c35 K)
   ·exact SW.w tk B0 4 (vs 2) (bm 20 219) (SD.vie B0 (gs 5) c53 K)
   exact SW.w tk B0 9 (vp 4 8) (bm 20 715) (SD.vie B0 (gs 5) c61 K)
  refine SD.lay 14 (bm 20 1611) [(1,vp 4 0),(8,vs 0),(10,vp 4 7),(13,vp 4 4),(17,vs 3)] (Y43a B1) ?_ (fun c63=>?_)
  ·refine SD.all3 (i:=2) (j:=4) (k:=7) K ?_ ?_ ?_
   ·exact SW.f B0 2 (bm 20 1615) rfl rfl rfl (e_c Tryz.call36 (kq6 F B1.DB _ B9) [.g 0] [vs 0] (vs 5) K (.inl rfl)) (SD.vie B0 (gs 6) c36 K)
   ·exact SW.w tk B0 4 (vs 2) (bm 20 1627) (SD.vie B0 (gs 5) c54 K)
   exact SW.w tk B0 7 (vs 1) (bm 20 1739) (SD.vie B0 (gs 5) c60 K)
  refine SD.lay 15 (bm 20 587) [(1,vp 4 0),(8,vs 0),(10,vp 4 7),(13,vp 4 4),(16,vp 4 8)] (Y43a B1) ?_ (fun c64=>?_)
  ·refine SD.all4 (i:=2) (j:=4) (k:=7) (m:=10) K ?_ ?_ ?_ ?_
   ·exact SW.f B0 2 (bm 20 591) rfl rfl rfl (e_c Tryz.call36 (kq6 F B1.DB _ B9) [.g 0] [vs 0] (vs 5) K (.inl rfl)) (SD.vie B0 (gs 6) c37 K)
   ·exact SW.w tk B0 4 (vs 2) (bm 20 603) (SD.vie B0 (gs 5) c55 K)
   ·exact SW.w tk B0 7 (vs 1) (bm 20 715) (SD.vie B0 (gs 5) c61 K)
   exact SW.w tk B0 10 (vs 3) (bm 20 1611) (SD.vie B0 (gs 5) c63 K)
  refine SD.lay 16 (bm 20 75) [(1,vp 4 0),(8,vs 0),(10,vp 4 7),(13,vp 4 4)] (Y43a B1) ?_ (fun c65=>?_)
  ·refine SD.all4 (i:=2) (j:=4) (k:=7) (m:=9) K ?_ ?_ ?_ ?_
   ·exact SW.f B0 2 (bm 20 79) rfl rfl rfl (e_c Tryz.call36 (kq6 F B1.DB _ B9) [.g 0] [vs 0] (vs 5) K (.inl rfl)) (SD.vie B0 (gs 6) c38 K)
   ·exact SW.w tk B0 4 (vs 2) (bm 20 91) (SD.vie B0 (gs 5) c56 K)
   ·exact SW.w tk B0 7 (vs 1) (bm 20 203) (SD.vie B0 (gs 5) c62 K)
   exact SW.w tk B0 9 (vp 4 8) (bm 20 587) (SD.vie B0 (gs 5) c64 K)
  refine SD.lay 15 (bm 20 1547) [(1,vp 4 0),(8,vs 0),(10,vp 4 7),(17,vs 3)] (Y43a B1) ?_ (fun c66=>?_)
  ·refine SD.all3 (i:=2) (j:=4) (k:=6) K ?_ ?_ ?_
   ·exact SW.f B0 2 (bm 20 1551) rfl rfl rfl (e_c Tryz.call36 (kq6 F B1.DB _ B9) [.g 0] [vs 0] (vs 5) K (.inl rfl)) (SD.vie B0 (gs 6) c39 K)
   ·exact SW.w tk B0 4 (vs 2) (bm 20 1563) (SD.vie B0 (gs 5) c57 K)
   exact SW.w tk B0 6 (vp 4 4) (bm 20 1611) (SD.vie B0 (gs 5) c63 K)
  refine SD.lay 16 (bm 20 523) [(1,vp 4 0),(8,vs 0),(10,vp 4 7),(16,vp 4 8)] (Y43a B1) ?_ (fun c67=>?_)
  ·refine SD.all4 (i:=2) (j:=4) (k:=6) (m:=10) K ?_ ?_ ?_ ?_
   ·exact SW.f B0 2 (bm 20 527) rfl rfl rfl (e_c Tryz.call36 (kq6 F B1.DB _ B9) [.g 0] [vs 0] (vs 5) K (.inl rfl)) (SD.vie B0 (gs 6) c40 K)
   ·exact SW.w tk B0 4 (vs 2) (bm 20 539) (SD.vie B0 (gs 5) c58 K)
   ·exact SW.w tk B0 6 (vp 4 4) (bm 20 587) (SD.vie B0 (gs 5) c64 K)
   exact SW.w tk B0 10 (vs 3) (bm 20 1547) (SD.vie B0 (gs 5) c66 K)
  refine SD.lay 17 (bm 20 11) [(1,vp 4 0),(8,vs 0),(10,vp 4 7)] (Y43a B1) ?_ (fun c68=>?_)
  ·refine SD.all4 (i:=2) (j:=4) (k:=6) (m:=9) K ?_ ?_ ?_ ?_
   ·exact SW.f B0 2 (bm 20 15) rfl rfl rfl (e_c Tryz.call36 (kq6 F B1.DB _ B9) [.g 0] [vs 0] (vs 5) K (.inl rfl)) (SD.vie B0 (gs 6) c41 K)
   ·exact SW.w tk B0 4 (vs 2) (bm 20 27) (SD.vie B0 (gs 5) c59 K)
   ·exact SW.w tk B0 6 (vp 4 4) (bm 20 75) (SD.vie B0 (gs 5) c65 K)
   exact SW.w tk B0 9 (vp 4 8) (bm 20 523) (SD.vie B0 (gs 5) c67 K)
  refine SD.lay 14 (bm 20 1731) [(1,vp 4 0),(8,vs 0),(14,vs 1),(17,vs 3)] (Y43a B1) ?_ (fun c69=>?_)
  ·refine SD.all2 (i:=2) (j:=3) K ?_ ?_
   ·exact SW.f B0 2 (bm 20 1735) rfl rfl rfl (e_c Tryz.call36 (kq6 F B1.DB _ B9) [.g 0] [vs 0] (vs 5) K (.inl rfl)) (SD.vie B0 (gs 6) c42 K)
   exact SW.w tk B0 3 (vp 4 7) (bm 20 1739) (SD.vie B0 (gs 5) c60 K)
  refine SD.lay 15 (bm 20 707) [(1,vp 4 0),(8,vs 0),(14,vs 1),(16,vp 4 8)] (Y43a B1) ?_ (fun c70=>?_)
  ·refine SD.all3 (i:=2) (j:=3) (k:=10) K ?_ ?_ ?_
   ·exact SW.f B0 2 (bm 20 711) rfl rfl rfl (e_c Tryz.call36 (kq6 F B1.DB _ B9) [.g 0] [vs 0] (vs 5) K (.inl rfl)) (SD.vie B0 (gs 6) c43 K)
   ·exact SW.w tk B0 3 (vp 4 7) (bm 20 715) (SD.vie B0 (gs 5) c61 K)
   exact SW.w tk B0 10 (vs 3) (bm 20 1731) (SD.vie B0 (gs 5) c69 K)
  refine SD.lay 16 (bm 20 195) [(1,vp 4 0),(8,vs 0),(14,vs 1)] (Y43a B1) ?_ (fun c71=>?_)
  ·refine SD.all3 (i:=2) (j:=3) (k:=9) K ?_ ?_ ?_
   ·exact SW.f B0 2 (bm 20 199) rfl rfl rfl (e_c Tryz.call36 (kq6 F B1.DB _ B9) [.g 0] [vs 0] (vs 5) K (.inl rfl)) (SD.vie B0 (gs 6) c44 K)
   ·exact SW.w tk B0 3 (vp 4 7) (bm 20 203) (SD.vie B0 (gs 5) c62 K)
   exact SW.w tk B0 9 (vp 4 8) (bm 20 707) (SD.vie B0 (gs 5) c70 K)
  refine SD.lay 15 (bm 20 1603) [(1,vp 4 0),(8,vs 0),(13,vp 4 4),(17,vs 3)] (Y43a B1) ?_ (fun c72=>?_)
  ·refine SD.all3 (i:=2) (j:=3) (k:=7) K ?_ ?_ ?_
   ·exact SW.f B0 2 (bm 20 1607) rfl rfl rfl (e_c Tryz.call36 (kq6 F B1.DB _ B9) [.g 0] [vs 0] (vs 5) K (.inl rfl)) (SD.vie B0 (gs 6) c45 K)
   ·exact SW.w tk B0 3 (vp 4 7) (bm 20 1611) (SD.vie B0 (gs 5) c63 K)
   exact SW.w tk B0 7 (vs 1) (bm 20 1731) (SD.vie B0 (gs 5) c69 K)
  refine SD.lay 16 (bm 20 579) [(1,vp 4 0),(8,vs 0),(13,vp 4 4),(16,vp 4 8)] (Y43a B1) ?_ (fun c73=>?_)
  ·refine SD.all4 (i:=2) (j:=3) (k:=7) (m:=10) K ?_ ?_ ?_ ?_
   ·exact SW.f B0 2 (bm 20 583) rfl rfl rfl (e_c Tryz.call36 (kq6 F B1.DB _ B9) [.g 0] [vs 0] (vs 5) K (.inl rfl)) (SD.vie B0 (gs 6) c46 K)
   ·exact SW.w tk B0 3 (vp 4 7) (bm 20 587) (SD.vie B0 (gs 5) c64 K)
   ·exact SW.w tk B0 7 (vs 1) (bm 20 707) (SD.vie B0 (gs 5) c70 K)
   exact SW.w tk B0 10 (vs 3) (bm 20 1603) (SD.vie B0 (gs 5) c72 K)
  refine SD.lay 17 (bm 20 67) [(1,vp 4 0),(8,vs 0),(13,vp 4 4)] (Y43a B1) ?_ (fun c74=>?_)
  ·refine SD.all4 (i:=2) (j:=3) (k:=7) (m:=9) K ?_ ?_ ?_ ?_
   ·exact SW.f B0 2 (bm 20 71) rfl rfl rfl (e_c Tryz.call36 (kq6 F B1.DB _ B9) [.g 0] [vs 0] (vs 5) K (.inl rfl)) (SD.vie B0 (gs 6) c47 K)
   ·exact SW.w tk B0 3 (vp 4 7) (bm 20 75) (SD.vie B0 (gs 5) c65 K)
   ·exact SW.w tk B0 7 (vs 1) (bm 20 195) (SD.vie B0 (gs 5) c71 K)
   exact SW.w tk B0 9 (vp 4 8) (bm 20 579) (SD.vie B0 (gs 5) c73 K)
  refine SD.lay 16 (bm 20 1539) [(1,vp 4 0),(8,vs 0),(17,vs 3)] (Y43a B1) ?_ (fun c75=>?_)
  ·refine SD.all3 (i:=2) (j:=3) (k:=6) K ?_ ?_ ?_
   ·exact SW.f B0 2 (bm 20 1543) rfl rfl rfl (e_c Tryz.call36 (kq6 F B1.DB _ B9) [.g 0] [vs 0] (vs 5) K (.inl rfl)) (SD.vie B0 (gs 6) c48 K)
   ·exact SW.w tk B0 3 (vp 4 7) (bm 20 1547) (SD.vie B0 (gs 5) c66 K)
   exact SW.w tk B0 6 (vp 4 4) (bm 20 1603) (SD.vie B0 (gs 5) c72 K)
  refine SD.lay 17 (bm 20 515) [(1,vp 4 0),(8,vs 0),(16,vp 4 8)] (Y43a B1) ?_ (fun c76=>?_)
  ·refine SD.all4 (i:=2) (j:=3) (k:=6) (m:=10) K ?_ ?_ ?_ ?_
   ·exact SW.f B0 2 (bm 20 519) rfl rfl rfl (e_c Tryz.call36 (kq6 F B1.DB _ B9) [.g 0] [vs 0] (vs 5) K (.inl rfl)) (SD.vie B0 (gs 6) c49 K)
   ·exact SW.w tk B0 3 (vp 4 7) (bm 20 523) (SD.vie B0 (gs 5) c67 K)
   ·exact SW.w tk B0 6 (vp 4 4) (bm 20 579) (SD.vie B0 (gs 5) c73 K)
   exact SW.w tk B0 10 (vs 3) (bm 20 1539) (SD.vie B0 (gs 5) c75 K)
  refine SD.lay 18 (bm 20 3) [(1,vp 4 0),(8,vs 0)] (Y43a B1) ?_ (fun c77=>?_)
  ·refine SD.all4 (i:=2) (j:=3) (k:=6) (m:=9) K ?_ ?_ ?_ ?_
   ·exact SW.f B0 2 (bm 20 7) rfl rfl rfl (e_c Tryz.call36 (kq6 F B1.DB _ B9) [.g 0] [vs 0] (vs 5) K (.inl rfl)) (SD.vie B0 (gs 6) c50 K)
   ·exact SW.w tk B0 3 (vp 4 7) (bm 20 11) (SD.vie B0 (gs 5) c68 K)
   ·exact SW.w tk B0 6 (vp 4 4) (bm 20 67) (SD.vie B0 (gs 5) c74 K)
   exact SW.w tk B0 9 (vp 4 8) (bm 20 515) (SD.vie B0 (gs 5) c76 K)
  refine SD.lay 13 (bm 20 1753) [(1,vp 4 0),(7,vp 4 0),(11,vs 2),(14,vs 1),(17,vs 3)] (Y43a B1) ?_ (fun c78=>?_)
  ·exact SD.all1 (i:=1) K (SW.w tk B0 1 (vs 0) (bm 20 1755) (SD.vie B0 (gs 5) c51 K))
  refine SD.lay 14 (bm 20 729) [(1,vp 4 0),(7,vp 4 0),(11,vs 2),(14,vs 1),(16,vp 4 8)] (Y43a B1) ?_ (fun c79=>?_)
  ·refine SD.all2 (i:=1) (j:=10) K ?_ ?_
   ·exact SW.w tk B0 1 (vs 0) (bm 20 731) (SD.vie B0 (gs 5) c52 K)
   exact SW.w tk B0 10 (vs 3) (bm 20 1753) (SD.vie B0 (gs 5) c78 K)
  refine SD.lay 15 (bm 20 217) [(1,vp 4 0),(7,vp 4 0),(11,vs 2),(14,vs 1)] (Y43a B1) ?_ (fun c80=>?_)
  ·refine SD.all2 (i:=1) (j:=9) K ?_ ?_
   ·exact SW.w tk B0 1 (vs 0) (bm 20 219) (SD.vie B0 (gs 5) c53 K)
   exact SW.w tk B0 9 (vp 4 8) (bm 20 729) (SD.vie B0 (gs 5) c79 K)
  refine SD.lay 14 (bm 20 1625) [(1,vp 4 0),(7,vp 4 0),(11,vs 2),(13,vp 4 4),(17,vs 3)] (Y43a B1) ?_ (fun c81=>?_)
  ·refine SD.all2 (i:=1) (j:=7) K ?_ ?_
   ·exact SW.w tk B0 1 (vs 0) (bm 20 1627) (SD.vie B0 (gs 5) c54 K)
   exact SW.w tk B0 7 (vs 1) (bm 20 1753) (SD.vie B0 (gs 5) c78 K)
  refine SD.lay 15 (bm 20 601) [(1,vp 4 0),(7,vp 4 0),(11,vs 2),(13,vp 4 4),(16,vp 4 8)] (Y43a B1) ?_ (fun c82=>?_)
  ·refine SD.all3 (i:=1) (j:=7) (k:=10) K ?_ ?_ ?_
   ·exact SW.w tk B0 1 (vs 0) (bm 20 603) (SD.vie B0 (gs 5) c55 K)
   ·exact SW.w tk B0 7 (vs 1) (bm 20 729) (SD.vie B0 (gs 5) c79 K)
   exact SW.w tk B0 10 (vs 3) (bm 20 1625) (SD.vie B0 (gs 5) c81 K)
  refine SD.lay 16 (bm 20 89) [(1,vp 4 0),(7,vp 4 0),(11,vs 2),(13,vp 4 4)] (Y43a B1) ?_ (fun c83=>?_)
  ·refine SD.all3 (i:=1) (j:=7) (k:=9) K ?_ ?_ ?_
   ·exact SW.w tk B0 1 (vs 0) (bm 20 91) (SD.vie B0 (gs 5) c56 K)
   ·exact SW.w tk B0 7 (vs 1) (bm 20 217) (SD.vie B0 (gs 5) c80 K)
   exact SW.w tk B0 9 (vp 4 8) (bm 20 601) (SD.vie B0 (gs 5) c82 K)
  refine SD.lay 15 (bm 20 1561) [(1,vp 4 0),(7,vp 4 0),(11,vs 2),(17,vs 3)] (Y43a B1) ?_ (fun c84=>?_)
  ·refine SD.all2 (i:=1) (j:=6) K ?_ ?_
   ·exact SW.w tk B0 1 (vs 0) (bm 20 1563) (SD.vie B0 (gs 5) c57 K)
   exact SW.w tk B0 6 (vp 4 4) (bm 20 1625) (SD.vie B0 (gs 5) c81 K)
  refine SD.lay 16 (bm 20 537) [(1,vp 4 0),(7,vp 4 0),(11,vs 2),(16,vp 4 8)] (Y43a B1) ?_ (fun c85=>?_)
  ·refine SD.all3 (i:=1) (j:=6) (k:=10) K ?_ ?_ ?_
   ·exact SW.w tk B0 1 (vs 0) (bm 20 539) (SD.vie B0 (gs 5) c58 K)
   ·exact SW.w tk B0 6 (vp 4 4) (bm 20 601) (SD.vie B0 (gs 5) c82 K)
   exact SW.w tk B0 10 (vs 3) (bm 20 1561) (SD.vie B0 (gs 5) c84 K)
  refine SD.lay 17 (bm 20 25) [(1,vp 4 0),(7,vp 4 0),(11,vs 2)] (Y43a B1) ?_ (fun c86=>?_)
  ·refine SD.all3 (i:=1) (j:=6) (k:=9) K ?_ ?_ ?_
   ·exact SW.w tk B0 1 (vs 0) (bm 20 27) (SD.vie B0 (gs 5) c59 K)
   ·exact SW.w tk B0 6 (vp 4 4) (bm 20 89) (SD.vie B0 (gs 5) c83 K)
   exact SW.w tk B0 9 (vp 4 8) (bm 20 537) (SD.vie B0 (gs 5) c85 K)
  refine SD.lay 14 (bm 20 1737) [(1,vp 4 0),(7,vp 4 0),(10,vp 4 7),(14,vs 1),(17,vs 3)] (Y43a B1) ?_ (fun c87=>?_)
  ·refine SD.all2 (i:=1) (j:=4) K ?_ ?_
   ·exact SW.w tk B0 1 (vs 0) (bm 20 1739) (SD.vie B0 (gs 5) c60 K)
   exact SW.w tk B0 4 (vs 2) (bm 20 1753) (SD.vie B0 (gs 5) c78 K)
  refine SD.lay 15 (bm 20 713) [(1,vp 4 0),(7,vp 4 0),(10,vp 4 7),(14,vs 1),(16,vp 4 8)] (Y43a B1) ?_ (fun c88=>?_)
  ·refine SD.all3 (i:=1) (j:=4) (k:=10) K ?_ ?_ ?_
   ·exact SW.w tk B0 1 (vs 0) (bm 20 715) (SD.vie B0 (gs 5) c61 K)
   ·exact SW.w tk B0 4 (vs 2) (bm 20 729) (SD.vie B0 (gs 5) c79 K)
   exact SW.w tk B0 10 (vs 3) (bm 20 1737) (SD.vie B0 (gs 5) c87 K)
  refine SD.lay 16 (bm 20 201) [(1,vp 4 0),(7,vp 4 0),(10,vp 4 7),(14,vs 1)] (Y43a B1) ?_ (fun c89=>?_)
  ·refine SD.all3 (i:=1) (j:=4) (k:=9) K ?_ ?_ ?_
   ·exact SW.w tk B0 1 (vs 0) (bm 20 203) (SD.vie B0 (gs 5) c62 K)
   ·exact SW.w tk B0 4 (vs 2) (bm 20 217) (SD.vie B0 (gs 5) c80 K)
   exact SW.w tk B0 9 (vp 4 8) (bm 20 713) (SD.vie B0 (gs 5) c88 K)
  refine SD.lay 15 (bm 20 1609) [(1,vp 4 0),(7,vp 4 0),(10,vp 4 7),(13,vp 4 4),(17,vs 3)] (Y43a B1) ?_ (fun c90=>?_)
  ·refine SD.all3 (i:=1) (j:=4) (k:=7) K ?_ ?_ ?_
   ·exact SW.w tk B0 1 (vs 0) (bm 20 1611) (SD.vie B0 (gs 5) c63 K)
   ·exact SW.w tk B0 4 (vs 2) (bm 20 1625) (SD.vie B0 (gs 5) c81 K)
   exact SW.w tk B0 7 (vs 1) (bm 20 1737) (SD.vie B0 (gs 5) c87 K)
  refine SD.lay 16 (bm 20 585) [(1,vp 4 0),(7,vp 4 0),(10,vp 4 7),(13,vp 4 4),(16,vp 4 8)] (Y43a B1) ?_ (fun c91=>?_)
  ·refine SD.all4 (i:=1) (j:=4) (k:=7) (m:=10) K ?_ ?_ ?_ ?_
   ·exact SW.w tk B0 1 (vs 0) (bm 20 587) (SD.vie B0 (gs 5) c64 K)
   ·exact SW.w tk B0 4 (vs 2) (bm 20 601) (SD.vie B0 (gs 5) c82 K)
   ·exact SW.w tk B0 7 (vs 1) (bm 20 713) (SD.vie B0 (gs 5) c88 K)
   exact SW.w tk B0 10 (vs 3) (bm 20 1609) (SD.vie B0 (gs 5) c90 K)
  refine SD.lay 17 (bm 20 73) [(1,vp 4 0),(7,vp 4 0),(10,vp 4 7),(13,vp 4 4)] (Y43a B1) ?_ (fun c92=>?_)
  ·refine SD.all4 (i:=1) (j:=4) (k:=7) (m:=9) K ?_ ?_ ?_ ?_
   ·exact SW.w tk B0 1 (vs 0) (bm 20 75) (SD.vie B0 (gs 5) c65 K)
   ·exact SW.w tk B0 4 (vs 2) (bm 20 89) (SD.vie B0 (gs 5) c83 K)
   ·exact SW.w tk B0 7 (vs 1) (bm 20 201) (SD.vie B0 (gs 5) c89 K)
   exact SW.w tk B0 9 (vp 4 8) (bm 20 585) (SD.vie B0 (gs 5) c91 K)
  refine SD.lay 16 (bm 20 1545) [(1,vp 4 0),(7,vp 4 0),(10,vp 4 7),(17,vs 3)] (Y43a B1) ?_ (fun c93=>?_)
  ·refine SD.all3 (i:=1) (j:=4) (k:=6) K ?_ ?_ ?_
   ·exact SW.w tk B0 1 (vs 0) (bm 20 1547) (SD.vie B0 (gs 5) c66 K)
   ·exact SW.w tk B0 4 (vs 2) (bm 20 1561) (SD.vie B0 (gs 5) c84 K)
   exact SW.w tk B0 6 (vp 4 4) (bm 20 1609) (SD.vie B0 (gs 5) c90 K)
  refine SD.lay 17 (bm 20 521) [(1,vp 4 0),(7,vp 4 0),(10,vp 4 7),(16,vp 4 8)] (Y43a B1) ?_ (fun c94=>?_)
  ·refine SD.all4 (i:=1) (j:=4) (k:=6) (m:=10) K ?_ ?_ ?_ ?_
   ·exact SW.w tk B0 1 (vs 0) (bm 20 523) (SD.vie B0 (gs 5) c67 K)
   ·exact SW.w tk B0 4 (vs 2) (bm 20 537) (SD.vie B0 (gs 5) c85 K)
   ·exact SW.w tk B0 6 (vp 4 4) (bm 20 585) (SD.vie B0 (gs 5) c91 K)
   exact SW.w tk B0 10 (vs 3) (bm 20 1545) (SD.vie B0 (gs 5) c93 K)
  refine SD.lay 18 (bm 20 9) [(1,vp 4 0),(7,vp 4 0),(10,vp 4 7)] (Y43a B1) ?_ (fun c95=>?_)
  ·refine SD.all4 (i:=1) (j:=4) (k:=6) (m:=9) K ?_ ?_ ?_ ?_
   ·exact SW.w tk B0 1 (vs 0) (bm 20 11) (SD.vie B0 (gs 5) c68 K)
   ·exact SW.w tk B0 4 (vs 2) (bm 20 25) (SD.vie B0 (gs 5) c86 K)
   ·exact SW.w tk B0 6 (vp 4 4) (bm 20 73) (SD.vie B0 (gs 5) c92 K)
   exact SW.w tk B0 9 (vp 4 8) (bm 20 521) (SD.vie B0 (gs 5) c94 K)
  refine SD.lay 15 (bm 20 1729) [(1,vp 4 0),(7,vp 4 0),(14,vs 1),(17,vs 3)] (Y43a B1) ?_ (fun c96=>?_)
  ·refine SD.all2 (i:=1) (j:=3) K ?_ ?_
   ·exact SW.w tk B0 1 (vs 0) (bm 20 1731) (SD.vie B0 (gs 5) c69 K)
   exact SW.w tk B0 3 (vp 4 7) (bm 20 1737) (SD.vie B0 (gs 5) c87 K)
  refine SD.lay 16 (bm 20 705) [(1,vp 4 0),(7,vp 4 0),(14,vs 1),(16,vp 4 8)] (Y43a B1) ?_ (fun c97=>?_)
  ·refine SD.all3 (i:=1) (j:=3) (k:=10) K ?_ ?_ ?_
   ·exact SW.w tk B0 1 (vs 0) (bm 20 707) (SD.vie B0 (gs 5) c70 K)
   ·exact SW.w tk B0 3 (vp 4 7) (bm 20 713) (SD.vie B0 (gs 5) c88 K)
   exact SW.w tk B0 10 (vs 3) (bm 20 1729) (SD.vie B0 (gs 5) c96 K)
  refine SD.lay 17 (bm 20 193) [(1,vp 4 0),(7,vp 4 0),(14,vs 1)] (Y43a B1) ?_ (fun c98=>?_)
  ·refine SD.all3 (i:=1) (j:=3) (k:=9) K ?_ ?_ ?_
   ·exact SW.w tk B0 1 (vs 0) (bm 20 195) (SD.vie B0 (gs 5) c71 K)
   ·exact SW.w tk B0 3 (vp 4 7) (bm 20 201) (SD.vie B0 (gs 5) c89 K)
   exact SW.w tk B0 9 (vp 4 8) (bm 20 705) (SD.vie B0 (gs 5) c97 K)
  refine SD.lay 16 (bm 20 1601) [(1,vp 4 0),(7,vp 4 0),(13,vp 4 4),(17,vs 3)] (Y43a B1) ?_ (fun c99=>?_)
  ·refine SD.all3 (i:=1) (j:=3) (k:=7) K ?_ ?_ ?_
   ·exact SW.w tk B0 1 (vs 0) (bm 20 1603) (SD.vie B0 (gs 5) c72 K)
   ·exact SW.w tk B0 3 (vp 4 7) (bm 20 1609) (SD.vie B0 (gs 5) c90 K)
   exact SW.w tk B0 7 (vs 1) (bm 20 1729) (SD.vie B0 (gs 5) c96 K)
  refine SD.lay 17 (bm 20 577) [(1,vp 4 0),(7,vp 4 0),(13,vp 4 4),(16,vp 4 8)] (Y43a B1) ?_ (fun c100=>?_)
  ·refine SD.all4 (i:=1) (j:=3) (k:=7) (m:=10) K ?_ ?_ ?_ ?_
   ·exact SW.w tk B0 1 (vs 0) (bm 20 579) (SD.vie B0 (gs 5) c73 K)
   ·exact SW.w tk B0 3 (vp 4 7) (bm 20 585) (SD.vie B0 (gs 5) c91 K)
   ·exact SW.w tk B0 7 (vs 1) (bm 20 705) (SD.vie B0 (gs 5) c97 K)
   exact SW.w tk B0 10 (vs 3) (bm 20 1601) (SD.vie B0 (gs 5) c99 K)
  refine SD.lay 18 (bm 20 65) [(1,vp 4 0),(7,vp 4 0),(13,vp 4 4)] (Y43a B1) ?_ (fun c101=>?_)
  ·refine SD.all4 (i:=1) (j:=3) (k:=7) (m:=9) K ?_ ?_ ?_ ?_
   ·exact SW.w tk B0 1 (vs 0) (bm 20 67) (SD.vie B0 (gs 5) c74 K)
   ·exact SW.w tk B0 3 (vp 4 7) (bm 20 73) (SD.vie B0 (gs 5) c92 K)
   ·exact SW.w tk B0 7 (vs 1) (bm 20 193) (SD.vie B0 (gs 5) c98 K)
   exact SW.w tk B0 9 (vp 4 8) (bm 20 577) (SD.vie B0 (gs 5) c100 K)
  refine SD.lay 17 (bm 20 1537) [(1,vp 4 0),(7,vp 4 0),(17,vs 3)] (Y43a B1) ?_ (fun c102=>?_)
  ·refine SD.all3 (i:=1) (j:=3) (k:=6) K ?_ ?_ ?_
   ·exact SW.w tk B0 1 (vs 0) (bm 20 1539) (SD.vie B0 (gs 5) c75 K)
   ·exact SW.w tk B0 3 (vp 4 7) (bm 20 1545) (SD.vie B0 (gs 5) c93 K)
   exact SW.w tk B0 6 (vp 4 4) (bm 20 1601) (SD.vie B0 (gs 5) c99 K)
  refine SD.lay 18 (bm 20 513) [(1,vp 4 0),(7,vp 4 0),(16,vp 4 8)] (Y43a B1) ?_ (fun c103=>?_)
  ·refine SD.all4 (i:=1) (j:=3) (k:=6) (m:=10) K ?_ ?_ ?_ ?_
   ·exact SW.w tk B0 1 (vs 0) (bm 20 515) (SD.vie B0 (gs 5) c76 K)
   ·exact SW.w tk B0 3 (vp 4 7) (bm 20 521) (SD.vie B0 (gs 5) c94 K)
   ·exact SW.w tk B0 6 (vp 4 4) (bm 20 577) (SD.vie B0 (gs 5) c100 K)
   exact SW.w tk B0 10 (vs 3) (bm 20 1537) (SD.vie B0 (gs 5) c102 K)
  refine SD.lay 19 (bm 20 1) [(1,vp 4 0),(7,vp 4 0)] (Y43a B1) ?_ (fun c104=>?_)
  ·refine SD.all4 (i:=1) (j:=3) (k:=6) (m:=9) K ?_ ?_ ?_ ?_
   ·exact SW.w tk B0 1 (vs 0) (bm 20 3) (SD.vie B0 (gs 5) c77 K)
   ·exact SW.w tk B0 3 (vp 4 7) (bm 20 9) (SD.vie B0 (gs 5) c95 K)
   ·exact SW.w tk B0 6 (vp 4 4) (bm 20 65) (SD.vie B0 (gs 5) c101 K)
   exact SW.w tk B0 9 (vp 4 8) (bm 20 513) (SD.vie B0 (gs 5) c103 K)
  refine SD.lay 14 (bm 20 1752) [(1,vp 4 0),(11,vs 2),(14,vs 1),(17,vs 3)] (Y43a B1) ?_ (fun c105=>?_)
  ·exact SD.all1 (i:=0) K (SW.w tk B0 0 (vp 4 0) (bm 20 1753) (SD.vie B0 (gs 5) c78 K))
  refine SD.lay 15 (bm 20 728) [(1,vp 4 0),(11,vs 2),(14,vs 1),(16,vp 4 8)] (Y43a B1) ?_ (fun c106=>?_)
  ·refine SD.all2 (i:=0) (j:=10) K ?_ ?_
   ·exact SW.w tk B0 0 (vp 4 0) (bm 20 729) (SD.vie B0 (gs 5) c79 K)
   exact SW.w tk B0 10 (vs 3) (bm 20 1752) (SD.vie B0 (gs 5) c105 K)
  refine SD.lay 16 (bm 20 216) [(1,vp 4 0),(11,vs 2),(14,vs 1)] (Y43a B1) ?_ (fun c107=>?_)
  ·refine SD.all2 (i:=0) (j:=9) K ?_ ?_
   ·exact SW.w tk B0 0 (vp 4 0) (bm 20 217) (SD.vie B0 (gs 5) c80 K)
   exact SW.w tk B0 9 (vp 4 8) (bm 20 728) (SD.vie B0 (gs 5) c106 K)
  refine SD.lay 15 (bm 20 1624) [(1,vp 4 0),(11,vs 2),(13,vp 4 4),(17,vs 3)] (Y43a B1) ?_ (fun c108=>?_)
  ·refine SD.all2 (i:=0) (j:=7) K ?_ ?_
   ·exact SW.w tk B0 0 (vp 4 0) (bm 20 1625) (SD.vie B0 (gs 5) c81 K)
   exact SW.w tk B0 7 (vs 1) (bm 20 1752) (SD.vie B0 (gs 5) c105 K)
  refine SD.lay 16 (bm 20 600) [(1,vp 4 0),(11,vs 2),(13,vp 4 4),(16,vp 4 8)] (Y43a B1) ?_ (fun c109=>?_)
  ·refine SD.all3 (i:=0) (j:=7) (k:=10) K ?_ ?_ ?_
   ·exact SW.w tk B0 0 (vp 4 0) (bm 20 601) (SD.vie B0 (gs 5) c82 K)
   ·exact SW.w tk B0 7 (vs 1) (bm 20 728) (SD.vie B0 (gs 5) c106 K)
   exact SW.w tk B0 10 (vs 3) (bm 20 1624) (SD.vie B0 (gs 5) c108 K)
  refine SD.lay 17 (bm 20 88) [(1,vp 4 0),(11,vs 2),(13,vp 4 4)] (Y43a B1) ?_ (fun c110=>?_)
  ·refine SD.all3 (i:=0) (j:=7) (k:=9) K ?_ ?_ ?_
   ·exact SW.w tk B0 0 (vp 4 0) (bm 20 89) (SD.vie B0 (gs 5) c83 K)
   ·exact SW.w tk B0 7 (vs 1) (bm 20 216) (SD.vie B0 (gs 5) c107 K)
   exact SW.w tk B0 9 (vp 4 8) (bm 20 600) (SD.vie B0 (gs 5) c109 K)
  refine SD.lay 16 (bm 20 1560) [(1,vp 4 0),(11,vs 2),(17,vs 3)] (Y43a B1) ?_ (fun c111=>?_)
  ·refine SD.all2 (i:=0) (j:=6) K ?_ ?_
   ·exact SW.w tk B0 0 (vp 4 0) (bm 20 1561) (SD.vie B0 (gs 5) c84 K)
   exact SW.w tk B0 6 (vp 4 4) (bm 20 1624) (SD.vie B0 (gs 5) c108 K)
  refine SD.lay 17 (bm 20 536) [(1,vp 4 0),(11,vs 2),(16,vp 4 8)] (Y43a B1) ?_ (fun c112=>?_)
  ·refine SD.all3 (i:=0) (j:=6) (k:=10) K ?_ ?_ ?_
   ·exact SW.w tk B0 0 (vp 4 0) (bm 20 537) (SD.vie B0 (gs 5) c85 K)
   ·exact SW.w tk B0 6 (vp 4 4) (bm 20 600) (SD.vie B0 (gs 5) c109 K)
   exact SW.w tk B0 10 (vs 3) (bm 20 1560) (SD.vie B0 (gs 5) c111 K)
  refine SD.lay 18 (bm 20 24) [(1,vp 4 0),(11,vs 2)] (Y43a B1) ?_ (fun c113=>?_)
  ·refine SD.all3 (i:=0) (j:=6) (k:=9) K ?_ ?_ ?_
   ·exact SW.w tk B0 0 (vp 4 0) (bm 20 25) (SD.vie B0 (gs 5) c86 K)
   ·exact SW.w tk B0 6 (vp 4 4) (bm 20 88) (SD.vie B0 (gs 5) c110 K)
   exact SW.w tk B0 9 (vp 4 8) (bm 20 536) (SD.vie B0 (gs 5) c112 K)
  refine SD.lay 15 (bm 20 1736) [(1,vp 4 0),(10,vp 4 7),(14,vs 1),(17,vs 3)] (Y43a B1) ?_ (fun c114=>?_)
  ·refine SD.all2 (i:=0) (j:=4) K ?_ ?_
   ·exact SW.w tk B0 0 (vp 4 0) (bm 20 1737) (SD.vie B0 (gs 5) c87 K)
   exact SW.w tk B0 4 (vs 2) (bm 20 1752) (SD.vie B0 (gs 5) c105 K)
  refine SD.lay 16 (bm 20 712) [(1,vp 4 0),(10,vp 4 7),(14,vs 1),(16,vp 4 8)] (Y43a B1) ?_ (fun c115=>?_)
  ·refine SD.all3 (i:=0) (j:=4) (k:=10) K ?_ ?_ ?_
   ·exact SW.w tk B0 0 (vp 4 0) (bm 20 713) (SD.vie B0 (gs 5) c88 K)
   ·exact SW.w tk B0 4 (vs 2) (bm 20 728) (SD.vie B0 (gs 5) c106 K)
   exact SW.w tk B0 10 (vs 3) (bm 20 1736) (SD.vie B0 (gs 5) c114 K)
  refine SD.lay 17 (bm 20 200) [(1,vp 4 0),(10,vp 4 7),(14,vs 1)] (Y43a B1) ?_ (fun c116=>?_)
  ·refine SD.all3 (i:=0) (j:=4) (k:=9) K ?_ ?_ ?_
   ·exact SW.w tk B0 0 (vp 4 0) (bm 20 201) (SD.vie B0 (gs 5) c89 K)
   ·exact SW.w tk B0 4 (vs 2) (bm 20 216) (SD.vie B0 (gs 5) c107 K)
   exact SW.w tk B0 9 (vp 4 8) (bm 20 712) (SD.vie B0 (gs 5) c115 K)
  refine SD.lay 16 (bm 20 1608) [(1,vp 4 0),(10,vp 4 7),(13,vp 4 4),(17,vs 3)] (Y43a B1) ?_ (fun c117=>?_)
  ·refine SD.all3 (i:=0) (j:=4) (k:=7) K ?_ ?_ ?_
   ·exact SW.w tk B0 0 (vp 4 0) (bm 20 1609) (SD.vie B0 (gs 5) c90 K)
   ·exact SW.w tk B0 4 (vs 2) (bm 20 1624) (SD.vie B0 (gs 5) c108 K)
   exact SW.w tk B0 7 (vs 1) (bm 20 1736) (SD.vie B0 (gs 5) c114 K)
  refine SD.lay 17 (bm 20 584) [(1,vp 4 0),(10,vp 4 7),(13,vp 4 4),(16,vp 4 8)] (Y43a B1) ?_ (fun c118=>?_)
  ·refine SD.all4 (i:=0) (j:=4) (k:=7) (m:=10) K ?_ ?_ ?_ ?_
   ·exact SW.w tk B0 0 (vp 4 0) (bm 20 585) (SD.vie B0 (gs 5) c91 K)
   ·exact SW.w tk B0 4 (vs 2) (bm 20 600) (SD.vie B0 (gs 5) c109 K)
   ·exact SW.w tk B0 7 (vs 1) (bm 20 712) (SD.vie B0 (gs 5) c115 K)
   exact SW.w tk B0 10 (vs 3) (bm 20 1608) (SD.vie B0 (gs 5) c117 K)
  refine SD.lay 18 (bm 20 72) [(1,vp 4 0),(10,vp 4 7),(13,vp 4 4)] (Y43a B1) ?_ (fun c119=>?_)
  ·refine SD.all4 (i:=0) (j:=4) (k:=7) (m:=9) K ?_ ?_ ?_ ?_
   ·exact SW.w tk B0 0 (vp 4 0) (bm 20 73) (SD.vie B0 (gs 5) c92 K)
   ·exact SW.w tk B0 4 (vs 2) (bm 20 88) (SD.vie B0 (gs 5) c110 K)
   ·exact SW.w tk B0 7 (vs 1) (bm 20 200) (SD.vie B0 (gs 5) c116 K)
   exact SW.w tk B0 9 (vp 4 8) (bm 20 584) (SD.vie B0 (gs 5) c118 K)
  refine SD.lay 17 (bm 20 1544) [(1,vp 4 0),(10,vp 4 7),(17,vs 3)] (Y43a B1) ?_ (fun c120=>?_)
  ·refine SD.all3 (i:=0) (j:=4) (k:=6) K ?_ ?_ ?_
   ·exact SW.w tk B0 0 (vp 4 0) (bm 20 1545) (SD.vie B0 (gs 5) c93 K)
   ·exact SW.w tk B0 4 (vs 2) (bm 20 1560) (SD.vie B0 (gs 5) c111 K)
   exact SW.w tk B0 6 (vp 4 4) (bm 20 1608) (SD.vie B0 (gs 5) c117 K)
  refine SD.lay 18 (bm 20 520) [(1,vp 4 0),(10,vp 4 7),(16,vp 4 8)] (Y43a B1) ?_ (fun c121=>?_)
  ·refine SD.all4 (i:=0) (j:=4) (k:=6) (m:=10) K ?_ ?_ ?_ ?_
   ·exact SW.w tk B0 0 (vp 4 0) (bm 20 521) (SD.vie B0 (gs 5) c94 K)
   ·exact SW.w tk B0 4 (vs 2) (bm 20 536) (SD.vie B0 (gs 5) c112 K)
   ·exact SW.w tk B0 6 (vp 4 4) (bm 20 584) (SD.vie B0 (gs 5) c118 K)
   exact SW.w tk B0 10 (vs 3) (bm 20 1544) (SD.vie B0 (gs 5) c120 K)
  refine SD.lay 19 (bm 20 8) [(1,vp 4 0),(10,vp 4 7)] (Y43a B1) ?_ (fun c122=>?_)
  ·refine SD.all4 (i:=0) (j:=4) (k:=6) (m:=9) K ?_ ?_ ?_ ?_
   ·exact SW.w tk B0 0 (vp 4 0) (bm 20 9) (SD.vie B0 (gs 5) c95 K)
   ·exact SW.w tk B0 4 (vs 2) (bm 20 24) (SD.vie B0 (gs 5) c113 K)
   ·exact SW.w tk B0 6 (vp 4 4) (bm 20 72) (SD.vie B0 (gs 5) c119 K)
   exact SW.w tk B0 9 (vp 4 8) (bm 20 520) (SD.vie B0 (gs 5) c121 K)
  refine SD.lay 16 (bm 20 1728) [(1,vp 4 0),(14,vs 1),(17,vs 3)] (Y43a B1) ?_ (fun c123=>?_)
  ·refine SD.all2 (i:=0) (j:=3) K ?_ ?_
   ·exact SW.w tk B0 0 (vp 4 0) (bm 20 1729) (SD.vie B0 (gs 5) c96 K)
   exact SW.w tk B0 3 (vp 4 7) (bm 20 1736) (SD.vie B0 (gs 5) c114 K)
  refine SD.lay 17 (bm 20 704) [(1,vp 4 0),(14,vs 1),(16,vp 4 8)] (Y43a B1) ?_ (fun c124=>?_)
  ·refine SD.all3 (i:=0) (j:=3) (k:=10) K ?_ ?_ ?_
   ·exact SW.w tk B0 0 (vp 4 0) (bm 20 705) (SD.vie B0 (gs 5) c97 K)
   ·exact SW.w tk B0 3 (vp 4 7) (bm 20 712) (SD.vie B0 (gs 5) c115 K)
   exact SW.w tk B0 10 (vs 3) (bm 20 1728) (SD.vie B0 (gs 5) c123 K)
  refine SD.lay 18 (bm 20 192) [(1,vp 4 0),(14,vs 1)] (Y43a B1) ?_ (fun c125=>?_)
  ·refine SD.all3 (i:=0) (j:=3) (k:=9) K ?_ ?_ ?_
   ·exact SW.w tk B0 0 (vp 4 0) (bm 20 193) (SD.vie B0 (gs 5) c98 K)
   ·exact SW.w tk B0 3 (vp 4 7) (bm 20 200) (SD.vie B0 (gs 5) c116 K)
   exact SW.w tk B0 9 (vp 4 8) (bm 20 704) (SD.vie B0 (gs 5) c124 K)
  refine SD.lay 17 (bm 20 1600) [(1,vp 4 0),(13,vp 4 4),(17,vs 3)] (Y43a B1) ?_ (fun c126=>?_)
  ·refine SD.all3 (i:=0) (j:=3) (k:=7) K ?_ ?_ ?_
   ·exact SW.w tk B0 0 (vp 4 0) (bm 20 1601) (SD.vie B0 (gs 5) c99 K)
   ·exact SW.w tk B0 3 (vp 4 7) (bm 20 1608) (SD.vie B0 (gs 5) c117 K)
   exact SW.w tk B0 7 (vs 1) (bm 20 1728) (SD.vie B0 (gs 5) c123 K)
  refine SD.lay 18 (bm 20 576) [(1,vp 4 0),(13,vp 4 4),(16,vp 4 8)] (Y43a B1) ?_ (fun c127=>?_)
  ·refine SD.all4 (i:=0) (j:=3) (k:=7) (m:=10) K ?_ ?_ ?_ ?_
   ·exact SW.w tk B0 0 (vp 4 0) (bm 20 577) (SD.vie B0 (gs 5) c100 K)
   ·exact SW.w tk B0 3 (vp 4 7) (bm 20 584) (SD.vie B0 (gs 5) c118 K)
   ·exact SW.w tk B0 7 (vs 1) (bm 20 704) (SD.vie B0 (gs 5) c124 K)
   exact SW.w tk B0 10 (vs 3) (bm 20 1600) (SD.vie B0 (gs 5) c126 K)
  refine SD.lay 19 (bm 20 64) [(1,vp 4 0),(13,vp 4 4)] (Y43a B1) ?_ (fun c128=>?_)
  ·refine SD.all4 (i:=0) (j:=3) (k:=7) (m:=9) K ?_ ?_ ?_ ?_
   ·exact SW.w tk B0 0 (vp 4 0) (bm 20 65) (SD.vie B0 (gs 5) c101 K)
   ·exact SW.w tk B0 3 (vp 4 7) (bm 20 72) (SD.vie B0 (gs 5) c119 K)
   ·exact SW.w tk B0 7 (vs 1) (bm 20 192) (SD.vie B0 (gs 5) c125 K)
   exact SW.w tk B0 9 (vp 4 8) (bm 20 576) (SD.vie B0 (gs 5) c127 K)
  refine SD.lay 18 (bm 20 1536) [(1,vp 4 0),(17,vs 3)] (Y43a B1) ?_ (fun c129=>?_)
  ·refine SD.all3 (i:=0) (j:=3) (k:=6) K ?_ ?_ ?_
   ·exact SW.w tk B0 0 (vp 4 0) (bm 20 1537) (SD.vie B0 (gs 5) c102 K)
   ·exact SW.w tk B0 3 (vp 4 7) (bm 20 1544) (SD.vie B0 (gs 5) c120 K)
   exact SW.w tk B0 6 (vp 4 4) (bm 20 1600) (SD.vie B0 (gs 5) c126 K)
  refine SD.lay 19 (bm 20 512) [(1,vp 4 0),(16,vp 4 8)] (Y43a B1) ?_ (fun c130=>?_)
  ·refine SD.all4 (i:=0) (j:=3) (k:=6) (m:=10) K ?_ ?_ ?_ ?_
   ·exact SW.w tk B0 0 (vp 4 0) (bm 20 513) (SD.vie B0 (gs 5) c103 K)
   ·exact SW.w tk B0 3 (vp 4 7) (bm 20 520) (SD.vie B0 (gs 5) c121 K)
   ·exact SW.w tk B0 6 (vp 4 4) (bm 20 576) (SD.vie B0 (gs 5) c127 K)
   exact SW.w tk B0 10 (vs 3) (bm 20 1536) (SD.vie B0 (gs 5) c129 K)
  refine SD.all4 (i:=0) (j:=3) (k:=6) (m:=9) K ?_ ?_ ?_ ?_
  ·exact SW.w tk B0 0 (vp 4 0) (bm 20 1) (SD.vie B0 (gs 5) c104 K)
  ·exact SW.w tk B0 3 (vp 4 7) (bm 20 8) (SD.vie B0 (gs 5) c122 K)
  ·exact SW.w tk B0 6 (vp 4 4) (bm 20 64) (SD.vie B0 (gs 5) c128 K)
  exact SW.w tk B0 9 (vp 4 8) (bm 20 512) (SD.vie B0 (gs 5) c130 K)
 rintro a w ⟨B2,hp,h⟩;refine h.go (SC.cut (fun a w=>∃(Bc:(List Tx7)),q5w F B1 B2 Bc=some r∧A 62 4 fx [(1,vp 4 0)] [.gone,.gone,.gone,.gone,.blk 30 (hx8 ({ B1 with DB:=B2.DB,Queue:=Bc,Subs:=B2.Subs,Out:=B2.Out }) 5),.own 5 56 Rx1 B2.DB,.own 3 115 Rx7 Bc,.own 2 83 Rx6 B2.Subs,.own 12 47 Rx3 B2.Out] a w) ?_ ?_)
 ·refine SC.m tk [(1,vp 4 0),(24,vs 6),(25,J (len B2.Queue)),(26,J 0)] (SC.block ?_);obtain⟨o2,hi2,ho2⟩:=bI hp;clear hp;refine SC.loop (fun n a w=>∃(Be:(List Tx7)) (B4:Int),iter (fun s=>q1w F B2 s.1 s.2) n (Be,B4)=some o2∧A 62 4 fx [(1,vp 4 0),(24,vs 6),(25,J (len B2.Queue)),(26,J B4)] [.gone,.gone,.gone,.gone,.blk 30 (hx8 ({ B1 with DB:=B2.DB,Queue:=Be,Subs:=B2.Subs,Out:=B2.Out }) 5),.own 5 56 Rx1 B2.DB,.own 3 115 Rx7 Be,.own 2 83 Rx6 B2.Subs,.own 12 47 Rx3 B2.Out] a w) F (fun a w h=>⟨B2.Queue,0,hi2,h.t (gs 9)⟩) ?_;rintro n2 a w ⟨Be,B4,hi2,h⟩;obtain⟨n2,q2,rfl,hp,hs2⟩:=iI hi2;replace hp:q1w F B2 Be B4=some q2:=hp;clear hi2;refine h.go (SC.m tk [(1,vp 4 0),(24,vs 6),(25,J (len B2.Queue)),(26,J B4),(27,vb (decide (B4<(len B2.Queue))))] (SC.seq (SC.j hp (fun hp=>?_) (fun hp=>?_))))
  ·refine SC.skipThen (SC.seq (SC.block (SC.s ?_)));obtain⟨Bb,Bv,hp⟩:=bI hp;refine SL.pre (pre_ixo (i:=6) (iv:=B4) (sz:=3) (E:=115) (R:=Rx7) (l:=Be) K rfl Bv) (SL.sim tk 3 [(1,vp 4 0),(24,vs 6),(25,J (len B2.Queue)),(26,J B4),(28,J B4),(30,.g (Cx7 Bb (.s 10)))] [] [.el 9] [B4] K (SL.pre (pre_kill) (SL.f (eA (E:=115) tk [ci .u16 0,ci .i64 0,nl] K) (SL.sim tk 2 [(1,vp 4 0),(3,J B4),(4,vp 11 0),(24,vs 6),(25,J (len B2.Queue)),(26,J B4)] [(11,115,(Cx7 Bb (.s 10)))] [] [] K (SL.nT (SC.draw MO (bm 12 3488) K fun E2 B7=>?_))))));refine SD.t tk B7 [2,3,4] (bm 10 28) [(1,vp 4 0),(24,vs 6),(25,J (len B2.Queue)),(26,J B4),(33,J B4),(35,vs 10)] ?_;obtain⟨Bi,Bm,hp⟩:=bI hp;obtain⟨E3,Br,hp⟩:=bI hp;obtain⟨Bs,Bw,hp⟩:=bI hp;obtain⟨Bn,Bx,hp⟩:=bI hp;refine SD.lay 0 (bm 10 1023) [(1,vp 4 0),(24,vs 6),(25,J (len B2.Queue)),(26,J B4)] [.gone,.gone,.gone,.gone,.blk 30 (hx8 ({ B1 with DB:=B2.DB,Queue:=Bn,Subs:=B2.Subs,Out:=B2.Out }) 5),.own 5 56 Rx1 B2.DB,.own 3 115 Rx7 Bn,.own 2 83 Rx6 B2.Subs,.own 12 47 Rx3 B2.Out,.gone,.rd 1 R8 Bb.Value,.blk 115 (Cx7 Bb (.s 10))] ?_ (fun c131=>?_)
   ·refine SD.doneThen K (SC.reg (SL.m tk 2 [(1,vp 4 0),(24,vs 6),(25,J (len B2.Queue)),(26,J (w64 (B4+1)))] (SL.nilJ fun a w h=>?_)));exact⟨n2,Nat.lt_succ_self _,Bn,w64 (B4+1),nI hp hs2,h.t (gs 9)⟩
   refine SD.lay 1 (bm 10 511) [(1,vp 4 0),(24,vs 6),(25,J (len B2.Queue)),(26,J B4),(37,vs 13),(39,vp 6 (B4.toNat * 3+2))] (Y43c B2 Be B1 Bb++[.gone,.rd 1 R8 Bi]) ?_ (fun c132=>?_)
   ·exact SD.all1 (i:=9) K (SW.effX B7 (i:=9) (bs':=(bm 10 1023)) rfl (e_stf (sz:=3) (E:=115) (R:=Rx7) (i:=6) (o:=2) (iv:=B4) (l:=Be) (e:={ Bs with Value:=Bi }) tk rfl rfl Bw rfl rfl rfl K (c_x7 (x:={ Bs with Value:=Bi }) (Clo.sl K)) K K Bx) rfl K (SD.vie B7 (gs 12) c131 K))
   refine SD.lay 2 (bm 10 255) [(1,vp 4 0),(24,vs 6),(25,J (len B2.Queue)),(26,J B4),(37,vs 13),(38,vp 6 (B4.toNat * 3))] (Y43c B2 Be B1 Bb++[.gone,.rd 1 R8 Bi]) ?_ (fun c133=>?_)
   ·exact SD.all1 (i:=8) K (SW.f B7 8 (bm 10 511) rfl rfl rfl (e_fap (off:=2) (iv:=B4) tk rfl rfl Br K) (SD.vie B7 [.g 0,.g 1,.g 2,.g 3,.g 4,.g 5,.g 6,.g 7,.g 8,.g 9,.g 10,.g 11,.n,.g 13] c132 K))
   refine SD.lay 3 (bm 10 127) [(1,vp 4 0),(24,vs 6),(25,J (len B2.Queue)),(26,J B4),(32,vs 6),(33,J B4),(37,vs 13)] (Y43c B2 Be B1 Bb++[.gone,.rd 1 R8 Bi]) ?_ (fun c134=>?_)
   ·exact SD.all1 (i:=7) K (SW.f B7 7 (bm 10 255) rfl rfl rfl (e_ixp (sz:=3) (E:=115) (R:=Rx7) (by_:=40) (l:=Be) tk rfl rfl rfl Br K) (SD.vie B7 [.g 0,.g 1,.g 2,.g 3,.g 4,.g 5,.g 6,.g 7,.g 8,.g 9,.g 10,.g 11,.n,.g 13] c133 K))
   refine SD.lay 4 (bm 10 63) [(1,vp 4 0),(24,vs 6),(25,J (len B2.Queue)),(26,J B4),(32,vs 6),(33,J B4),(36,vs 12)] (Y43c B2 Be B1 Bb++[.own 1 44 (RSl 1 R8) [Bb.Value]]) ?_ (fun c135=>?_)
   ·exact SD.pre (pF (i:=12) (sz:=1) (E:=44) (R:=(RSl 1 R8)) (l:=[Bb.Value]) K) (SD.all1 (i:=6) K (SW.f B7 6 (bm 10 127) rfl rfl rfl (e_c Tryz.call62 (kq5 F [Bb.Value] _ Bm) [.g 12] [vs 12] (vs 13) K (.inl rfl)) (SD.vie B7 [.g 0,.g 1,.g 2,.g 3,.g 4,.g 5,.g 6,.g 7,.g 8,.g 9,.g 10,.g 11,.n,.g 13] c134 K)))
   refine SD.lay 5 (bm 10 31) [(1,vp 4 0),(24,vs 6),(25,J (len B2.Queue)),(26,J B4),(32,vs 6),(33,J B4),(35,vs 10)] (Y43c B2 Be B1 Bb) ?_ (fun c136=>?_)
   ·exact SD.all1 (i:=5) K (SW.f B7 5 (bm 10 63) rfl rfl rfl (eL (sz:=1) (E:=44) (R:=(RSl 1 R8)) (by_:=24) tk [[.s 10]] [Bb.Value] K ⟨(Clo.sl K),trivial⟩ rfl K K) (SD.vie B7 (gs 13) c135 K))
   refine SD.lay 4 (bm 10 125) [(1,vp 4 0),(24,vs 6),(25,J (len B2.Queue)),(26,J B4),(31,vp 4 4),(33,J B4),(37,vs 13)] (Y43c B2 Be B1 Bb++[.gone,.rd 1 R8 Bi]) ?_ (fun c137=>?_)
   ·exact SD.all1 (i:=1) K (SW.w tk B7 1 (vs 6) (bm 10 127) (SD.vie B7 [.g 0,.g 1,.g 2,.g 3,.g 4,.g 5,.g 6,.g 7,.g 8,.g 9,.g 10,.g 11,.n,.g 13] c134 K))
   refine SD.lay 5 (bm 10 61) [(1,vp 4 0),(24,vs 6),(25,J (len B2.Queue)),(26,J B4),(31,vp 4 4),(33,J B4),(36,vs 12)] (Y43c B2 Be B1 Bb++[.own 1 44 (RSl 1 R8) [Bb.Value]]) ?_ (fun c138=>?_)
   ·refine SD.all2 (i:=1) (j:=6) K ?_ ?_
    ·exact SW.w tk B7 1 (vs 6) (bm 10 63) (SD.vie B7 (gs 13) c135 K)
    exact SW.pre (pF (i:=12) (sz:=1) (E:=44) (R:=(RSl 1 R8)) (l:=[Bb.Value]) K) (SW.f B7 6 (bm 10 125) rfl rfl rfl (e_c Tryz.call62 (kq5 F [Bb.Value] _ Bm) [.g 12] [vs 12] (vs 13) K (.inl rfl)) (SD.vie B7 [.g 0,.g 1,.g 2,.g 3,.g 4,.g 5,.g 6,.g 7,.g 8,.g 9,.g 10,.g 11,.n,.g 13] c137 K))
   refine SD.lay 6 (bm 10 29) [(1,vp 4 0),(24,vs 6),(25,J (len B2.Queue)),(26,J B4),(31,vp 4 4),(33,J B4),(35,vs 10)] (Y43c B2 Be B1 Bb) ?_ (fun c139=>?_)
   ·refine SD.all2 (i:=1) (j:=5) K ?_ ?_
    ·exact SW.w tk B7 1 (vs 6) (bm 10 31) (SD.vie B7 (gs 12) c136 K)
    exact SW.f B7 5 (bm 10 61) rfl rfl rfl (eL (sz:=1) (E:=44) (R:=(RSl 1 R8)) (by_:=24) tk [[.s 10]] [Bb.Value] K ⟨(Clo.sl K),trivial⟩ rfl K K) (SD.vie B7 (gs 13) c138 K)
   refine SD.lay 5 (bm 10 124) [(1,vp 4 0),(24,vs 6),(25,J (len B2.Queue)),(26,J B4),(33,J B4),(37,vs 13)] (Y43c B2 Be B1 Bb++[.gone,.rd 1 R8 Bi]) ?_ (fun c140=>?_)
   ·exact SD.all1 (i:=0) K (SW.w tk B7 0 (vp 4 4) (bm 10 125) (SD.vie B7 [.g 0,.g 1,.g 2,.g 3,.g 4,.g 5,.g 6,.g 7,.g 8,.g 9,.g 10,.g 11,.n,.g 13] c137 K))
   refine SD.lay 6 (bm 10 60) [(1,vp 4 0),(24,vs 6),(25,J (len B2.Queue)),(26,J B4),(33,J B4),(36,vs 12)] (Y43c B2 Be B1 Bb++[.own 1 44 (RSl 1 R8) [Bb.Value]]) ?_ (fun c141=>?_)
   ·refine SD.all2 (i:=0) (j:=6) K ?_ ?_
    ·exact SW.w tk B7 0 (vp 4 4) (bm 10 61) (SD.vie B7 (gs 13) c138 K)
    exact SW.pre (pF (i:=12) (sz:=1) (E:=44) (R:=(RSl 1 R8)) (l:=[Bb.Value]) K) (SW.f B7 6 (bm 10 124) rfl rfl rfl (e_c Tryz.call62 (kq5 F [Bb.Value] _ Bm) [.g 12] [vs 12] (vs 13) K (.inl rfl)) (SD.vie B7 [.g 0,.g 1,.g 2,.g 3,.g 4,.g 5,.g 6,.g 7,.g 8,.g 9,.g 10,.g 11,.n,.g 13] c140 K))
   refine SD.all2 (i:=0) (j:=5) K ?_ ?_
   ·exact SW.w tk B7 0 (vp 4 4) (bm 10 29) (SD.vie B7 (gs 12) c139 K)
   exact SW.f B7 5 (bm 10 60) rfl rfl rfl (eL (sz:=1) (E:=44) (R:=(RSl 1 R8)) (by_:=24) tk [[.s 10]] [Bb.Value] K ⟨(Clo.sl K),trivial⟩ rfl K K) (SD.vie B7 (gs 13) c141 K)
  refine SC.xJ rfl fun a w h=>?_;have ho:=dI hp hs2;replace hp:=ho2
  try rw [ho] at hp
  exact⟨Be,hp,h.t (gs 9)⟩
 rintro a w ⟨Bc,hp,h⟩;refine h.go (SC.cut (fun a w=>∃(Bk:(List Tx3)),q7d F B1 B2 Bc Bk=some r∧A 62 4 fx [(1,vp 4 0)] [.gone,.gone,.gone,.gone,.blk 30 (hx8 ({ B1 with DB:=B2.DB,Queue:=Bc,Subs:=B2.Subs,Out:=Bk }) 5),.own 5 56 Rx1 B2.DB,.own 3 115 Rx7 Bc,.own 2 83 Rx6 B2.Subs,.own 12 47 Rx3 Bk] a w) ?_ ?_)
 ·refine SC.m tk [(1,vp 4 0),(42,vs 8),(43,J (len B2.Out)),(44,J 0)] (SC.block ?_);obtain⟨o1,hi1,ho1⟩:=bI hp;clear hp;refine SC.loop (fun n a w=>∃(Bf:(List Tx3)) (B5:Int),iter (fun s=>q1v F B2 s.1 s.2) n (Bf,B5)=some o1∧A 62 4 fx [(1,vp 4 0),(42,vs 8),(43,J (len B2.Out)),(44,J B5)] [.gone,.gone,.gone,.gone,.blk 30 (hx8 ({ B1 with DB:=B2.DB,Queue:=Bc,Subs:=B2.Subs,Out:=Bf }) 5),.own 5 56 Rx1 B2.DB,.own 3 115 Rx7 Bc,.own 2 83 Rx6 B2.Subs,.own 12 47 Rx3 Bf] a w) F (fun a w h=>⟨B2.Out,0,hi1,h.t (gs 9)⟩) ?_;rintro n1 a w ⟨Bf,B5,hi1,h⟩;obtain⟨n1,q1,rfl,hp,hs1⟩:=iI hi1;replace hp:q1v F B2 Bf B5=some q1:=hp;clear hi1;refine h.go (SC.m tk [(1,vp 4 0),(42,vs 8),(43,J (len B2.Out)),(44,J B5),(45,vb (decide (B5<(len B2.Out))))] (SC.seq (SC.j hp (fun hp=>?_) (fun hp=>?_))))
  ·refine SC.skipThen (SC.seq (SC.block (SC.s ?_)));obtain⟨Ba,By,hp⟩:=bI hp;refine SL.pre (pre_ixo (i:=8) (iv:=B5) (sz:=12) (E:=47) (R:=Rx3) (l:=Bf) K rfl By) (SL.sim tk 3 [(1,vp 4 0),(42,vs 8),(43,J (len B2.Out)),(44,J B5),(46,J B5),(48,.g (hx3 Ba 10))] [] [.el 9] [B5] K (SL.pre (pre_kill) (SL.f (eA (E:=47) tk (Cx3 (Tx3.mk 0 0 0 0 (Tx0.mk 0 0) 0 0 0 false [] []) nl nl) K) (SL.sim tk 2 [(1,vp 4 0),(5,J B5),(6,vp 12 0),(42,vs 8),(43,J (len B2.Out)),(44,J B5)] [(12,47,(hx3 Ba 10))] [] [] K (SL.nT (SC.draw MO (bm 13 7392) K fun E4 B8=>?_))))));refine SD.t tk B8 [2,3,4] (bm 10 28) [(1,vp 4 0),(42,vs 8),(43,J (len B2.Out)),(44,J B5),(51,J B5),(53,vs 10)] ?_;obtain⟨Bj,Bo,hp⟩:=bI hp;obtain⟨E5,Bt,hp⟩:=bI hp;obtain⟨Bu,Bz,hp⟩:=bI hp;obtain⟨Bp,E0,hp⟩:=bI hp;refine SD.lay 0 (bm 10 1023) [(1,vp 4 0),(42,vs 8),(43,J (len B2.Out)),(44,J B5)] [.gone,.gone,.gone,.gone,.blk 30 (hx8 ({ B1 with DB:=B2.DB,Queue:=Bc,Subs:=B2.Subs,Out:=Bp }) 5),.own 5 56 Rx1 B2.DB,.own 3 115 Rx7 Bc,.own 2 83 Rx6 B2.Subs,.own 12 47 Rx3 Bp,.gone,.rd 1 R8 Ba.Value,.rd 5 Rx2 Ba.List,.blk 47 (hx3 Ba 10)] ?_ (fun c142=>?_)
   ·refine SD.doneThen K (SC.reg (SL.m tk 2 [(1,vp 4 0),(42,vs 8),(43,J (len B2.Out)),(44,J (w64 (B5+1)))] (SL.nilJ fun a w h=>?_)));exact⟨n1,Nat.lt_succ_self _,Bp,w64 (B5+1),nI hp hs1,h.t (gs 9)⟩
   refine SD.lay 1 (bm 10 511) [(1,vp 4 0),(42,vs 8),(43,J (len B2.Out)),(44,J B5),(55,vs 14),(57,vp 8 (B5.toNat * 12+10))] (Y43b B2 Bc Bf B1 Ba++[.gone,.rd 1 R8 Bj]) ?_ (fun c143=>?_)
   ·exact SD.all1 (i:=9) K (SW.effX B8 (i:=9) (bs':=(bm 10 1023)) rfl (e_stf (sz:=12) (E:=47) (R:=Rx3) (i:=8) (o:=10) (iv:=B5) (l:=Bf) (e:={ Bu with Value:=Bj }) tk rfl rfl Bz rfl rfl rfl K (c_x3 (x:={ Bu with Value:=Bj }) (Clo.sl K) (Clo.sl K)) K K E0) rfl K (SD.vie B8 (gs 13) c142 K))
   refine SD.lay 2 (bm 10 255) [(1,vp 4 0),(42,vs 8),(43,J (len B2.Out)),(44,J B5),(55,vs 14),(56,vp 8 (B5.toNat * 12))] (Y43b B2 Bc Bf B1 Ba++[.gone,.rd 1 R8 Bj]) ?_ (fun c144=>?_)
   ·exact SD.all1 (i:=8) K (SW.f B8 8 (bm 10 511) rfl rfl rfl (e_fap (off:=10) (iv:=B5) tk rfl rfl Bt K) (SD.vie B8 [.g 0,.g 1,.g 2,.g 3,.g 4,.g 5,.g 6,.g 7,.g 8,.g 9,.g 10,.g 11,.g 12,.n,.g 14] c143 K))
   refine SD.lay 3 (bm 10 127) [(1,vp 4 0),(42,vs 8),(43,J (len B2.Out)),(44,J B5),(50,vs 8),(51,J B5),(55,vs 14)] (Y43b B2 Bc Bf B1 Ba++[.gone,.rd 1 R8 Bj]) ?_ (fun c145=>?_)
   ·exact SD.all1 (i:=7) K (SW.f B8 7 (bm 10 255) rfl rfl rfl (e_ixp (sz:=12) (E:=47) (R:=Rx3) (by_:=120) (l:=Bf) tk rfl rfl rfl Bt K) (SD.vie B8 [.g 0,.g 1,.g 2,.g 3,.g 4,.g 5,.g 6,.g 7,.g 8,.g 9,.g 10,.g 11,.g 12,.n,.g 14] c144 K))
   refine SD.lay 4 (bm 10 63) [(1,vp 4 0),(42,vs 8),(43,J (len B2.Out)),(44,J B5),(50,vs 8),(51,J B5),(54,vs 13)] (Y43b B2 Bc Bf B1 Ba++[.own 1 44 (RSl 1 R8) [Ba.Value]]) ?_ (fun c146=>?_)
   ·exact SD.pre (pF (i:=13) (sz:=1) (E:=44) (R:=(RSl 1 R8)) (l:=[Ba.Value]) K) (SD.all1 (i:=6) K (SW.f B8 6 (bm 10 127) rfl rfl rfl (e_c Tryz.call62 (kq5 F [Ba.Value] _ Bo) [.g 13] [vs 13] (vs 14) K (.inl rfl)) (SD.vie B8 [.g 0,.g 1,.g 2,.g 3,.g 4,.g 5,.g 6,.g 7,.g 8,.g 9,.g 10,.g 11,.g 12,.n,.g 14] c145 K)))
   refine SD.lay 5 (bm 10 31) [(1,vp 4 0),(42,vs 8),(43,J (len B2.Out)),(44,J B5),(50,vs 8),(51,J B5),(53,vs 10)] (Y43b B2 Bc Bf B1 Ba) ?_ (fun c147=>?_)
   ·exact SD.all1 (i:=5) K (SW.f B8 5 (bm 10 63) rfl rfl rfl (eL (sz:=1) (E:=44) (R:=(RSl 1 R8)) (by_:=24) tk [[.s 10]] [Ba.Value] K ⟨(Clo.sl K),trivial⟩ rfl K K) (SD.vie B8 (gs 14) c146 K))
   refine SD.lay 4 (bm 10 125) [(1,vp 4 0),(42,vs 8),(43,J (len B2.Out)),(44,J B5),(49,vp 4 8),(51,J B5),(55,vs 14)] (Y43b B2 Bc Bf B1 Ba++[.gone,.rd 1 R8 Bj]) ?_ (fun c148=>?_)
   ·exact SD.all1 (i:=1) K (SW.w tk B8 1 (vs 8) (bm 10 127) (SD.vie B8 [.g 0,.g 1,.g 2,.g 3,.g 4,.g 5,.g 6,.g 7,.g 8,.g 9,.g 10,.g 11,.g 12,.n,.g 14] c145 K))
   refine SD.lay 5 (bm 10 61) [(1,vp 4 0),(42,vs 8),(43,J (len B2.Out)),(44,J B5),(49,vp 4 8),(51,J B5),(54,vs 13)] (Y43b B2 Bc Bf B1 Ba++[.own 1 44 (RSl 1 R8) [Ba.Value]]) ?_ (fun c149=>?_)
   ·refine SD.all2 (i:=1) (j:=6) K ?_ ?_
    ·exact SW.w tk B8 1 (vs 8) (bm 10 63) (SD.vie B8 (gs 14) c146 K)
    exact SW.pre (pF (i:=13) (sz:=1) (E:=44) (R:=(RSl 1 R8)) (l:=[Ba.Value]) K) (SW.f B8 6 (bm 10 125) rfl rfl rfl (e_c Tryz.call62 (kq5 F [Ba.Value] _ Bo) [.g 13] [vs 13] (vs 14) K (.inl rfl)) (SD.vie B8 [.g 0,.g 1,.g 2,.g 3,.g 4,.g 5,.g 6,.g 7,.g 8,.g 9,.g 10,.g 11,.g 12,.n,.g 14] c148 K))
   refine SD.lay 6 (bm 10 29) [(1,vp 4 0),(42,vs 8),(43,J (len B2.Out)),(44,J B5),(49,vp 4 8),(51,J B5),(53,vs 10)] (Y43b B2 Bc Bf B1 Ba) ?_ (fun c150=>?_)
   ·refine SD.all2 (i:=1) (j:=5) K ?_ ?_
    ·exact SW.w tk B8 1 (vs 8) (bm 10 31) (SD.vie B8 (gs 13) c147 K)
    exact SW.f B8 5 (bm 10 61) rfl rfl rfl (eL (sz:=1) (E:=44) (R:=(RSl 1 R8)) (by_:=24) tk [[.s 10]] [Ba.Value] K ⟨(Clo.sl K),trivial⟩ rfl K K) (SD.vie B8 (gs 14) c149 K)
   refine SD.lay 5 (bm 10 124) [(1,vp 4 0),(42,vs 8),(43,J (len B2.Out)),(44,J B5),(51,J B5),(55,vs 14)] (Y43b B2 Bc Bf B1 Ba++[.gone,.rd 1 R8 Bj]) ?_ (fun c151=>?_)
   ·exact SD.all1 (i:=0) K (SW.w tk B8 0 (vp 4 8) (bm 10 125) (SD.vie B8 [.g 0,.g 1,.g 2,.g 3,.g 4,.g 5,.g 6,.g 7,.g 8,.g 9,.g 10,.g 11,.g 12,.n,.g 14] c148 K))
   refine SD.lay 6 (bm 10 60) [(1,vp 4 0),(42,vs 8),(43,J (len B2.Out)),(44,J B5),(51,J B5),(54,vs 13)] (Y43b B2 Bc Bf B1 Ba++[.own 1 44 (RSl 1 R8) [Ba.Value]]) ?_ (fun c152=>?_)
   ·refine SD.all2 (i:=0) (j:=6) K ?_ ?_
    ·exact SW.w tk B8 0 (vp 4 8) (bm 10 61) (SD.vie B8 (gs 14) c149 K)
    exact SW.pre (pF (i:=13) (sz:=1) (E:=44) (R:=(RSl 1 R8)) (l:=[Ba.Value]) K) (SW.f B8 6 (bm 10 124) rfl rfl rfl (e_c Tryz.call62 (kq5 F [Ba.Value] _ Bo) [.g 13] [vs 13] (vs 14) K (.inl rfl)) (SD.vie B8 [.g 0,.g 1,.g 2,.g 3,.g 4,.g 5,.g 6,.g 7,.g 8,.g 9,.g 10,.g 11,.g 12,.n,.g 14] c151 K))
   refine SD.all2 (i:=0) (j:=5) K ?_ ?_
   ·exact SW.w tk B8 0 (vp 4 8) (bm 10 29) (SD.vie B8 (gs 13) c150 K)
   exact SW.f B8 5 (bm 10 60) rfl rfl rfl (eL (sz:=1) (E:=44) (R:=(RSl 1 R8)) (by_:=24) tk [[.s 10]] [Ba.Value] K ⟨(Clo.sl K),trivial⟩ rfl K K) (SD.vie B8 (gs 14) c152 K)
  refine SC.xJ rfl fun a w h=>?_;have ho:=dI hp hs1;replace hp:=ho1
  try rw [ho] at hp
  exact⟨Bf,hp,h.t (gs 9)⟩
 rintro a w ⟨Bk,hp,h⟩;refine h.go (SC.s (SL.m tk 2 [(60,.g (Cxa (Txa.mk ({ B1 with DB:=B2.DB,Queue:=Bc,Subs:=B2.Subs,Out:=Bk }) []) (.s 5) (.s 6) (.s 7) (.s 8) nl))] (SL.f (e_box (E:=97) (Cxa (Txa.mk ({ B1 with DB:=B2.DB,Queue:=Bc,Subs:=B2.Subs,Out:=Bk }) []) (.s 5) (.s 6) (.s 7) (.s 8) nl) K) (SL.m tk 1 [(2,vp 9 0)] (SL.nT ?_)))));obtain rfl:=sI hp;exact SC.q tk [.g 0,.g 1,.g 2,.g 3,.g 9,.g 5,.g 6,.g 7,.z 8,.n]
end V
end Go.Proofs.YtoahakdkgefgiaaGreat
