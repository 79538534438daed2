/- Walks, written by program: each Go function returns what its -/
import Derived.Test.YtoahakdkgefgiaaGreatW1
namespace Go.Proofs.YtoahakdkgefgiaaGreat
namespace V
theorem ok_server_of (F:Nat) (B0:T_Server) (r:T_server_side) (hp:server_of F B0=some r):Spec Tryz.prog 43 [.g (C_Server B0 (.s 0) (.s 1) (.s 2) (.s 3))] [.rd 5 R_Attribute B0.DB,.rd 3 R_Prepared B0.Queue,.rd 2 R_Subscription B0.Subs,.rd 12 R_AttPDU B0.Out] (vp 4 0) [.gone,.gone,.gone,.gone,.blk 97 [.s 5,ci .i64 r.Server.MTU,ci .i64 r.Server.Max,ci .i64 r.Server.Level,.s 6,ci .i64 r.Server.Aware,cb r.Server.Robust,.s 7,.s 8,cb r.Server.Wait,ci .i64 r.Server.Since,.s 9],.rd 5 R_Attribute r.Server.DB,.rd 3 R_Prepared r.Server.Queue,.rd 2 R_Subscription r.Server.Subs,.rd 12 R_AttPDU r.Server.Out,.rd 1 (RInt .u16) r.written]:=by
 refine Spec.enter Tryz.func43 rfl Tryz.ntmps43 rfl rfl fun fx=>?_;refine SC.s ?_;refine SL.eff (e_box (E:=30) (C_Server B0 (.s 0) (.s 1) (.s 2) (.s 3)) K) rfl K ?_;refine SL.m tk 1 [(1,vp 4 0)] ?_;refine SL.nilThen ?_;refine SC.cut (fun a w=>∃(B2:T_Server),server_of_j1 F B0 B2=some r∧A 62 4 fx [(1,vp 4 0)] [.gone,.gone,.gone,.gone,.blk 30 (C_Server ({ B0 with DB:=B2.DB,Queue:=B2.Queue,Subs:=B2.Subs,Out:=B2.Out }) (.s 5) (.s 6) (.s 7) (.s 8)),.rd 5 R_Attribute B2.DB,.own 3 115 R_Prepared B2.Queue,.rd 2 R_Subscription B2.Subs,.own 12 47 R_AttPDU B2.Out] a w) ?_ ?_
 ·refine SC.draw MO [true,true,true,true,false] K fun E1 B1=>?_;obtain⟨B3,Be,hp⟩:=bind_inv hp;obtain⟨Bb,Bh,hp⟩:=bind_inv hp;obtain⟨Bf,Bl,hp⟩:=bind_inv hp;obtain⟨Bg,Bq,hp⟩:=bind_inv hp;refine SD.lay 0 (bm 20 1048575) [(1,vp 4 0)] [.rd 5 R_Attribute B0.DB,.rd 3 R_Prepared B0.Queue,.rd 2 R_Subscription B0.Subs,.rd 12 R_AttPDU B0.Out,.blk 30 (C_Server ({ B0 with DB:=B3,Queue:=Bf,Subs:=Bb,Out:=Bg }) (.s 5) (.s 7) (.s 6) (.s 8)),.rd 5 R_Attribute B3,.rd 2 R_Subscription Bb,.own 3 115 R_Prepared Bf,.own 12 47 R_AttPDU Bg] ?_ (fun c_1780_0=>?_)
  ·refine SD.done K fun a w h=>?_;exact⟨{ B0 with DB:=B3,Queue:=Bf,Subs:=Bb,Out:=Bg },hp,h.at (js:=[.g 0,.g 1,.g 2,.g 3,.g 4,.g 5,.g 7,.g 6,.g 8]) K⟩
  refine SD.lay 1 (bm 20 524287) [(1,vp 4 0),(18,vs 8),(22,vp 4 8)] [.rd 5 R_Attribute B0.DB,.rd 3 R_Prepared B0.Queue,.rd 2 R_Subscription B0.Subs,.rd 12 R_AttPDU B0.Out,.blk 30 (C_Server ({ B0 with DB:=B3,Queue:=Bf,Subs:=Bb }) (.s 5) (.s 7) (.s 6) (.s 3)),.rd 5 R_Attribute B3,.rd 2 R_Subscription Bb,.own 3 115 R_Prepared Bf,.own 12 47 R_AttPDU Bg] ?_ (fun c_1780_1=>?_)
  ·refine SD.all1 (i:=19) K ?_;refine SW.store B1 tk (i:=19) (q:=4) (T:=30) (cs:=(C_Server ({ B0 with DB:=B3,Queue:=Bf,Subs:=Bb,Out:=Bg }) (.s 5) (.s 7) (.s 6) (.s 8))) (bs':=(bm 20 1048575)) rfl K rfl rfl K ?_;exact SD.vie B1 (gs 9) c_1780_0 K
  refine SD.lay 2 (bm 20 262143) [(1,vp 4 0),(18,vs 8)] [.rd 5 R_Attribute B0.DB,.rd 3 R_Prepared B0.Queue,.rd 2 R_Subscription B0.Subs,.rd 12 R_AttPDU B0.Out,.blk 30 (C_Server ({ B0 with DB:=B3,Queue:=Bf,Subs:=Bb }) (.s 5) (.s 7) (.s 6) (.s 3)),.rd 5 R_Attribute B3,.rd 2 R_Subscription Bb,.own 3 115 R_Prepared Bf,.own 12 47 R_AttPDU Bg] ?_ (fun c_1780_2=>?_)
  ·refine SD.all1 (i:=18) K ?_;refine SW.v B1 18 (vp 4 8) (bm 20 524287) rfl rfl rfl (e_val tk K) ?_;exact SD.vie B1 (gs 9) c_1780_1 K
  refine SD.lay 3 (bm 20 131071) [(1,vp 4 0),(15,vs 7),(18,vs 8),(21,vp 4 4)] [.rd 5 R_Attribute B0.DB,.rd 3 R_Prepared B0.Queue,.rd 2 R_Subscription B0.Subs,.rd 12 R_AttPDU B0.Out,.blk 30 (C_Server ({ B0 with DB:=B3,Subs:=Bb }) (.s 5) (.s 1) (.s 6) (.s 3)),.rd 5 R_Attribute B3,.rd 2 R_Subscription Bb,.own 3 115 R_Prepared Bf,.own 12 47 R_AttPDU Bg] ?_ (fun c_1780_3=>?_)
  ·refine SD.all1 (i:=17) K ?_;refine SW.store B1 tk (i:=17) (q:=4) (T:=30) (cs:=(C_Server ({ B0 with DB:=B3,Queue:=Bf,Subs:=Bb }) (.s 5) (.s 7) (.s 6) (.s 3))) (bs':=(bm 20 262143)) rfl K rfl rfl K ?_;exact SD.vie B1 (gs 9) c_1780_2 K
  refine SD.lay 4 (bm 20 65535) [(1,vp 4 0),(15,vs 7),(18,vs 8)] [.rd 5 R_Attribute B0.DB,.rd 3 R_Prepared B0.Queue,.rd 2 R_Subscription B0.Subs,.rd 12 R_AttPDU B0.Out,.blk 30 (C_Server ({ B0 with DB:=B3,Subs:=Bb }) (.s 5) (.s 1) (.s 6) (.s 3)),.rd 5 R_Attribute B3,.rd 2 R_Subscription Bb,.own 3 115 R_Prepared Bf,.own 12 47 R_AttPDU Bg] ?_ (fun c_1780_4=>?_)
  ·refine SD.all1 (i:=16) K ?_;refine SW.v B1 16 (vp 4 4) (bm 20 131071) rfl rfl rfl (e_val tk K) ?_;exact SD.vie B1 (gs 9) c_1780_3 K
  refine SD.lay 5 (bm 20 32767) [(1,vp 4 0),(12,vs 6),(15,vs 7),(18,vs 8),(20,vp 4 7)] [.rd 5 R_Attribute B0.DB,.rd 3 R_Prepared B0.Queue,.rd 2 R_Subscription B0.Subs,.rd 12 R_AttPDU B0.Out,.blk 30 (C_Server ({ B0 with DB:=B3 }) (.s 5) (.s 1) (.s 2) (.s 3)),.rd 5 R_Attribute B3,.rd 2 R_Subscription Bb,.own 3 115 R_Prepared Bf,.own 12 47 R_AttPDU Bg] ?_ (fun c_1780_5=>?_)
  ·refine SD.all1 (i:=15) K ?_;refine SW.store B1 tk (i:=15) (q:=4) (T:=30) (cs:=(C_Server ({ B0 with DB:=B3,Subs:=Bb }) (.s 5) (.s 1) (.s 6) (.s 3))) (bs':=(bm 20 65535)) rfl K rfl rfl K ?_;exact SD.vie B1 (gs 9) c_1780_4 K
  refine SD.lay 6 (bm 20 16383) [(1,vp 4 0),(12,vs 6),(15,vs 7),(18,vs 8)] [.rd 5 R_Attribute B0.DB,.rd 3 R_Prepared B0.Queue,.rd 2 R_Subscription B0.Subs,.rd 12 R_AttPDU B0.Out,.blk 30 (C_Server ({ B0 with DB:=B3 }) (.s 5) (.s 1) (.s 2) (.s 3)),.rd 5 R_Attribute B3,.rd 2 R_Subscription Bb,.own 3 115 R_Prepared Bf,.own 12 47 R_AttPDU Bg] ?_ (fun c_1780_6=>?_)
  ·refine SD.all1 (i:=14) K ?_;refine SW.v B1 14 (vp 4 7) (bm 20 32767) rfl rfl rfl (e_val tk K) ?_;exact SD.vie B1 (gs 9) c_1780_5 K
  refine SD.lay 7 (bm 20 8191) [(1,vp 4 0),(9,vs 5),(12,vs 6),(15,vs 7),(18,vs 8),(19,vp 4 0)] [.rd 5 R_Attribute B0.DB,.rd 3 R_Prepared B0.Queue,.rd 2 R_Subscription B0.Subs,.rd 12 R_AttPDU B0.Out,.blk 30 (C_Server B0 (.s 0) (.s 1) (.s 2) (.s 3)),.rd 5 R_Attribute B3,.rd 2 R_Subscription Bb,.own 3 115 R_Prepared Bf,.own 12 47 R_AttPDU Bg] ?_ (fun c_1780_7=>?_)
  ·refine SD.all1 (i:=13) K ?_;refine SW.store B1 tk (i:=13) (q:=4) (T:=30) (cs:=(C_Server ({ B0 with DB:=B3 }) (.s 5) (.s 1) (.s 2) (.s 3))) (bs':=(bm 20 16383)) rfl K rfl rfl K ?_;exact SD.vie B1 (gs 9) c_1780_6 K
  refine SD.lay 8 (bm 20 4095) [(1,vp 4 0),(9,vs 5),(12,vs 6),(15,vs 7),(18,vs 8)] [.rd 5 R_Attribute B0.DB,.rd 3 R_Prepared B0.Queue,.rd 2 R_Subscription B0.Subs,.rd 12 R_AttPDU B0.Out,.blk 30 (C_Server B0 (.s 0) (.s 1) (.s 2) (.s 3)),.rd 5 R_Attribute B3,.rd 2 R_Subscription Bb,.own 3 115 R_Prepared Bf,.own 12 47 R_AttPDU Bg] ?_ (fun c_1780_8=>?_)
  ·refine SD.all1 (i:=12) K ?_;refine SW.v B1 12 (vp 4 0) (bm 20 8191) rfl rfl rfl (e_val tk K) ?_;exact SD.vie B1 (gs 9) c_1780_7 K
  refine SD.lay 8 (bm 20 6143) [(1,vp 4 0),(9,vs 5),(12,vs 6),(15,vs 7),(17,vs 3),(19,vp 4 0)] [.rd 5 R_Attribute B0.DB,.rd 3 R_Prepared B0.Queue,.rd 2 R_Subscription B0.Subs,.rd 12 R_AttPDU B0.Out,.blk 30 (C_Server B0 (.s 0) (.s 1) (.s 2) (.s 3)),.rd 5 R_Attribute B3,.rd 2 R_Subscription Bb,.own 3 115 R_Prepared Bf] ?_ (fun c_1780_9=>?_)
  ·refine SD.all1 (i:=11) K ?_;refine SW.f B1 11 (bm 20 8191) rfl rfl rfl (e_c Tryz.call81 (ok_slices_Clone_api_AttPDU_api_AttPDU F B0.Out _ Bq) [.g 3] [vs 3] (vs 8) K (.inl rfl)) ?_;exact SD.vie B1 (gs 9) c_1780_7 K
  refine SD.lay 9 (bm 20 2047) [(1,vp 4 0),(9,vs 5),(12,vs 6),(15,vs 7),(17,vs 3)] [.rd 5 R_Attribute B0.DB,.rd 3 R_Prepared B0.Queue,.rd 2 R_Subscription B0.Subs,.rd 12 R_AttPDU B0.Out,.blk 30 (C_Server B0 (.s 0) (.s 1) (.s 2) (.s 3)),.rd 5 R_Attribute B3,.rd 2 R_Subscription Bb,.own 3 115 R_Prepared Bf] ?_ (fun c_1780_10=>?_)
  ·refine SD.all2 (i:=11) (j:=12) K ?_ ?_
   ·refine SW.f B1 11 (bm 20 4095) rfl rfl rfl (e_c Tryz.call81 (ok_slices_Clone_api_AttPDU_api_AttPDU F B0.Out _ Bq) [.g 3] [vs 3] (vs 8) K (.inl rfl)) ?_;exact SD.vie B1 (gs 9) c_1780_8 K
   refine SW.v B1 12 (vp 4 0) (bm 20 6143) rfl rfl rfl (e_val tk K) ?_;exact SD.vie B1 (gs 8) c_1780_9 K
  refine SD.lay 10 (bm 20 1023) [(1,vp 4 0),(9,vs 5),(12,vs 6),(15,vs 7),(16,vp 4 8)] [.rd 5 R_Attribute B0.DB,.rd 3 R_Prepared B0.Queue,.rd 2 R_Subscription B0.Subs,.rd 12 R_AttPDU B0.Out,.blk 30 (C_Server B0 (.s 0) (.s 1) (.s 2) (.s 3)),.rd 5 R_Attribute B3,.rd 2 R_Subscription Bb,.own 3 115 R_Prepared Bf] ?_ (fun c_1780_11=>?_)
  ·refine SD.all1 (i:=10) K ?_;refine SW.v B1 10 (vs 3) (bm 20 2047) rfl rfl rfl (e_val tk K) ?_;exact SD.vie B1 (gs 8) c_1780_10 K
  refine SD.lay 11 (bm 20 511) [(1,vp 4 0),(9,vs 5),(12,vs 6),(15,vs 7)] [.rd 5 R_Attribute B0.DB,.rd 3 R_Prepared B0.Queue,.rd 2 R_Subscription B0.Subs,.rd 12 R_AttPDU B0.Out,.blk 30 (C_Server B0 (.s 0) (.s 1) (.s 2) (.s 3)),.rd 5 R_Attribute B3,.rd 2 R_Subscription Bb,.own 3 115 R_Prepared Bf] ?_ (fun c_1780_12=>?_)
  ·refine SD.all1 (i:=9) K ?_;refine SW.v B1 9 (vp 4 8) (bm 20 1023) rfl rfl rfl (e_val tk K) ?_;exact SD.vie B1 (gs 8) c_1780_11 K
  refine SD.lay 9 (bm 20 5887) [(1,vp 4 0),(9,vs 5),(12,vs 6),(14,vs 1),(17,vs 3),(19,vp 4 0)] [.rd 5 R_Attribute B0.DB,.rd 3 R_Prepared B0.Queue,.rd 2 R_Subscription B0.Subs,.rd 12 R_AttPDU B0.Out,.blk 30 (C_Server B0 (.s 0) (.s 1) (.s 2) (.s 3)),.rd 5 R_Attribute B3,.rd 2 R_Subscription Bb] ?_ (fun c_1780_13=>?_)
  ·refine SD.all1 (i:=8) K ?_;refine SW.f B1 8 (bm 20 6143) rfl rfl rfl (e_c Tryz.call80 (ok_slices_Clone_api_Prepared_api_Prepared F B0.Queue _ Bl) [.g 1] [vs 1] (vs 7) K (.inl rfl)) ?_;exact SD.vie B1 (gs 8) c_1780_9 K
  refine SD.lay 10 (bm 20 1791) [(1,vp 4 0),(9,vs 5),(12,vs 6),(14,vs 1),(17,vs 3)] [.rd 5 R_Attribute B0.DB,.rd 3 R_Prepared B0.Queue,.rd 2 R_Subscription B0.Subs,.rd 12 R_AttPDU B0.Out,.blk 30 (C_Server B0 (.s 0) (.s 1) (.s 2) (.s 3)),.rd 5 R_Attribute B3,.rd 2 R_Subscription Bb] ?_ (fun c_1780_14=>?_)
  ·refine SD.all2 (i:=8) (j:=12) K ?_ ?_
   ·refine SW.f B1 8 (bm 20 2047) rfl rfl rfl (e_c Tryz.call80 (ok_slices_Clone_api_Prepared_api_Prepared F B0.Queue _ Bl) [.g 1] [vs 1] (vs 7) K (.inl rfl)) ?_;exact SD.vie B1 (gs 8) c_1780_10 K
   refine SW.v B1 12 (vp 4 0) (bm 20 5887) rfl rfl rfl (e_val tk K) ?_;exact SD.vie B1 (gs 7) c_1780_13 K
  refine SD.lay 11 (bm 20 767) [(1,vp 4 0),(9,vs 5),(12,vs 6),(14,vs 1),(16,vp 4 8)] [.rd 5 R_Attribute B0.DB,.rd 3 R_Prepared B0.Queue,.rd 2 R_Subscription B0.Subs,.rd 12 R_AttPDU B0.Out,.blk 30 (C_Server B0 (.s 0) (.s 1) (.s 2) (.s 3)),.rd 5 R_Attribute B3,.rd 2 R_Subscription Bb] ?_ (fun c_1780_15=>?_)
  ·refine SD.all2 (i:=8) (j:=10) K ?_ ?_
   ·refine SW.f B1 8 (bm 20 1023) rfl rfl rfl (e_c Tryz.call80 (ok_slices_Clone_api_Prepared_api_Prepared F B0.Queue _ Bl) [.g 1] [vs 1] (vs 7) K (.inl rfl)) ?_;exact SD.vie B1 (gs 8) c_1780_11 K
   refine SW.v B1 10 (vs 3) (bm 20 1791) rfl rfl rfl (e_val tk K) ?_;exact SD.vie B1 (gs 7) c_1780_14 K
  refine SD.lay 12 (bm 20 255) [(1,vp 4 0),(9,vs 5),(12,vs 6),(14,vs 1)] [.rd 5 R_Attribute B0.DB,.rd 3 R_Prepared B0.Queue,.rd 2 R_Subscription B0.Subs,.rd 12 R_AttPDU B0.Out,.blk 30 (C_Server B0 (.s 0) (.s 1) (.s 2) (.s 3)),.rd 5 R_Attribute B3,.rd 2 R_Subscription Bb] ?_ (fun c_1780_16=>?_)
  ·refine SD.all2 (i:=8) (j:=9) K ?_ ?_
   ·refine SW.f B1 8 (bm 20 511) rfl rfl rfl (e_c Tryz.call80 (ok_slices_Clone_api_Prepared_api_Prepared F B0.Queue _ Bl) [.g 1] [vs 1] (vs 7) K (.inl rfl)) ?_;exact SD.vie B1 (gs 8) c_1780_12 K
   refine SW.v B1 9 (vp 4 8) (bm 20 767) rfl rfl rfl (e_val tk K) ?_;exact SD.vie B1 (gs 7) c_1780_15 K
  refine SD.lay 11 (bm 20 1663) [(1,vp 4 0),(9,vs 5),(12,vs 6),(13,vp 4 4),(17,vs 3)] [.rd 5 R_Attribute B0.DB,.rd 3 R_Prepared B0.Queue,.rd 2 R_Subscription B0.Subs,.rd 12 R_AttPDU B0.Out,.blk 30 (C_Server B0 (.s 0) (.s 1) (.s 2) (.s 3)),.rd 5 R_Attribute B3,.rd 2 R_Subscription Bb] ?_ (fun c_1780_17=>?_)
  ·refine SD.all1 (i:=7) K ?_;refine SW.v B1 7 (vs 1) (bm 20 1791) rfl rfl rfl (e_val tk K) ?_;exact SD.vie B1 (gs 7) c_1780_14 K
  refine SD.lay 12 (bm 20 639) [(1,vp 4 0),(9,vs 5),(12,vs 6),(13,vp 4 4),(16,vp 4 8)] [.rd 5 R_Attribute B0.DB,.rd 3 R_Prepared B0.Queue,.rd 2 R_Subscription B0.Subs,.rd 12 R_AttPDU B0.Out,.blk 30 (C_Server B0 (.s 0) (.s 1) (.s 2) (.s 3)),.rd 5 R_Attribute B3,.rd 2 R_Subscription Bb] ?_ (fun c_1780_18=>?_)
  ·refine SD.all2 (i:=7) (j:=10) K ?_ ?_
   ·refine SW.v B1 7 (vs 1) (bm 20 767) rfl rfl rfl (e_val tk K) ?_;exact SD.vie B1 (gs 7) c_1780_15 K
   refine SW.v B1 10 (vs 3) (bm 20 1663) rfl rfl rfl (e_val tk K) ?_;exact SD.vie B1 (gs 7) c_1780_17 K
  refine SD.lay 13 (bm 20 127) [(1,vp 4 0),(9,vs 5),(12,vs 6),(13,vp 4 4)] [.rd 5 R_Attribute B0.DB,.rd 3 R_Prepared B0.Queue,.rd 2 R_Subscription B0.Subs,.rd 12 R_AttPDU B0.Out,.blk 30 (C_Server B0 (.s 0) (.s 1) (.s 2) (.s 3)),.rd 5 R_Attribute B3,.rd 2 R_Subscription Bb] ?_ (fun c_1780_19=>?_)
  ·refine SD.all2 (i:=7) (j:=9) K ?_ ?_
   ·refine SW.v B1 7 (vs 1) (bm 20 255) rfl rfl rfl (e_val tk K) ?_;exact SD.vie B1 (gs 7) c_1780_16 K
   refine SW.v B1 9 (vp 4 8) (bm 20 639) rfl rfl rfl (e_val tk K) ?_;exact SD.vie B1 (gs 7) c_1780_18 K
  refine SD.lay 12 (bm 20 1599) [(1,vp 4 0),(9,vs 5),(12,vs 6),(17,vs 3)] [.rd 5 R_Attribute B0.DB,.rd 3 R_Prepared B0.Queue,.rd 2 R_Subscription B0.Subs,.rd 12 R_AttPDU B0.Out,.blk 30 (C_Server B0 (.s 0) (.s 1) (.s 2) (.s 3)),.rd 5 R_Attribute B3,.rd 2 R_Subscription Bb] ?_ (fun c_1780_20=>?_)
  ·refine SD.all1 (i:=6) K ?_;refine SW.v B1 6 (vp 4 4) (bm 20 1663) rfl rfl rfl (e_val tk K) ?_;exact SD.vie B1 (gs 7) c_1780_17 K
  refine SD.lay 13 (bm 20 575) [(1,vp 4 0),(9,vs 5),(12,vs 6),(16,vp 4 8)] [.rd 5 R_Attribute B0.DB,.rd 3 R_Prepared B0.Queue,.rd 2 R_Subscription B0.Subs,.rd 12 R_AttPDU B0.Out,.blk 30 (C_Server B0 (.s 0) (.s 1) (.s 2) (.s 3)),.rd 5 R_Attribute B3,.rd 2 R_Subscription Bb] ?_ (fun c_1780_21=>?_)
  ·refine SD.all2 (i:=6) (j:=10) K ?_ ?_
   ·refine SW.v B1 6 (vp 4 4) (bm 20 639) rfl rfl rfl (e_val tk K) ?_;exact SD.vie B1 (gs 7) c_1780_18 K
   refine SW.v B1 10 (vs 3) (bm 20 1599) rfl rfl rfl (e_val tk K) ?_;exact SD.vie B1 (gs 7) c_1780_20 K
  refine SD.lay 14 (bm 20 63) [(1,vp 4 0),(9,vs 5),(12,vs 6)] [.rd 5 R_Attribute B0.DB,.rd 3 R_Prepared B0.Queue,.rd 2 R_Subscription B0.Subs,.rd 12 R_AttPDU B0.Out,.blk 30 (C_Server B0 (.s 0) (.s 1) (.s 2) (.s 3)),.rd 5 R_Attribute B3,.rd 2 R_Subscription Bb] ?_ (fun c_1780_22=>?_)
  ·refine SD.all2 (i:=6) (j:=9) K ?_ ?_
   ·refine SW.v B1 6 (vp 4 4) (bm 20 127) rfl rfl rfl (e_val tk K) ?_;exact SD.vie B1 (gs 7) c_1780_19 K
   refine SW.v B1 9 (vp 4 8) (bm 20 575) rfl rfl rfl (e_val tk K) ?_;exact SD.vie B1 (gs 7) c_1780_21 K
  refine SD.lay 10 (bm 20 5855) [(1,vp 4 0),(9,vs 5),(11,vs 2),(14,vs 1),(17,vs 3),(19,vp 4 0)] [.rd 5 R_Attribute B0.DB,.rd 3 R_Prepared B0.Queue,.rd 2 R_Subscription B0.Subs,.rd 12 R_AttPDU B0.Out,.blk 30 (C_Server B0 (.s 0) (.s 1) (.s 2) (.s 3)),.rd 5 R_Attribute B3] ?_ (fun c_1780_23=>?_)
  ·refine SD.all1 (i:=5) K ?_;refine SW.f B1 5 (bm 20 5887) rfl rfl rfl (e_c Tryz.call37 (ok_slices_Clone_api_Subscription_api_Subscription F B0.Subs _ Bh) [.g 2] [vs 2] (vs 6) K (.inl rfl)) ?_;exact SD.vie B1 (gs 7) c_1780_13 K
  refine SD.lay 11 (bm 20 1759) [(1,vp 4 0),(9,vs 5),(11,vs 2),(14,vs 1),(17,vs 3)] [.rd 5 R_Attribute B0.DB,.rd 3 R_Prepared B0.Queue,.rd 2 R_Subscription B0.Subs,.rd 12 R_AttPDU B0.Out,.blk 30 (C_Server B0 (.s 0) (.s 1) (.s 2) (.s 3)),.rd 5 R_Attribute B3] ?_ (fun c_1780_24=>?_)
  ·refine SD.all2 (i:=5) (j:=12) K ?_ ?_
   ·refine SW.f B1 5 (bm 20 1791) rfl rfl rfl (e_c Tryz.call37 (ok_slices_Clone_api_Subscription_api_Subscription F B0.Subs _ Bh) [.g 2] [vs 2] (vs 6) K (.inl rfl)) ?_;exact SD.vie B1 (gs 7) c_1780_14 K
   refine SW.v B1 12 (vp 4 0) (bm 20 5855) rfl rfl rfl (e_val tk K) ?_;exact SD.vie B1 (gs 6) c_1780_23 K
  refine SD.lay 12 (bm 20 735) [(1,vp 4 0),(9,vs 5),(11,vs 2),(14,vs 1),(16,vp 4 8)] [.rd 5 R_Attribute B0.DB,.rd 3 R_Prepared B0.Queue,.rd 2 R_Subscription B0.Subs,.rd 12 R_AttPDU B0.Out,.blk 30 (C_Server B0 (.s 0) (.s 1) (.s 2) (.s 3)),.rd 5 R_Attribute B3] ?_ (fun c_1780_25=>?_)
  ·refine SD.all2 (i:=5) (j:=10) K ?_ ?_
   ·refine SW.f B1 5 (bm 20 767) rfl rfl rfl (e_c Tryz.call37 (ok_slices_Clone_api_Subscription_api_Subscription F B0.Subs _ Bh) [.g 2] [vs 2] (vs 6) K (.inl rfl)) ?_;exact SD.vie B1 (gs 7) c_1780_15 K
   refine SW.v B1 10 (vs 3) (bm 20 1759) rfl rfl rfl (e_val tk K) ?_;exact SD.vie B1 (gs 6) c_1780_24 K
  refine SD.lay 13 (bm 20 223) [(1,vp 4 0),(9,vs 5),(11,vs 2),(14,vs 1)] [.rd 5 R_Attribute B0.DB,.rd 3 R_Prepared B0.Queue,.rd 2 R_Subscription B0.Subs,.rd 12 R_AttPDU B0.Out,.blk 30 (C_Server B0 (.s 0) (.s 1) (.s 2) (.s 3)),.rd 5 R_Attribute B3] ?_ (fun c_1780_26=>?_)
  ·refine SD.all2 (i:=5) (j:=9) K ?_ ?_
   ·refine SW.f B1 5 (bm 20 255) rfl rfl rfl (e_c Tryz.call37 (ok_slices_Clone_api_Subscription_api_Subscription F B0.Subs _ Bh) [.g 2] [vs 2] (vs 6) K (.inl rfl)) ?_;exact SD.vie B1 (gs 7) c_1780_16 K
   refine SW.v B1 9 (vp 4 8) (bm 20 735) rfl rfl rfl (e_val tk K) ?_;exact SD.vie B1 (gs 6) c_1780_25 K
  refine SD.lay 12 (bm 20 1631) [(1,vp 4 0),(9,vs 5),(11,vs 2),(13,vp 4 4),(17,vs 3)] [.rd 5 R_Attribute B0.DB,.rd 3 R_Prepared B0.Queue,.rd 2 R_Subscription B0.Subs,.rd 12 R_AttPDU B0.Out,.blk 30 (C_Server B0 (.s 0) (.s 1) (.s 2) (.s 3)),.rd 5 R_Attribute B3] ?_ (fun c_1780_27=>?_)
  ·refine SD.all2 (i:=5) (j:=7) K ?_ ?_
   ·refine SW.f B1 5 (bm 20 1663) rfl rfl rfl (e_c Tryz.call37 (ok_slices_Clone_api_Subscription_api_Subscription F B0.Subs _ Bh) [.g 2] [vs 2] (vs 6) K (.inl rfl)) ?_;exact SD.vie B1 (gs 7) c_1780_17 K
   refine SW.v B1 7 (vs 1) (bm 20 1759) rfl rfl rfl (e_val tk K) ?_;exact SD.vie B1 (gs 6) c_1780_24 K
  refine SD.lay 13 (bm 20 607) [(1,vp 4 0),(9,vs 5),(11,vs 2),(13,vp 4 4),(16,vp 4 8)] [.rd 5 R_Attribute B0.DB,.rd 3 R_Prepared B0.Queue,.rd 2 R_Subscription B0.Subs,.rd 12 R_AttPDU B0.Out,.blk 30 (C_Server B0 (.s 0) (.s 1) (.s 2) (.s 3)),.rd 5 R_Attribute B3] ?_ (fun c_1780_28=>?_)
  ·refine SD.all3 (i:=5) (j:=7) (k:=10) K ?_ ?_ ?_
   ·refine SW.f B1 5 (bm 20 639) rfl rfl rfl (e_c Tryz.call37 (ok_slices_Clone_api_Subscription_api_Subscription F B0.Subs _ Bh) [.g 2] [vs 2] (vs 6) K (.inl rfl)) ?_;exact SD.vie B1 (gs 7) c_1780_18 K
   ·refine SW.v B1 7 (vs 1) (bm 20 735) rfl rfl rfl (e_val tk K) ?_;exact SD.vie B1 (gs 6) c_1780_25 K
   refine SW.v B1 10 (vs 3) (bm 20 1631) rfl rfl rfl (e_val tk K) ?_;exact SD.vie B1 (gs 6) c_1780_27 K
  refine SD.lay 14 (bm 20 95) [(1,vp 4 0),(9,vs 5),(11,vs 2),(13,vp 4 4)] [.rd 5 R_Attribute B0.DB,.rd 3 R_Prepared B0.Queue,.rd 2 R_Subscription B0.Subs,.rd 12 R_AttPDU B0.Out,.blk 30 (C_Server B0 (.s 0) (.s 1) (.s 2) (.s 3)),.rd 5 R_Attribute B3] ?_ (fun c_1780_29=>?_)
  ·refine SD.all3 (i:=5) (j:=7) (k:=9) K ?_ ?_ ?_
   ·refine SW.f B1 5 (bm 20 127) rfl rfl rfl (e_c Tryz.call37 (ok_slices_Clone_api_Subscription_api_Subscription F B0.Subs _ Bh) [.g 2] [vs 2] (vs 6) K (.inl rfl)) ?_;exact SD.vie B1 (gs 7) c_1780_19 K
   ·refine SW.v B1 7 (vs 1) (bm 20 223) rfl rfl rfl (e_val tk K) ?_;exact SD.vie B1 (gs 6) c_1780_26 K
   refine SW.v B1 9 (vp 4 8) (bm 20 607) rfl rfl rfl (e_val tk K) ?_;exact SD.vie B1 (gs 6) c_1780_28 K
  refine SD.lay 13 (bm 20 1567) [(1,vp 4 0),(9,vs 5),(11,vs 2),(17,vs 3)] [.rd 5 R_Attribute B0.DB,.rd 3 R_Prepared B0.Queue,.rd 2 R_Subscription B0.Subs,.rd 12 R_AttPDU B0.Out,.blk 30 (C_Server B0 (.s 0) (.s 1) (.s 2) (.s 3)),.rd 5 R_Attribute B3] ?_ (fun c_1780_30=>?_)
  ·refine SD.all2 (i:=5) (j:=6) K ?_ ?_
   ·refine SW.f B1 5 (bm 20 1599) rfl rfl rfl (e_c Tryz.call37 (ok_slices_Clone_api_Subscription_api_Subscription F B0.Subs _ Bh) [.g 2] [vs 2] (vs 6) K (.inl rfl)) ?_;exact SD.vie B1 (gs 7) c_1780_20 K
   refine SW.v B1 6 (vp 4 4) (bm 20 1631) rfl rfl rfl (e_val tk K) ?_;exact SD.vie B1 (gs 6) c_1780_27 K
  refine SD.lay 14 (bm 20 543) [(1,vp 4 0),(9,vs 5),(11,vs 2),(16,vp 4 8)] [.rd 5 R_Attribute B0.DB,.rd 3 R_Prepared B0.Queue,.rd 2 R_Subscription B0.Subs,.rd 12 R_AttPDU B0.Out,.blk 30 (C_Server B0 (.s 0) (.s 1) (.s 2) (.s 3)),.rd 5 R_Attribute B3] ?_ (fun c_1780_31=>?_)
  ·refine SD.all3 (i:=5) (j:=6) (k:=10) K ?_ ?_ ?_
   ·refine SW.f B1 5 (bm 20 575) rfl rfl rfl (e_c Tryz.call37 (ok_slices_Clone_api_Subscription_api_Subscription F B0.Subs _ Bh) [.g 2] [vs 2] (vs 6) K (.inl rfl)) ?_;exact SD.vie B1 (gs 7) c_1780_21 K
   ·refine SW.v B1 6 (vp 4 4) (bm 20 607) rfl rfl rfl (e_val tk K) ?_;exact SD.vie B1 (gs 6) c_1780_28 K
   refine SW.v B1 10 (vs 3) (bm 20 1567) rfl rfl rfl (e_val tk K) ?_;exact SD.vie B1 (gs 6) c_1780_30 K
  refine SD.lay 15 (bm 20 31) [(1,vp 4 0),(9,vs 5),(11,vs 2)] [.rd 5 R_Attribute B0.DB,.rd 3 R_Prepared B0.Queue,.rd 2 R_Subscription B0.Subs,.rd 12 R_AttPDU B0.Out,.blk 30 (C_Server B0 (.s 0) (.s 1) (.s 2) (.s 3)),.rd 5 R_Attribute B3] ?_ (fun c_1780_32=>?_)
  ·refine SD.all3 (i:=5) (j:=6) (k:=9) K ?_ ?_ ?_
   ·refine SW.f B1 5 (bm 20 63) rfl rfl rfl (e_c Tryz.call37 (ok_slices_Clone_api_Subscription_api_Subscription F B0.Subs _ Bh) [.g 2] [vs 2] (vs 6) K (.inl rfl)) ?_;exact SD.vie B1 (gs 7) c_1780_22 K
   ·refine SW.v B1 6 (vp 4 4) (bm 20 95) rfl rfl rfl (e_val tk K) ?_;exact SD.vie B1 (gs 6) c_1780_29 K
   refine SW.v B1 9 (vp 4 8) (bm 20 543) rfl rfl rfl (e_val tk K) ?_;exact SD.vie B1 (gs 6) c_1780_31 K
  refine SD.lay 12 (bm 20 1743) [(1,vp 4 0),(9,vs 5),(10,vp 4 7),(14,vs 1),(17,vs 3)] [.rd 5 R_Attribute B0.DB,.rd 3 R_Prepared B0.Queue,.rd 2 R_Subscription B0.Subs,.rd 12 R_AttPDU B0.Out,.blk 30 (C_Server B0 (.s 0) (.s 1) (.s 2) (.s 3)),.rd 5 R_Attribute B3] ?_ (fun c_1780_33=>?_)
  ·refine SD.all1 (i:=4) K ?_;refine SW.v B1 4 (vs 2) (bm 20 1759) rfl rfl rfl (e_val tk K) ?_;exact SD.vie B1 (gs 6) c_1780_24 K
  refine SD.lay 13 (bm 20 719) [(1,vp 4 0),(9,vs 5),(10,vp 4 7),(14,vs 1),(16,vp 4 8)] [.rd 5 R_Attribute B0.DB,.rd 3 R_Prepared B0.Queue,.rd 2 R_Subscription B0.Subs,.rd 12 R_AttPDU B0.Out,.blk 30 (C_Server B0 (.s 0) (.s 1) (.s 2) (.s 3)),.rd 5 R_Attribute B3] ?_ (fun c_1780_34=>?_)
  ·refine SD.all2 (i:=4) (j:=10) K ?_ ?_
   ·refine SW.v B1 4 (vs 2) (bm 20 735) rfl rfl rfl (e_val tk K) ?_;exact SD.vie B1 (gs 6) c_1780_25 K
   refine SW.v B1 10 (vs 3) (bm 20 1743) rfl rfl rfl (e_val tk K) ?_;exact SD.vie B1 (gs 6) c_1780_33 K
  refine SD.lay 14 (bm 20 207) [(1,vp 4 0),(9,vs 5),(10,vp 4 7),(14,vs 1)] [.rd 5 R_Attribute B0.DB,.rd 3 R_Prepared B0.Queue,.rd 2 R_Subscription B0.Subs,.rd 12 R_AttPDU B0.Out,.blk 30 (C_Server B0 (.s 0) (.s 1) (.s 2) (.s 3)),.rd 5 R_Attribute B3] ?_ (fun c_1780_35=>?_)
  ·refine SD.all2 (i:=4) (j:=9) K ?_ ?_
   ·refine SW.v B1 4 (vs 2) (bm 20 223) rfl rfl rfl (e_val tk K) ?_;exact SD.vie B1 (gs 6) c_1780_26 K
   refine SW.v B1 9 (vp 4 8) (bm 20 719) rfl rfl rfl (e_val tk K) ?_;exact SD.vie B1 (gs 6) c_1780_34 K
  refine SD.lay 13 (bm 20 1615) [(1,vp 4 0),(9,vs 5),(10,vp 4 7),(13,vp 4 4),(17,vs 3)] [.rd 5 R_Attribute B0.DB,.rd 3 R_Prepared B0.Queue,.rd 2 R_Subscription B0.Subs,.rd 12 R_AttPDU B0.Out,.blk 30 (C_Server B0 (.s 0) (.s 1) (.s 2) (.s 3)),.rd 5 R_Attribute B3] ?_ (fun c_1780_36=>?_)
  ·refine SD.all2 (i:=4) (j:=7) K ?_ ?_
   ·refine SW.v B1 4 (vs 2) (bm 20 1631) rfl rfl rfl (e_val tk K) ?_;exact SD.vie B1 (gs 6) c_1780_27 K
   refine SW.v B1 7 (vs 1) (bm 20 1743) rfl rfl rfl (e_val tk K) ?_;exact SD.vie B1 (gs 6) c_1780_33 K
  refine SD.lay 14 (bm 20 591) [(1,vp 4 0),(9,vs 5),(10,vp 4 7),(13,vp 4 4),(16,vp 4 8)] [.rd 5 R_Attribute B0.DB,.rd 3 R_Prepared B0.Queue,.rd 2 R_Subscription B0.Subs,.rd 12 R_AttPDU B0.Out,.blk 30 (C_Server B0 (.s 0) (.s 1) (.s 2) (.s 3)),.rd 5 R_Attribute B3] ?_ (fun c_1780_37=>?_)
  ·refine SD.all3 (i:=4) (j:=7) (k:=10) K ?_ ?_ ?_
   ·refine SW.v B1 4 (vs 2) (bm 20 607) rfl rfl rfl (e_val tk K) ?_;exact SD.vie B1 (gs 6) c_1780_28 K
   ·refine SW.v B1 7 (vs 1) (bm 20 719) rfl rfl rfl (e_val tk K) ?_;exact SD.vie B1 (gs 6) c_1780_34 K
   refine SW.v B1 10 (vs 3) (bm 20 1615) rfl rfl rfl (e_val tk K) ?_;exact SD.vie B1 (gs 6) c_1780_36 K
  refine SD.lay 15 (bm 20 79) [(1,vp 4 0),(9,vs 5),(10,vp 4 7),(13,vp 4 4)] [.rd 5 R_Attribute B0.DB,.rd 3 R_Prepared B0.Queue,.rd 2 R_Subscription B0.Subs,.rd 12 R_AttPDU B0.Out,.blk 30 (C_Server B0 (.s 0) (.s 1) (.s 2) (.s 3)),.rd 5 R_Attribute B3] ?_ (fun c_1780_38=>?_)
  ·refine SD.all3 (i:=4) (j:=7) (k:=9) K ?_ ?_ ?_
   ·refine SW.v B1 4 (vs 2) (bm 20 95) rfl rfl rfl (e_val tk K) ?_;exact SD.vie B1 (gs 6) c_1780_29 K
   ·refine SW.v B1 7 (vs 1) (bm 20 207) rfl rfl rfl (e_val tk K) ?_;exact SD.vie B1 (gs 6) c_1780_35 K
   refine SW.v B1 9 (vp 4 8) (bm 20 591) rfl rfl rfl (e_val tk K) ?_;exact SD.vie B1 (gs 6) c_1780_37 K
  refine SD.lay 14 (bm 20 1551) [(1,vp 4 0),(9,vs 5),(10,vp 4 7),(17,vs 3)] [.rd 5 R_Attribute B0.DB,.rd 3 R_Prepared B0.Queue,.rd 2 R_Subscription B0.Subs,.rd 12 R_AttPDU B0.Out,.blk 30 (C_Server B0 (.s 0) (.s 1) (.s 2) (.s 3)),.rd 5 R_Attribute B3] ?_ (fun c_1780_39=>?_)
  ·refine SD.all2 (i:=4) (j:=6) K ?_ ?_
   ·refine SW.v B1 4 (vs 2) (bm 20 1567) rfl rfl rfl (e_val tk K) ?_;exact SD.vie B1 (gs 6) c_1780_30 K
   refine SW.v B1 6 (vp 4 4) (bm 20 1615) rfl rfl rfl (e_val tk K) ?_;exact SD.vie B1 (gs 6) c_1780_36 K
  refine SD.lay 15 (bm 20 527) [(1,vp 4 0),(9,vs 5),(10,vp 4 7),(16,vp 4 8)] [.rd 5 R_Attribute B0.DB,.rd 3 R_Prepared B0.Queue,.rd 2 R_Subscription B0.Subs,.rd 12 R_AttPDU B0.Out,.blk 30 (C_Server B0 (.s 0) (.s 1) (.s 2) (.s 3)),.rd 5 R_Attribute B3] ?_ (fun c_1780_40=>?_)
  ·refine SD.all3 (i:=4) (j:=6) (k:=10) K ?_ ?_ ?_
   ·refine SW.v B1 4 (vs 2) (bm 20 543) rfl rfl rfl (e_val tk K) ?_;exact SD.vie B1 (gs 6) c_1780_31 K
   ·refine SW.v B1 6 (vp 4 4) (bm 20 591) rfl rfl rfl (e_val tk K) ?_;exact SD.vie B1 (gs 6) c_1780_37 K
   refine SW.v B1 10 (vs 3) (bm 20 1551) rfl rfl rfl (e_val tk K) ?_;exact SD.vie B1 (gs 6) c_1780_39 K
  refine SD.lay 16 (bm 20 15) [(1,vp 4 0),(9,vs 5),(10,vp 4 7)] [.rd 5 R_Attribute B0.DB,.rd 3 R_Prepared B0.Queue,.rd 2 R_Subscription B0.Subs,.rd 12 R_AttPDU B0.Out,.blk 30 (C_Server B0 (.s 0) (.s 1) (.s 2) (.s 3)),.rd 5 R_Attribute B3] ?_ (fun c_1780_41=>?_)
  ·refine SD.all3 (i:=4) (j:=6) (k:=9) K ?_ ?_ ?_
   ·refine SW.v B1 4 (vs 2) (bm 20 31) rfl rfl rfl (e_val tk K) ?_;exact SD.vie B1 (gs 6) c_1780_32 K
   ·refine SW.v B1 6 (vp 4 4) (bm 20 79) rfl rfl rfl (e_val tk K) ?_;exact SD.vie B1 (gs 6) c_1780_38 K
   refine SW.v B1 9 (vp 4 8) (bm 20 527) rfl rfl rfl (e_val tk K) ?_;exact SD.vie B1 (gs 6) c_1780_40 K
  refine SD.lay 13 (bm 20 1735) [(1,vp 4 0),(9,vs 5),(14,vs 1),(17,vs 3)] [.rd 5 R_Attribute B0.DB,.rd 3 R_Prepared B0.Queue,.rd 2 R_Subscription B0.Subs,.rd 12 R_AttPDU B0.Out,.blk 30 (C_Server B0 (.s 0) (.s 1) (.s 2) (.s 3)),.rd 5 R_Attribute B3] ?_ (fun c_1780_42=>?_)
  ·refine SD.all1 (i:=3) K ?_;refine SW.v B1 3 (vp 4 7) (bm 20 1743) rfl rfl rfl (e_val tk K) ?_;exact SD.vie B1 (gs 6) c_1780_33 K
  refine SD.lay 14 (bm 20 711) [(1,vp 4 0),(9,vs 5),(14,vs 1),(16,vp 4 8)] [.rd 5 R_Attribute B0.DB,.rd 3 R_Prepared B0.Queue,.rd 2 R_Subscription B0.Subs,.rd 12 R_AttPDU B0.Out,.blk 30 (C_Server B0 (.s 0) (.s 1) (.s 2) (.s 3)),.rd 5 R_Attribute B3] ?_ (fun c_1780_43=>?_)
  ·refine SD.all2 (i:=3) (j:=10) K ?_ ?_
   ·refine SW.v B1 3 (vp 4 7) (bm 20 719) rfl rfl rfl (e_val tk K) ?_;exact SD.vie B1 (gs 6) c_1780_34 K
   refine SW.v B1 10 (vs 3) (bm 20 1735) rfl rfl rfl (e_val tk K) ?_;exact SD.vie B1 (gs 6) c_1780_42 K
  refine SD.lay 15 (bm 20 199) [(1,vp 4 0),(9,vs 5),(14,vs 1)] [.rd 5 R_Attribute B0.DB,.rd 3 R_Prepared B0.Queue,.rd 2 R_Subscription B0.Subs,.rd 12 R_AttPDU B0.Out,.blk 30 (C_Server B0 (.s 0) (.s 1) (.s 2) (.s 3)),.rd 5 R_Attribute B3] ?_ (fun c_1780_44=>?_)
  ·refine SD.all2 (i:=3) (j:=9) K ?_ ?_
   ·refine SW.v B1 3 (vp 4 7) (bm 20 207) rfl rfl rfl (e_val tk K) ?_;exact SD.vie B1 (gs 6) c_1780_35 K
   refine SW.v B1 9 (vp 4 8) (bm 20 711) rfl rfl rfl (e_val tk K) ?_;exact SD.vie B1 (gs 6) c_1780_43 K
  refine SD.lay 14 (bm 20 1607) [(1,vp 4 0),(9,vs 5),(13,vp 4 4),(17,vs 3)] [.rd 5 R_Attribute B0.DB,.rd 3 R_Prepared B0.Queue,.rd 2 R_Subscription B0.Subs,.rd 12 R_AttPDU B0.Out,.blk 30 (C_Server B0 (.s 0) (.s 1) (.s 2) (.s 3)),.rd 5 R_Attribute B3] ?_ (fun c_1780_45=>?_)
  ·refine SD.all2 (i:=3) (j:=7) K ?_ ?_
   ·refine SW.v B1 3 (vp 4 7) (bm 20 1615) rfl rfl rfl (e_val tk K) ?_;exact SD.vie B1 (gs 6) c_1780_36 K
   refine SW.v B1 7 (vs 1) (bm 20 1735) rfl rfl rfl (e_val tk K) ?_;exact SD.vie B1 (gs 6) c_1780_42 K
  refine SD.lay 15 (bm 20 583) [(1,vp 4 0),(9,vs 5),(13,vp 4 4),(16,vp 4 8)] [.rd 5 R_Attribute B0.DB,.rd 3 R_Prepared B0.Queue,.rd 2 R_Subscription B0.Subs,.rd 12 R_AttPDU B0.Out,.blk 30 (C_Server B0 (.s 0) (.s 1) (.s 2) (.s 3)),.rd 5 R_Attribute B3] ?_ (fun c_1780_46=>?_)
  ·refine SD.all3 (i:=3) (j:=7) (k:=10) K ?_ ?_ ?_
   ·refine SW.v B1 3 (vp 4 7) (bm 20 591) rfl rfl rfl (e_val tk K) ?_;exact SD.vie B1 (gs 6) c_1780_37 K
   ·refine SW.v B1 7 (vs 1) (bm 20 711) rfl rfl rfl (e_val tk K) ?_;exact SD.vie B1 (gs 6) c_1780_43 K
   refine SW.v B1 10 (vs 3) (bm 20 1607) rfl rfl rfl (e_val tk K) ?_;exact SD.vie B1 (gs 6) c_1780_45 K
  refine SD.lay 16 (bm 20 71) [(1,vp 4 0),(9,vs 5),(13,vp 4 4)] [.rd 5 R_Attribute B0.DB,.rd 3 R_Prepared B0.Queue,.rd 2 R_Subscription B0.Subs,.rd 12 R_AttPDU B0.Out,.blk 30 (C_Server B0 (.s 0) (.s 1) (.s 2) (.s 3)),.rd 5 R_Attribute B3] ?_ (fun c_1780_47=>?_)
  ·refine SD.all3 (i:=3) (j:=7) (k:=9) K ?_ ?_ ?_
   ·refine SW.v B1 3 (vp 4 7) (bm 20 79) rfl rfl rfl (e_val tk K) ?_;exact SD.vie B1 (gs 6) c_1780_38 K
   ·refine SW.v B1 7 (vs 1) (bm 20 199) rfl rfl rfl (e_val tk K) ?_;exact SD.vie B1 (gs 6) c_1780_44 K
   refine SW.v B1 9 (vp 4 8) (bm 20 583) rfl rfl rfl (e_val tk K) ?_;exact SD.vie B1 (gs 6) c_1780_46 K
  refine SD.lay 15 (bm 20 1543) [(1,vp 4 0),(9,vs 5),(17,vs 3)] [.rd 5 R_Attribute B0.DB,.rd 3 R_Prepared B0.Queue,.rd 2 R_Subscription B0.Subs,.rd 12 R_AttPDU B0.Out,.blk 30 (C_Server B0 (.s 0) (.s 1) (.s 2) (.s 3)),.rd 5 R_Attribute B3] ?_ (fun c_1780_48=>?_)
  ·refine SD.all2 (i:=3) (j:=6) K ?_ ?_
   ·refine SW.v B1 3 (vp 4 7) (bm 20 1551) rfl rfl rfl (e_val tk K) ?_;exact SD.vie B1 (gs 6) c_1780_39 K
   refine SW.v B1 6 (vp 4 4) (bm 20 1607) rfl rfl rfl (e_val tk K) ?_;exact SD.vie B1 (gs 6) c_1780_45 K
  refine SD.lay 16 (bm 20 519) [(1,vp 4 0),(9,vs 5),(16,vp 4 8)] [.rd 5 R_Attribute B0.DB,.rd 3 R_Prepared B0.Queue,.rd 2 R_Subscription B0.Subs,.rd 12 R_AttPDU B0.Out,.blk 30 (C_Server B0 (.s 0) (.s 1) (.s 2) (.s 3)),.rd 5 R_Attribute B3] ?_ (fun c_1780_49=>?_)
  ·refine SD.all3 (i:=3) (j:=6) (k:=10) K ?_ ?_ ?_
   ·refine SW.v B1 3 (vp 4 7) (bm 20 527) rfl rfl rfl (e_val tk K) ?_;exact SD.vie B1 (gs 6) c_1780_40 K
   ·refine SW.v B1 6 (vp 4 4) (bm 20 583) rfl rfl rfl (e_val tk K) ?_;exact SD.vie B1 (gs 6) c_1780_46 K
   refine SW.v B1 10 (vs 3) (bm 20 1543) rfl rfl rfl (e_val tk K) ?_;exact SD.vie B1 (gs 6) c_1780_48 K
  refine SD.lay 17 (bm 20 7) [(1,vp 4 0),(9,vs 5)] [.rd 5 R_Attribute B0.DB,.rd 3 R_Prepared B0.Queue,.rd 2 R_Subscription B0.Subs,.rd 12 R_AttPDU B0.Out,.blk 30 (C_Server B0 (.s 0) (.s 1) (.s 2) (.s 3)),.rd 5 R_Attribute B3] ?_ (fun c_1780_50=>?_)
  ·refine SD.all3 (i:=3) (j:=6) (k:=9) K ?_ ?_ ?_
   ·refine SW.v B1 3 (vp 4 7) (bm 20 15) rfl rfl rfl (e_val tk K) ?_;exact SD.vie B1 (gs 6) c_1780_41 K
   ·refine SW.v B1 6 (vp 4 4) (bm 20 71) rfl rfl rfl (e_val tk K) ?_;exact SD.vie B1 (gs 6) c_1780_47 K
   refine SW.v B1 9 (vp 4 8) (bm 20 519) rfl rfl rfl (e_val tk K) ?_;exact SD.vie B1 (gs 6) c_1780_49 K
  refine SD.lay 12 (bm 20 1755) [(1,vp 4 0),(8,vs 0),(11,vs 2),(14,vs 1),(17,vs 3)] [.rd 5 R_Attribute B0.DB,.rd 3 R_Prepared B0.Queue,.rd 2 R_Subscription B0.Subs,.rd 12 R_AttPDU B0.Out,.blk 30 (C_Server B0 (.s 0) (.s 1) (.s 2) (.s 3))] ?_ (fun c_1780_51=>?_)
  ·refine SD.all1 (i:=2) K ?_;refine SW.f B1 2 (bm 20 1759) rfl rfl rfl (e_c Tryz.call36 (ok_server_attributes F B0.DB _ Be) [.g 0] [vs 0] (vs 5) K (.inl rfl)) ?_;exact SD.vie B1 (gs 6) c_1780_24 K
  refine SD.lay 13 (bm 20 731) [(1,vp 4 0),(8,vs 0),(11,vs 2),(14,vs 1),(16,vp 4 8)] [.rd 5 R_Attribute B0.DB,.rd 3 R_Prepared B0.Queue,.rd 2 R_Subscription B0.Subs,.rd 12 R_AttPDU B0.Out,.blk 30 (C_Server B0 (.s 0) (.s 1) (.s 2) (.s 3))] ?_ (fun c_1780_52=>?_)
  ·refine SD.all2 (i:=2) (j:=10) K ?_ ?_
   ·refine SW.f B1 2 (bm 20 735) rfl rfl rfl (e_c Tryz.call36 (ok_server_attributes F B0.DB _ Be) [.g 0] [vs 0] (vs 5) K (.inl rfl)) ?_;exact SD.vie B1 (gs 6) c_1780_25 K
   refine SW.v B1 10 (vs 3) (bm 20 1755) rfl rfl rfl (e_val tk K) ?_;exact SD.vie B1 (gs 5) c_1780_51 K
  refine SD.lay 14 (bm 20 219) [(1,vp 4 0),(8,vs 0),(11,vs 2),(14,vs 1)] [.rd 5 R_Attribute B0.DB,.rd 3 R_Prepared B0.Queue,.rd 2 R_Subscription B0.Subs,.rd 12 R_AttPDU B0.Out,.blk 30 (C_Server B0 (.s 0) (.s 1) (.s 2) (.s 3))] ?_ (fun c_1780_53=>?_)
  ·refine SD.all2 (i:=2) (j:=9) K ?_ ?_
   ·refine SW.f B1 2 (bm 20 223) rfl rfl rfl (e_c Tryz.call36 (ok_server_attributes F B0.DB _ Be) [.g 0] [vs 0] (vs 5) K (.inl rfl)) ?_;exact SD.vie B1 (gs 6) c_1780_26 K
   refine SW.v B1 9 (vp 4 8) (bm 20 731) rfl rfl rfl (e_val tk K) ?_;exact SD.vie B1 (gs 5) c_1780_52 K
  refine SD.lay 13 (bm 20 1627) [(1,vp 4 0),(8,vs 0),(11,vs 2),(13,vp 4 4),(17,vs 3)] [.rd 5 R_Attribute B0.DB,.rd 3 R_Prepared B0.Queue,.rd 2 R_Subscription B0.Subs,.rd 12 R_AttPDU B0.Out,.blk 30 (C_Server B0 (.s 0) (.s 1) (.s 2) (.s 3))] ?_ (fun c_1780_54=>?_)
  ·refine SD.all2 (i:=2) (j:=7) K ?_ ?_
   ·refine SW.f B1 2 (bm 20 1631) rfl rfl rfl (e_c Tryz.call36 (ok_server_attributes F B0.DB _ Be) [.g 0] [vs 0] (vs 5) K (.inl rfl)) ?_;exact SD.vie B1 (gs 6) c_1780_27 K
   refine SW.v B1 7 (vs 1) (bm 20 1755) rfl rfl rfl (e_val tk K) ?_;exact SD.vie B1 (gs 5) c_1780_51 K
  refine SD.lay 14 (bm 20 603) [(1,vp 4 0),(8,vs 0),(11,vs 2),(13,vp 4 4),(16,vp 4 8)] [.rd 5 R_Attribute B0.DB,.rd 3 R_Prepared B0.Queue,.rd 2 R_Subscription B0.Subs,.rd 12 R_AttPDU B0.Out,.blk 30 (C_Server B0 (.s 0) (.s 1) (.s 2) (.s 3))] ?_ (fun c_1780_55=>?_)
  ·refine SD.all3 (i:=2) (j:=7) (k:=10) K ?_ ?_ ?_
   ·refine SW.f B1 2 (bm 20 607) rfl rfl rfl (e_c Tryz.call36 (ok_server_attributes F B0.DB _ Be) [.g 0] [vs 0] (vs 5) K (.inl rfl)) ?_;exact SD.vie B1 (gs 6) c_1780_28 K
   ·refine SW.v B1 7 (vs 1) (bm 20 731) rfl rfl rfl (e_val tk K) ?_;exact SD.vie B1 (gs 5) c_1780_52 K
   refine SW.v B1 10 (vs 3) (bm 20 1627) rfl rfl rfl (e_val tk K) ?_;exact SD.vie B1 (gs 5) c_1780_54 K
  refine SD.lay 15 (bm 20 91) [(1,vp 4 0),(8,vs 0),(11,vs 2),(13,vp 4 4)] [.rd 5 R_Attribute B0.DB,.rd 3 R_Prepared B0.Queue,.rd 2 R_Subscription B0.Subs,.rd 12 R_AttPDU B0.Out,.blk 30 (C_Server B0 (.s 0) (.s 1) (.s 2) (.s 3))] ?_ (fun c_1780_56=>?_)
  ·refine SD.all3 (i:=2) (j:=7) (k:=9) K ?_ ?_ ?_
   ·refine SW.f B1 2 (bm 20 95) rfl rfl rfl (e_c Tryz.call36 (ok_server_attributes F B0.DB _ Be) [.g 0] [vs 0] (vs 5) K (.inl rfl)) ?_;exact SD.vie B1 (gs 6) c_1780_29 K
   ·refine SW.v B1 7 (vs 1) (bm 20 219) rfl rfl rfl (e_val tk K) ?_;exact SD.vie B1 (gs 5) c_1780_53 K
   refine SW.v B1 9 (vp 4 8) (bm 20 603) rfl rfl rfl (e_val tk K) ?_;exact SD.vie B1 (gs 5) c_1780_55 K
  refine SD.lay 14 (bm 20 1563) [(1,vp 4 0),(8,vs 0),(11,vs 2),(17,vs 3)] [.rd 5 R_Attribute B0.DB,.rd 3 R_Prepared B0.Queue,.rd 2 R_Subscription B0.Subs,.rd 12 R_AttPDU B0.Out,.blk 30 (C_Server B0 (.s 0) (.s 1) (.s 2) (.s 3))] ?_ (fun c_1780_57=>?_)
  ·refine SD.all2 (i:=2) (j:=6) K ?_ ?_
   ·refine SW.f B1 2 (bm 20 1567) rfl rfl rfl (e_c Tryz.call36 (ok_server_attributes F B0.DB _ Be) [.g 0] [vs 0] (vs 5) K (.inl rfl)) ?_;exact SD.vie B1 (gs 6) c_1780_30 K
   refine SW.v B1 6 (vp 4 4) (bm 20 1627) rfl rfl rfl (e_val tk K) ?_;exact SD.vie B1 (gs 5) c_1780_54 K
  refine SD.lay 15 (bm 20 539) [(1,vp 4 0),(8,vs 0),(11,vs 2),(16,vp 4 8)] [.rd 5 R_Attribute B0.DB,.rd 3 R_Prepared B0.Queue,.rd 2 R_Subscription B0.Subs,.rd 12 R_AttPDU B0.Out,.blk 30 (C_Server B0 (.s 0) (.s 1) (.s 2) (.s 3))] ?_ (fun c_1780_58=>?_)
  ·refine SD.all3 (i:=2) (j:=6) (k:=10) K ?_ ?_ ?_
   ·refine SW.f B1 2 (bm 20 543) rfl rfl rfl (e_c Tryz.call36 (ok_server_attributes F B0.DB _ Be) [.g 0] [vs 0] (vs 5) K (.inl rfl)) ?_;exact SD.vie B1 (gs 6) c_1780_31 K
   ·refine SW.v B1 6 (vp 4 4) (bm 20 603) rfl rfl rfl (e_val tk K) ?_;exact SD.vie B1 (gs 5) c_1780_55 K
   refine SW.v B1 10 (vs 3) (bm 20 1563) rfl rfl rfl (e_val tk K) ?_;exact SD.vie B1 (gs 5) c_1780_57 K
  refine SD.lay 16 (bm 20 27) [(1,vp 4 0),(8,vs 0),(11,vs 2)] [.rd 5 R_Attribute B0.DB,.rd 3 R_Prepared B0.Queue,.rd 2 R_Subscription B0.Subs,.rd 12 R_AttPDU B0.Out,.blk 30 (C_Server B0 (.s 0) (.s 1) (.s 2) (.s 3))] ?_ (fun c_1780_59=>?_)
  ·refine SD.all3 (i:=2) (j:=6) (k:=9) K ?_ ?_ ?_
   ·refine SW.f B1 2 (bm 20 31) rfl rfl rfl (e_c Tryz.call36 (ok_server_attributes F B0.DB _ Be) [.g 0] [vs 0] (vs 5) K (.inl rfl)) ?_;exact SD.vie B1 (gs 6) c_1780_32 K
   ·refine SW.v B1 6 (vp 4 4) (bm 20 91) rfl rfl rfl (e_val tk K) ?_;exact SD.vie B1 (gs 5) c_1780_56 K
   refine SW.v B1 9 (vp 4 8) (bm 20 539) rfl rfl rfl (e_val tk K) ?_;exact SD.vie B1 (gs 5) c_1780_58 K
  refine SD.lay 13 (bm 20 1739) [(1,vp 4 0),(8,vs 0),(10,vp 4 7),(14,vs 1),(17,vs 3)] [.rd 5 R_Attribute B0.DB,.rd 3 R_Prepared B0.Queue,.rd 2 R_Subscription B0.Subs,.rd 12 R_AttPDU B0.Out,.blk 30 (C_Server B0 (.s 0) (.s 1) (.s 2) (.s 3))] ?_ (fun c_1780_60=>?_)
  ·refine SD.all2 (i:=2) (j:=4) K ?_ ?_
   ·refine SW.f B1 2 (bm 20 1743) rfl rfl rfl (e_c Tryz.call36 (ok_server_attributes F B0.DB _ Be) [.g 0] [vs 0] (vs 5) K (.inl rfl)) ?_;exact SD.vie B1 (gs 6) c_1780_33 K
   refine SW.v B1 4 (vs 2) (bm 20 1755) rfl rfl rfl (e_val tk K) ?_;exact SD.vie B1 (gs 5) c_1780_51 K
  refine SD.lay 14 (bm 20 715) [(1,vp 4 0),(8,vs 0),(10,vp 4 7),(14,vs 1),(16,vp 4 8)] [.rd 5 R_Attribute B0.DB,.rd 3 R_Prepared B0.Queue,.rd 2 R_Subscription B0.Subs,.rd 12 R_AttPDU B0.Out,.blk 30 (C_Server B0 (.s 0) (.s 1) (.s 2) (.s 3))] ?_ (fun c_1780_61=>?_)
  ·refine SD.all3 (i:=2) (j:=4) (k:=10) K ?_ ?_ ?_
   ·refine SW.f B1 2 (bm 20 719) rfl rfl rfl (e_c Tryz.call36 (ok_server_attributes F B0.DB _ Be) [.g 0] [vs 0] (vs 5) K (.inl rfl)) ?_;exact SD.vie B1 (gs 6) c_1780_34 K
   ·refine SW.v B1 4 (vs 2) (bm 20 731) rfl rfl rfl (e_val tk K) ?_;exact SD.vie B1 (gs 5) c_1780_52 K
   refine SW.v B1 10 (vs 3) (bm 20 1739) rfl rfl rfl (e_val tk K) ?_;exact SD.vie B1 (gs 5) c_1780_60 K
  refine SD.lay 15 (bm 20 203) [(1,vp 4 0),(8,vs 0),(10,vp 4 7),(14,vs 1)] [.rd 5 R_Attribute B0.DB,.rd 3 R_Prepared B0.Queue,.rd 2 R_Subscription B0.Subs,.rd 12 R_AttPDU B0.Out,.blk 30 (C_Server B0 (.s 0) (.s 1) (.s 2) (.s 3))] ?_ (fun c_1780_62=>?_)
  ·refine SD.all3 (i:=2) (j:=4) (k:=9) K ?_ ?_ ?_
   ·refine SW.f B1 2 (bm 20 207) rfl rfl rfl (e_c Tryz.call36 (ok_server_attributes F B0.DB _ Be) [.g 0] [vs 0] (vs 5) K (.inl rfl)) ?_;exact SD.vie B1 (gs 6) c_1780_35 K
   ·refine SW.v B1 4 (vs 2) (bm 20 219) rfl rfl rfl (e_val tk K) ?_;exact SD.vie B1 (gs 5) c_1780_53 K
   refine SW.v B1 9 (vp 4 8) (bm 20 715) rfl rfl rfl (e_val tk K) ?_;exact SD.vie B1 (gs 5) c_1780_61 K
  refine SD.lay 14 (bm 20 1611) [(1,vp 4 0),(8,vs 0),(10,vp 4 7),(13,vp 4 4),(17,vs 3)] [.rd 5 R_Attribute B0.DB,.rd 3 R_Prepared B0.Queue,.rd 2 R_Subscription B0.Subs,.rd 12 R_AttPDU B0.Out,.blk 30 (C_Server B0 (.s 0) (.s 1) (.s 2) (.s 3))] ?_ (fun c_1780_63=>?_)
  ·refine SD.all3 (i:=2) (j:=4) (k:=7) K ?_ ?_ ?_
   ·refine SW.f B1 2 (bm 20 1615) rfl rfl rfl (e_c Tryz.call36 (ok_server_attributes F B0.DB _ Be) [.g 0] [vs 0] (vs 5) K (.inl rfl)) ?_;exact SD.vie B1 (gs 6) c_1780_36 K
   ·refine SW.v B1 4 (vs 2) (bm 20 1627) rfl rfl rfl (e_val tk K) ?_;exact SD.vie B1 (gs 5) c_1780_54 K
   refine SW.v B1 7 (vs 1) (bm 20 1739) rfl rfl rfl (e_val tk K) ?_;exact SD.vie B1 (gs 5) c_1780_60 K
  refine SD.lay 15 (bm 20 587) [(1,vp 4 0),(8,vs 0),(10,vp 4 7),(13,vp 4 4),(16,vp 4 8)] [.rd 5 R_Attribute B0.DB,.rd 3 R_Prepared B0.Queue,.rd 2 R_Subscription B0.Subs,.rd 12 R_AttPDU B0.Out,.blk 30 (C_Server B0 (.s 0) (.s 1) (.s 2) (.s 3))] ?_ (fun c_1780_64=>?_)
  ·refine SD.all4 (i:=2) (j:=4) (k:=7) (m:=10) K ?_ ?_ ?_ ?_
   ·refine SW.f B1 2 (bm 20 591) rfl rfl rfl (e_c Tryz.call36 (ok_server_attributes F B0.DB _ Be) [.g 0] [vs 0] (vs 5) K (.inl rfl)) ?_;exact SD.vie B1 (gs 6) c_1780_37 K
   ·refine SW.v B1 4 (vs 2) (bm 20 603) rfl rfl rfl (e_val tk K) ?_;exact SD.vie B1 (gs 5) c_1780_55 K
   ·refine SW.v B1 7 (vs 1) (bm 20 715) rfl rfl rfl (e_val tk K) ?_;exact SD.vie B1 (gs 5) c_1780_61 K
   refine SW.v B1 10 (vs 3) (bm 20 1611) rfl rfl rfl (e_val tk K) ?_;exact SD.vie B1 (gs 5) c_1780_63 K
  refine SD.lay 16 (bm 20 75) [(1,vp 4 0),(8,vs 0),(10,vp 4 7),(13,vp 4 4)] [.rd 5 R_Attribute B0.DB,.rd 3 R_Prepared B0.Queue,.rd 2 R_Subscription B0.Subs,.rd 12 R_AttPDU B0.Out,.blk 30 (C_Server B0 (.s 0) (.s 1) (.s 2) (.s 3))] ?_ (fun c_1780_65=>?_)
  ·refine SD.all4 (i:=2) (j:=4) (k:=7) (m:=9) K ?_ ?_ ?_ ?_
   ·refine SW.f B1 2 (bm 20 79) rfl rfl rfl (e_c Tryz.call36 (ok_server_attributes F B0.DB _ Be) [.g 0] [vs 0] (vs 5) K (.inl rfl)) ?_;exact SD.vie B1 (gs 6) c_1780_38 K
   ·refine SW.v B1 4 (vs 2) (bm 20 91) rfl rfl rfl (e_val tk K) ?_;exact SD.vie B1 (gs 5) c_1780_56 K
   ·refine SW.v B1 7 (vs 1) (bm 20 203) rfl rfl rfl (e_val tk K) ?_;exact SD.vie B1 (gs 5) c_1780_62 K
   refine SW.v B1 9 (vp 4 8) (bm 20 587) rfl rfl rfl (e_val tk K) ?_;exact SD.vie B1 (gs 5) c_1780_64 K
  refine SD.lay 15 (bm 20 1547) [(1,vp 4 0),(8,vs 0),(10,vp 4 7),(17,vs 3)] [.rd 5 R_Attribute B0.DB,.rd 3 R_Prepared B0.Queue,.rd 2 R_Subscription B0.Subs,.rd 12 R_AttPDU B0.Out,.blk 30 (C_Server B0 (.s 0) (.s 1) (.s 2) (.s 3))] ?_ (fun c_1780_66=>?_)
  ·refine SD.all3 (i:=2) (j:=4) (k:=6) K ?_ ?_ ?_
   ·refine SW.f B1 2 (bm 20 1551) rfl rfl rfl (e_c Tryz.call36 (ok_server_attributes F B0.DB _ Be) [.g 0] [vs 0] (vs 5) K (.inl rfl)) ?_;exact SD.vie B1 (gs 6) c_1780_39 K
   ·refine SW.v B1 4 (vs 2) (bm 20 1563) rfl rfl rfl (e_val tk K) ?_;exact SD.vie B1 (gs 5) c_1780_57 K
   refine SW.v B1 6 (vp 4 4) (bm 20 1611) rfl rfl rfl (e_val tk K) ?_;exact SD.vie B1 (gs 5) c_1780_63 K
  refine SD.lay 16 (bm 20 523) [(1,vp 4 0),(8,vs 0),(10,vp 4 7),(16,vp 4 8)] [.rd 5 R_Attribute B0.DB,.rd 3 R_Prepared B0.Queue,.rd 2 R_Subscription B0.Subs,.rd 12 R_AttPDU B0.Out,.blk 30 (C_Server B0 (.s 0) (.s 1) (.s 2) (.s 3))] ?_ (fun c_1780_67=>?_)
  ·refine SD.all4 (i:=2) (j:=4) (k:=6) (m:=10) K ?_ ?_ ?_ ?_
   ·refine SW.f B1 2 (bm 20 527) rfl rfl rfl (e_c Tryz.call36 (ok_server_attributes F B0.DB _ Be) [.g 0] [vs 0] (vs 5) K (.inl rfl)) ?_;exact SD.vie B1 (gs 6) c_1780_40 K
   ·refine SW.v B1 4 (vs 2) (bm 20 539) rfl rfl rfl (e_val tk K) ?_;exact SD.vie B1 (gs 5) c_1780_58 K
   ·refine SW.v B1 6 (vp 4 4) (bm 20 587) rfl rfl rfl (e_val tk K) ?_;exact SD.vie B1 (gs 5) c_1780_64 K
   refine SW.v B1 10 (vs 3) (bm 20 1547) rfl rfl rfl (e_val tk K) ?_;exact SD.vie B1 (gs 5) c_1780_66 K
  refine SD.lay 17 (bm 20 11) [(1,vp 4 0),(8,vs 0),(10,vp 4 7)] [.rd 5 R_Attribute B0.DB,.rd 3 R_Prepared B0.Queue,.rd 2 R_Subscription B0.Subs,.rd 12 R_AttPDU B0.Out,.blk 30 (C_Server B0 (.s 0) (.s 1) (.s 2) (.s 3))] ?_ (fun c_1780_68=>?_)
  ·refine SD.all4 (i:=2) (j:=4) (k:=6) (m:=9) K ?_ ?_ ?_ ?_
   ·refine SW.f B1 2 (bm 20 15) rfl rfl rfl (e_c Tryz.call36 (ok_server_attributes F B0.DB _ Be) [.g 0] [vs 0] (vs 5) K (.inl rfl)) ?_;exact SD.vie B1 (gs 6) c_1780_41 K
   ·refine SW.v B1 4 (vs 2) (bm 20 27) rfl rfl rfl (e_val tk K) ?_;exact SD.vie B1 (gs 5) c_1780_59 K
   ·refine SW.v B1 6 (vp 4 4) (bm 20 75) rfl rfl rfl (e_val tk K) ?_;exact SD.vie B1 (gs 5) c_1780_65 K
   refine SW.v B1 9 (vp 4 8) (bm 20 523) rfl rfl rfl (e_val tk K) ?_;exact SD.vie B1 (gs 5) c_1780_67 K
  refine SD.lay 14 (bm 20 1731) [(1,vp 4 0),(8,vs 0),(14,vs 1),(17,vs 3)] [.rd 5 R_Attribute B0.DB,.rd 3 R_Prepared B0.Queue,.rd 2 R_Subscription B0.Subs,.rd 12 R_AttPDU B0.Out,.blk 30 (C_Server B0 (.s 0) (.s 1) (.s 2) (.s 3))] ?_ (fun c_1780_69=>?_)
  ·refine SD.all2 (i:=2) (j:=3) K ?_ ?_
   ·refine SW.f B1 2 (bm 20 1735) rfl rfl rfl (e_c Tryz.call36 (ok_server_attributes F B0.DB _ Be) [.g 0] [vs 0] (vs 5) K (.inl rfl)) ?_;exact SD.vie B1 (gs 6) c_1780_42 K
   refine SW.v B1 3 (vp 4 7) (bm 20 1739) rfl rfl rfl (e_val tk K) ?_;exact SD.vie B1 (gs 5) c_1780_60 K
  refine SD.lay 15 (bm 20 707) [(1,vp 4 0),(8,vs 0),(14,vs 1),(16,vp 4 8)] [.rd 5 R_Attribute B0.DB,.rd 3 R_Prepared B0.Queue,.rd 2 R_Subscription B0.Subs,.rd 12 R_AttPDU B0.Out,.blk 30 (C_Server B0 (.s 0) (.s 1) (.s 2) (.s 3))] ?_ (fun c_1780_70=>?_)
  ·refine SD.all3 (i:=2) (j:=3) (k:=10) K ?_ ?_ ?_
   ·refine SW.f B1 2 (bm 20 711) rfl rfl rfl (e_c Tryz.call36 (ok_server_attributes F B0.DB _ Be) [.g 0] [vs 0] (vs 5) K (.inl rfl)) ?_;exact SD.vie B1 (gs 6) c_1780_43 K
   ·refine SW.v B1 3 (vp 4 7) (bm 20 715) rfl rfl rfl (e_val tk K) ?_;exact SD.vie B1 (gs 5) c_1780_61 K
   refine SW.v B1 10 (vs 3) (bm 20 1731) rfl rfl rfl (e_val tk K) ?_;exact SD.vie B1 (gs 5) c_1780_69 K
  refine SD.lay 16 (bm 20 195) [(1,vp 4 0),(8,vs 0),(14,vs 1)] [.rd 5 R_Attribute B0.DB,.rd 3 R_Prepared B0.Queue,.rd 2 R_Subscription B0.Subs,.rd 12 R_AttPDU B0.Out,.blk 30 (C_Server B0 (.s 0) (.s 1) (.s 2) (.s 3))] ?_ (fun c_1780_71=>?_)
  ·refine SD.all3 (i:=2) (j:=3) (k:=9) K ?_ ?_ ?_
   ·refine SW.f B1 2 (bm 20 199) rfl rfl rfl (e_c Tryz.call36 (ok_server_attributes F B0.DB _ Be) [.g 0] [vs 0] (vs 5) K (.inl rfl)) ?_;exact SD.vie B1 (gs 6) c_1780_44 K
   ·refine SW.v B1 3 (vp 4 7) (bm 20 203) rfl rfl rfl (e_val tk K) ?_;exact SD.vie B1 (gs 5) c_1780_62 K
   refine SW.v B1 9 (vp 4 8) (bm 20 707) rfl rfl rfl (e_val tk K) ?_;exact SD.vie B1 (gs 5) c_1780_70 K
  refine SD.lay 15 (bm 20 1603) [(1,vp 4 0),(8,vs 0),(13,vp 4 4),(17,vs 3)] [.rd 5 R_Attribute B0.DB,.rd 3 R_Prepared B0.Queue,.rd 2 R_Subscription B0.Subs,.rd 12 R_AttPDU B0.Out,.blk 30 (C_Server B0 (.s 0) (.s 1) (.s 2) (.s 3))] ?_ (fun c_1780_72=>?_)
  ·refine SD.all3 (i:=2) (j:=3) (k:=7) K ?_ ?_ ?_
   ·refine SW.f B1 2 (bm 20 1607) rfl rfl rfl (e_c Tryz.call36 (ok_server_attributes F B0.DB _ Be) [.g 0] [vs 0] (vs 5) K (.inl rfl)) ?_;exact SD.vie B1 (gs 6) c_1780_45 K
   ·refine SW.v B1 3 (vp 4 7) (bm 20 1611) rfl rfl rfl (e_val tk K) ?_;exact SD.vie B1 (gs 5) c_1780_63 K
   refine SW.v B1 7 (vs 1) (bm 20 1731) rfl rfl rfl (e_val tk K) ?_;exact SD.vie B1 (gs 5) c_1780_69 K
  refine SD.lay 16 (bm 20 579) [(1,vp 4 0),(8,vs 0),(13,vp 4 4),(16,vp 4 8)] [.rd 5 R_Attribute B0.DB,.rd 3 R_Prepared B0.Queue,.rd 2 R_Subscription B0.Subs,.rd 12 R_AttPDU B0.Out,.blk 30 (C_Server B0 (.s 0) (.s 1) (.s 2) (.s 3))] ?_ (fun c_1780_73=>?_)
  ·refine SD.all4 (i:=2) (j:=3) (k:=7) (m:=10) K ?_ ?_ ?_ ?_
   ·refine SW.f B1 2 (bm 20 583) rfl rfl rfl (e_c Tryz.call36 (ok_server_attributes F B0.DB _ Be) [.g 0] [vs 0] (vs 5) K (.inl rfl)) ?_;exact SD.vie B1 (gs 6) c_1780_46 K
   ·refine SW.v B1 3 (vp 4 7) (bm 20 587) rfl rfl rfl (e_val tk K) ?_;exact SD.vie B1 (gs 5) c_1780_64 K
   ·refine SW.v B1 7 (vs 1) (bm 20 707) rfl rfl rfl (e_val tk K) ?_;exact SD.vie B1 (gs 5) c_1780_70 K
   refine SW.v B1 10 (vs 3) (bm 20 1603) rfl rfl rfl (e_val tk K) ?_;exact SD.vie B1 (gs 5) c_1780_72 K
  refine SD.lay 17 (bm 20 67) [(1,vp 4 0),(8,vs 0),(13,vp 4 4)] [.rd 5 R_Attribute B0.DB,.rd 3 R_Prepared B0.Queue,.rd 2 R_Subscription B0.Subs,.rd 12 R_AttPDU B0.Out,.blk 30 (C_Server B0 (.s 0) (.s 1) (.s 2) (.s 3))] ?_ (fun c_1780_74=>?_)
  ·refine SD.all4 (i:=2) (j:=3) (k:=7) (m:=9) K ?_ ?_ ?_ ?_
   ·refine SW.f B1 2 (bm 20 71) rfl rfl rfl (e_c Tryz.call36 (ok_server_attributes F B0.DB _ Be) [.g 0] [vs 0] (vs 5) K (.inl rfl)) ?_;exact SD.vie B1 (gs 6) c_1780_47 K
   ·refine SW.v B1 3 (vp 4 7) (bm 20 75) rfl rfl rfl (e_val tk K) ?_;exact SD.vie B1 (gs 5) c_1780_65 K
   ·refine SW.v B1 7 (vs 1) (bm 20 195) rfl rfl rfl (e_val tk K) ?_;exact SD.vie B1 (gs 5) c_1780_71 K
   refine SW.v B1 9 (vp 4 8) (bm 20 579) rfl rfl rfl (e_val tk K) ?_;exact SD.vie B1 (gs 5) c_1780_73 K
  refine SD.lay 16 (bm 20 1539) [(1,vp 4 0),(8,vs 0),(17,vs 3)] [.rd 5 R_Attribute B0.DB,.rd 3 R_Prepared B0.Queue,.rd 2 R_Subscription B0.Subs,.rd 12 R_AttPDU B0.Out,.blk 30 (C_Server B0 (.s 0) (.s 1) (.s 2) (.s 3))] ?_ (fun c_1780_75=>?_)
  ·refine SD.all3 (i:=2) (j:=3) (k:=6) K ?_ ?_ ?_
   ·refine SW.f B1 2 (bm 20 1543) rfl rfl rfl (e_c Tryz.call36 (ok_server_attributes F B0.DB _ Be) [.g 0] [vs 0] (vs 5) K (.inl rfl)) ?_;exact SD.vie B1 (gs 6) c_1780_48 K
   ·refine SW.v B1 3 (vp 4 7) (bm 20 1547) rfl rfl rfl (e_val tk K) ?_;exact SD.vie B1 (gs 5) c_1780_66 K
   refine SW.v B1 6 (vp 4 4) (bm 20 1603) rfl rfl rfl (e_val tk K) ?_;exact SD.vie B1 (gs 5) c_1780_72 K
  refine SD.lay 17 (bm 20 515) [(1,vp 4 0),(8,vs 0),(16,vp 4 8)] [.rd 5 R_Attribute B0.DB,.rd 3 R_Prepared B0.Queue,.rd 2 R_Subscription B0.Subs,.rd 12 R_AttPDU B0.Out,.blk 30 (C_Server B0 (.s 0) (.s 1) (.s 2) (.s 3))] ?_ (fun c_1780_76=>?_)
  ·refine SD.all4 (i:=2) (j:=3) (k:=6) (m:=10) K ?_ ?_ ?_ ?_
   ·refine SW.f B1 2 (bm 20 519) rfl rfl rfl (e_c Tryz.call36 (ok_server_attributes F B0.DB _ Be) [.g 0] [vs 0] (vs 5) K (.inl rfl)) ?_;exact SD.vie B1 (gs 6) c_1780_49 K
   ·refine SW.v B1 3 (vp 4 7) (bm 20 523) rfl rfl rfl (e_val tk K) ?_;exact SD.vie B1 (gs 5) c_1780_67 K
   ·refine SW.v B1 6 (vp 4 4) (bm 20 579) rfl rfl rfl (e_val tk K) ?_;exact SD.vie B1 (gs 5) c_1780_73 K
   refine SW.v B1 10 (vs 3) (bm 20 1539) rfl rfl rfl (e_val tk K) ?_;exact SD.vie B1 (gs 5) c_1780_75 K
  refine SD.lay 18 (bm 20 3) [(1,vp 4 0),(8,vs 0)] [.rd 5 R_Attribute B0.DB,.rd 3 R_Prepared B0.Queue,.rd 2 R_Subscription B0.Subs,.rd 12 R_AttPDU B0.Out,.blk 30 (C_Server B0 (.s 0) (.s 1) (.s 2) (.s 3))] ?_ (fun c_1780_77=>?_)
  ·refine SD.all4 (i:=2) (j:=3) (k:=6) (m:=9) K ?_ ?_ ?_ ?_
   ·refine SW.f B1 2 (bm 20 7) rfl rfl rfl (e_c Tryz.call36 (ok_server_attributes F B0.DB _ Be) [.g 0] [vs 0] (vs 5) K (.inl rfl)) ?_;exact SD.vie B1 (gs 6) c_1780_50 K
   ·refine SW.v B1 3 (vp 4 7) (bm 20 11) rfl rfl rfl (e_val tk K) ?_;exact SD.vie B1 (gs 5) c_1780_68 K
   ·refine SW.v B1 6 (vp 4 4) (bm 20 67) rfl rfl rfl (e_val tk K) ?_;exact SD.vie B1 (gs 5) c_1780_74 K
   refine SW.v B1 9 (vp 4 8) (bm 20 515) rfl rfl rfl (e_val tk K) ?_;exact SD.vie B1 (gs 5) c_1780_76 K
  refine SD.lay 13 (bm 20 1753) [(1,vp 4 0),(7,vp 4 0),(11,vs 2),(14,vs 1),(17,vs 3)] [.rd 5 R_Attribute B0.DB,.rd 3 R_Prepared B0.Queue,.rd 2 R_Subscription B0.Subs,.rd 12 R_AttPDU B0.Out,.blk 30 (C_Server B0 (.s 0) (.s 1) (.s 2) (.s 3))] ?_ (fun c_1780_78=>?_)
  ·refine SD.all1 (i:=1) K ?_;refine SW.v B1 1 (vs 0) (bm 20 1755) rfl rfl rfl (e_val tk K) ?_;exact SD.vie B1 (gs 5) c_1780_51 K
  refine SD.lay 14 (bm 20 729) [(1,vp 4 0),(7,vp 4 0),(11,vs 2),(14,vs 1),(16,vp 4 8)] [.rd 5 R_Attribute B0.DB,.rd 3 R_Prepared B0.Queue,.rd 2 R_Subscription B0.Subs,.rd 12 R_AttPDU B0.Out,.blk 30 (C_Server B0 (.s 0) (.s 1) (.s 2) (.s 3))] ?_ (fun c_1780_79=>?_)
  ·refine SD.all2 (i:=1) (j:=10) K ?_ ?_
   ·refine SW.v B1 1 (vs 0) (bm 20 731) rfl rfl rfl (e_val tk K) ?_;exact SD.vie B1 (gs 5) c_1780_52 K
   refine SW.v B1 10 (vs 3) (bm 20 1753) rfl rfl rfl (e_val tk K) ?_;exact SD.vie B1 (gs 5) c_1780_78 K
  refine SD.lay 15 (bm 20 217) [(1,vp 4 0),(7,vp 4 0),(11,vs 2),(14,vs 1)] [.rd 5 R_Attribute B0.DB,.rd 3 R_Prepared B0.Queue,.rd 2 R_Subscription B0.Subs,.rd 12 R_AttPDU B0.Out,.blk 30 (C_Server B0 (.s 0) (.s 1) (.s 2) (.s 3))] ?_ (fun c_1780_80=>?_)
  ·refine SD.all2 (i:=1) (j:=9) K ?_ ?_
   ·refine SW.v B1 1 (vs 0) (bm 20 219) rfl rfl rfl (e_val tk K) ?_;exact SD.vie B1 (gs 5) c_1780_53 K
   refine SW.v B1 9 (vp 4 8) (bm 20 729) rfl rfl rfl (e_val tk K) ?_;exact SD.vie B1 (gs 5) c_1780_79 K
  refine SD.lay 14 (bm 20 1625) [(1,vp 4 0),(7,vp 4 0),(11,vs 2),(13,vp 4 4),(17,vs 3)] [.rd 5 R_Attribute B0.DB,.rd 3 R_Prepared B0.Queue,.rd 2 R_Subscription B0.Subs,.rd 12 R_AttPDU B0.Out,.blk 30 (C_Server B0 (.s 0) (.s 1) (.s 2) (.s 3))] ?_ (fun c_1780_81=>?_)
  ·refine SD.all2 (i:=1) (j:=7) K ?_ ?_
   ·refine SW.v B1 1 (vs 0) (bm 20 1627) rfl rfl rfl (e_val tk K) ?_;exact SD.vie B1 (gs 5) c_1780_54 K
   refine SW.v B1 7 (vs 1) (bm 20 1753) rfl rfl rfl (e_val tk K) ?_;exact SD.vie B1 (gs 5) c_1780_78 K
  refine SD.lay 15 (bm 20 601) [(1,vp 4 0),(7,vp 4 0),(11,vs 2),(13,vp 4 4),(16,vp 4 8)] [.rd 5 R_Attribute B0.DB,.rd 3 R_Prepared B0.Queue,.rd 2 R_Subscription B0.Subs,.rd 12 R_AttPDU B0.Out,.blk 30 (C_Server B0 (.s 0) (.s 1) (.s 2) (.s 3))] ?_ (fun c_1780_82=>?_)
  ·refine SD.all3 (i:=1) (j:=7) (k:=10) K ?_ ?_ ?_
   ·refine SW.v B1 1 (vs 0) (bm 20 603) rfl rfl rfl (e_val tk K) ?_;exact SD.vie B1 (gs 5) c_1780_55 K
   ·refine SW.v B1 7 (vs 1) (bm 20 729) rfl rfl rfl (e_val tk K) ?_;exact SD.vie B1 (gs 5) c_1780_79 K
   refine SW.v B1 10 (vs 3) (bm 20 1625) rfl rfl rfl (e_val tk K) ?_;exact SD.vie B1 (gs 5) c_1780_81 K
  refine SD.lay 16 (bm 20 89) [(1,vp 4 0),(7,vp 4 0),(11,vs 2),(13,vp 4 4)] [.rd 5 R_Attribute B0.DB,.rd 3 R_Prepared B0.Queue,.rd 2 R_Subscription B0.Subs,.rd 12 R_AttPDU B0.Out,.blk 30 (C_Server B0 (.s 0) (.s 1) (.s 2) (.s 3))] ?_ (fun c_1780_83=>?_)
  ·refine SD.all3 (i:=1) (j:=7) (k:=9) K ?_ ?_ ?_
   ·refine SW.v B1 1 (vs 0) (bm 20 91) rfl rfl rfl (e_val tk K) ?_;exact SD.vie B1 (gs 5) c_1780_56 K
   ·refine SW.v B1 7 (vs 1) (bm 20 217) rfl rfl rfl (e_val tk K) ?_;exact SD.vie B1 (gs 5) c_1780_80 K
   refine SW.v B1 9 (vp 4 8) (bm 20 601) rfl rfl rfl (e_val tk K) ?_;exact SD.vie B1 (gs 5) c_1780_82 K
  refine SD.lay 15 (bm 20 1561) [(1,vp 4 0),(7,vp 4 0),(11,vs 2),(17,vs 3)] [.rd 5 R_Attribute B0.DB,.rd 3 R_Prepared B0.Queue,.rd 2 R_Subscription B0.Subs,.rd 12 R_AttPDU B0.Out,.blk 30 (C_Server B0 (.s 0) (.s 1) (.s 2) (.s 3))] ?_ (fun c_1780_84=>?_)
  ·refine SD.all2 (i:=1) (j:=6) K ?_ ?_
   ·refine SW.v B1 1 (vs 0) (bm 20 1563) rfl rfl rfl (e_val tk K) ?_;exact SD.vie B1 (gs 5) c_1780_57 K
   refine SW.v B1 6 (vp 4 4) (bm 20 1625) rfl rfl rfl (e_val tk K) ?_;exact SD.vie B1 (gs 5) c_1780_81 K
  refine SD.lay 16 (bm 20 537) [(1,vp 4 0),(7,vp 4 0),(11,vs 2),(16,vp 4 8)] [.rd 5 R_Attribute B0.DB,.rd 3 R_Prepared B0.Queue,.rd 2 R_Subscription B0.Subs,.rd 12 R_AttPDU B0.Out,.blk 30 (C_Server B0 (.s 0) (.s 1) (.s 2) (.s 3))] ?_ (fun c_1780_85=>?_)
  ·refine SD.all3 (i:=1) (j:=6) (k:=10) K ?_ ?_ ?_
   ·refine SW.v B1 1 (vs 0) (bm 20 539) rfl rfl rfl (e_val tk K) ?_;exact SD.vie B1 (gs 5) c_1780_58 K
   ·refine SW.v B1 6 (vp 4 4) (bm 20 601) rfl rfl rfl (e_val tk K) ?_;exact SD.vie B1 (gs 5) c_1780_82 K
   refine SW.v B1 10 (vs 3) (bm 20 1561) rfl rfl rfl (e_val tk K) ?_;exact SD.vie B1 (gs 5) c_1780_84 K
  refine SD.lay 17 (bm 20 25) [(1,vp 4 0),(7,vp 4 0),(11,vs 2)] [.rd 5 R_Attribute B0.DB,.rd 3 R_Prepared B0.Queue,.rd 2 R_Subscription B0.Subs,.rd 12 R_AttPDU B0.Out,.blk 30 (C_Server B0 (.s 0) (.s 1) (.s 2) (.s 3))] ?_ (fun c_1780_86=>?_)
  ·refine SD.all3 (i:=1) (j:=6) (k:=9) K ?_ ?_ ?_
   ·refine SW.v B1 1 (vs 0) (bm 20 27) rfl rfl rfl (e_val tk K) ?_;exact SD.vie B1 (gs 5) c_1780_59 K
   ·refine SW.v B1 6 (vp 4 4) (bm 20 89) rfl rfl rfl (e_val tk K) ?_;exact SD.vie B1 (gs 5) c_1780_83 K
   refine SW.v B1 9 (vp 4 8) (bm 20 537) rfl rfl rfl (e_val tk K) ?_;exact SD.vie B1 (gs 5) c_1780_85 K
  refine SD.lay 14 (bm 20 1737) [(1,vp 4 0),(7,vp 4 0),(10,vp 4 7),(14,vs 1),(17,vs 3)] [.rd 5 R_Attribute B0.DB,.rd 3 R_Prepared B0.Queue,.rd 2 R_Subscription B0.Subs,.rd 12 R_AttPDU B0.Out,.blk 30 (C_Server B0 (.s 0) (.s 1) (.s 2) (.s 3))] ?_ (fun c_1780_87=>?_)
  ·refine SD.all2 (i:=1) (j:=4) K ?_ ?_
   ·refine SW.v B1 1 (vs 0) (bm 20 1739) rfl rfl rfl (e_val tk K) ?_;exact SD.vie B1 (gs 5) c_1780_60 K
   refine SW.v B1 4 (vs 2) (bm 20 1753) rfl rfl rfl (e_val tk K) ?_;exact SD.vie B1 (gs 5) c_1780_78 K
  refine SD.lay 15 (bm 20 713) [(1,vp 4 0),(7,vp 4 0),(10,vp 4 7),(14,vs 1),(16,vp 4 8)] [.rd 5 R_Attribute B0.DB,.rd 3 R_Prepared B0.Queue,.rd 2 R_Subscription B0.Subs,.rd 12 R_AttPDU B0.Out,.blk 30 (C_Server B0 (.s 0) (.s 1) (.s 2) (.s 3))] ?_ (fun c_1780_88=>?_)
  ·refine SD.all3 (i:=1) (j:=4) (k:=10) K ?_ ?_ ?_
   ·refine SW.v B1 1 (vs 0) (bm 20 715) rfl rfl rfl (e_val tk K) ?_;exact SD.vie B1 (gs 5) c_1780_61 K
   ·refine SW.v B1 4 (vs 2) (bm 20 729) rfl rfl rfl (e_val tk K) ?_;exact SD.vie B1 (gs 5) c_1780_79 K
   refine SW.v B1 10 (vs 3) (bm 20 1737) rfl rfl rfl (e_val tk K) ?_;exact SD.vie B1 (gs 5) c_1780_87 K
  refine SD.lay 16 (bm 20 201) [(1,vp 4 0),(7,vp 4 0),(10,vp 4 7),(14,vs 1)] [.rd 5 R_Attribute B0.DB,.rd 3 R_Prepared B0.Queue,.rd 2 R_Subscription B0.Subs,.rd 12 R_AttPDU B0.Out,.blk 30 (C_Server B0 (.s 0) (.s 1) (.s 2) (.s 3))] ?_ (fun c_1780_89=>?_)
  ·refine SD.all3 (i:=1) (j:=4) (k:=9) K ?_ ?_ ?_
   ·refine SW.v B1 1 (vs 0) (bm 20 203) rfl rfl rfl (e_val tk K) ?_;exact SD.vie B1 (gs 5) c_1780_62 K
   ·refine SW.v B1 4 (vs 2) (bm 20 217) rfl rfl rfl (e_val tk K) ?_;exact SD.vie B1 (gs 5) c_1780_80 K
   refine SW.v B1 9 (vp 4 8) (bm 20 713) rfl rfl rfl (e_val tk K) ?_;exact SD.vie B1 (gs 5) c_1780_88 K
  refine SD.lay 15 (bm 20 1609) [(1,vp 4 0),(7,vp 4 0),(10,vp 4 7),(13,vp 4 4),(17,vs 3)] [.rd 5 R_Attribute B0.DB,.rd 3 R_Prepared B0.Queue,.rd 2 R_Subscription B0.Subs,.rd 12 R_AttPDU B0.Out,.blk 30 (C_Server B0 (.s 0) (.s 1) (.s 2) (.s 3))] ?_ (fun c_1780_90=>?_)
  ·refine SD.all3 (i:=1) (j:=4) (k:=7) K ?_ ?_ ?_
   ·refine SW.v B1 1 (vs 0) (bm 20 1611) rfl rfl rfl (e_val tk K) ?_;exact SD.vie B1 (gs 5) c_1780_63 K
   ·refine SW.v B1 4 (vs 2) (bm 20 1625) rfl rfl rfl (e_val tk K) ?_;exact SD.vie B1 (gs 5) c_1780_81 K
   refine SW.v B1 7 (vs 1) (bm 20 1737) rfl rfl rfl (e_val tk K) ?_;exact SD.vie B1 (gs 5) c_1780_87 K
  refine SD.lay 16 (bm 20 585) [(1,vp 4 0),(7,vp 4 0),(10,vp 4 7),(13,vp 4 4),(16,vp 4 8)] [.rd 5 R_Attribute B0.DB,.rd 3 R_Prepared B0.Queue,.rd 2 R_Subscription B0.Subs,.rd 12 R_AttPDU B0.Out,.blk 30 (C_Server B0 (.s 0) (.s 1) (.s 2) (.s 3))] ?_ (fun c_1780_91=>?_)
  ·refine SD.all4 (i:=1) (j:=4) (k:=7) (m:=10) K ?_ ?_ ?_ ?_
   ·refine SW.v B1 1 (vs 0) (bm 20 587) rfl rfl rfl (e_val tk K) ?_;exact SD.vie B1 (gs 5) c_1780_64 K
   ·refine SW.v B1 4 (vs 2) (bm 20 601) rfl rfl rfl (e_val tk K) ?_;exact SD.vie B1 (gs 5) c_1780_82 K
   ·refine SW.v B1 7 (vs 1) (bm 20 713) rfl rfl rfl (e_val tk K) ?_;exact SD.vie B1 (gs 5) c_1780_88 K
   refine SW.v B1 10 (vs 3) (bm 20 1609) rfl rfl rfl (e_val tk K) ?_;exact SD.vie B1 (gs 5) c_1780_90 K
  refine SD.lay 17 (bm 20 73) [(1,vp 4 0),(7,vp 4 0),(10,vp 4 7),(13,vp 4 4)] [.rd 5 R_Attribute B0.DB,.rd 3 R_Prepared B0.Queue,.rd 2 R_Subscription B0.Subs,.rd 12 R_AttPDU B0.Out,.blk 30 (C_Server B0 (.s 0) (.s 1) (.s 2) (.s 3))] ?_ (fun c_1780_92=>?_)
  ·refine SD.all4 (i:=1) (j:=4) (k:=7) (m:=9) K ?_ ?_ ?_ ?_
   ·refine SW.v B1 1 (vs 0) (bm 20 75) rfl rfl rfl (e_val tk K) ?_;exact SD.vie B1 (gs 5) c_1780_65 K
   ·refine SW.v B1 4 (vs 2) (bm 20 89) rfl rfl rfl (e_val tk K) ?_;exact SD.vie B1 (gs 5) c_1780_83 K
   ·refine SW.v B1 7 (vs 1) (bm 20 201) rfl rfl rfl (e_val tk K) ?_;exact SD.vie B1 (gs 5) c_1780_89 K
   refine SW.v B1 9 (vp 4 8) (bm 20 585) rfl rfl rfl (e_val tk K) ?_;exact SD.vie B1 (gs 5) c_1780_91 K
  refine SD.lay 16 (bm 20 1545) [(1,vp 4 0),(7,vp 4 0),(10,vp 4 7),(17,vs 3)] [.rd 5 R_Attribute B0.DB,.rd 3 R_Prepared B0.Queue,.rd 2 R_Subscription B0.Subs,.rd 12 R_AttPDU B0.Out,.blk 30 (C_Server B0 (.s 0) (.s 1) (.s 2) (.s 3))] ?_ (fun c_1780_93=>?_)
  ·refine SD.all3 (i:=1) (j:=4) (k:=6) K ?_ ?_ ?_
   ·refine SW.v B1 1 (vs 0) (bm 20 1547) rfl rfl rfl (e_val tk K) ?_;exact SD.vie B1 (gs 5) c_1780_66 K
   ·refine SW.v B1 4 (vs 2) (bm 20 1561) rfl rfl rfl (e_val tk K) ?_;exact SD.vie B1 (gs 5) c_1780_84 K
   refine SW.v B1 6 (vp 4 4) (bm 20 1609) rfl rfl rfl (e_val tk K) ?_;exact SD.vie B1 (gs 5) c_1780_90 K
  refine SD.lay 17 (bm 20 521) [(1,vp 4 0),(7,vp 4 0),(10,vp 4 7),(16,vp 4 8)] [.rd 5 R_Attribute B0.DB,.rd 3 R_Prepared B0.Queue,.rd 2 R_Subscription B0.Subs,.rd 12 R_AttPDU B0.Out,.blk 30 (C_Server B0 (.s 0) (.s 1) (.s 2) (.s 3))] ?_ (fun c_1780_94=>?_)
  ·refine SD.all4 (i:=1) (j:=4) (k:=6) (m:=10) K ?_ ?_ ?_ ?_
   ·refine SW.v B1 1 (vs 0) (bm 20 523) rfl rfl rfl (e_val tk K) ?_;exact SD.vie B1 (gs 5) c_1780_67 K
   ·refine SW.v B1 4 (vs 2) (bm 20 537) rfl rfl rfl (e_val tk K) ?_;exact SD.vie B1 (gs 5) c_1780_85 K
   ·refine SW.v B1 6 (vp 4 4) (bm 20 585) rfl rfl rfl (e_val tk K) ?_;exact SD.vie B1 (gs 5) c_1780_91 K
   refine SW.v B1 10 (vs 3) (bm 20 1545) rfl rfl rfl (e_val tk K) ?_;exact SD.vie B1 (gs 5) c_1780_93 K
  refine SD.lay 18 (bm 20 9) [(1,vp 4 0),(7,vp 4 0),(10,vp 4 7)] [.rd 5 R_Attribute B0.DB,.rd 3 R_Prepared B0.Queue,.rd 2 R_Subscription B0.Subs,.rd 12 R_AttPDU B0.Out,.blk 30 (C_Server B0 (.s 0) (.s 1) (.s 2) (.s 3))] ?_ (fun c_1780_95=>?_)
  ·refine SD.all4 (i:=1) (j:=4) (k:=6) (m:=9) K ?_ ?_ ?_ ?_
   ·refine SW.v B1 1 (vs 0) (bm 20 11) rfl rfl rfl (e_val tk K) ?_;exact SD.vie B1 (gs 5) c_1780_68 K
   ·refine SW.v B1 4 (vs 2) (bm 20 25) rfl rfl rfl (e_val tk K) ?_;exact SD.vie B1 (gs 5) c_1780_86 K
   ·refine SW.v B1 6 (vp 4 4) (bm 20 73) rfl rfl rfl (e_val tk K) ?_;exact SD.vie B1 (gs 5) c_1780_92 K
   refine SW.v B1 9 (vp 4 8) (bm 20 521) rfl rfl rfl (e_val tk K) ?_;exact SD.vie B1 (gs 5) c_1780_94 K
  refine SD.lay 15 (bm 20 1729) [(1,vp 4 0),(7,vp 4 0),(14,vs 1),(17,vs 3)] [.rd 5 R_Attribute B0.DB,.rd 3 R_Prepared B0.Queue,.rd 2 R_Subscription B0.Subs,.rd 12 R_AttPDU B0.Out,.blk 30 (C_Server B0 (.s 0) (.s 1) (.s 2) (.s 3))] ?_ (fun c_1780_96=>?_)
  ·refine SD.all2 (i:=1) (j:=3) K ?_ ?_
   ·refine SW.v B1 1 (vs 0) (bm 20 1731) rfl rfl rfl (e_val tk K) ?_;exact SD.vie B1 (gs 5) c_1780_69 K
   refine SW.v B1 3 (vp 4 7) (bm 20 1737) rfl rfl rfl (e_val tk K) ?_;exact SD.vie B1 (gs 5) c_1780_87 K
  refine SD.lay 16 (bm 20 705) [(1,vp 4 0),(7,vp 4 0),(14,vs 1),(16,vp 4 8)] [.rd 5 R_Attribute B0.DB,.rd 3 R_Prepared B0.Queue,.rd 2 R_Subscription B0.Subs,.rd 12 R_AttPDU B0.Out,.blk 30 (C_Server B0 (.s 0) (.s 1) (.s 2) (.s 3))] ?_ (fun c_1780_97=>?_)
  ·refine SD.all3 (i:=1) (j:=3) (k:=10) K ?_ ?_ ?_
   ·refine SW.v B1 1 (vs 0) (bm 20 707) rfl rfl rfl (e_val tk K) ?_;exact SD.vie B1 (gs 5) c_1780_70 K
   ·refine SW.v B1 3 (vp 4 7) (bm 20 713) rfl rfl rfl (e_val tk K) ?_;exact SD.vie B1 (gs 5) c_1780_88 K
   refine SW.v B1 10 (vs 3) (bm 20 1729) rfl rfl rfl (e_val tk K) ?_;exact SD.vie B1 (gs 5) c_1780_96 K
  refine SD.lay 17 (bm 20 193) [(1,vp 4 0),(7,vp 4 0),(14,vs 1)] [.rd 5 R_Attribute B0.DB,.rd 3 R_Prepared B0.Queue,.rd 2 R_Subscription B0.Subs,.rd 12 R_AttPDU B0.Out,.blk 30 (C_Server B0 (.s 0) (.s 1) (.s 2) (.s 3))] ?_ (fun c_1780_98=>?_)
  ·refine SD.all3 (i:=1) (j:=3) (k:=9) K ?_ ?_ ?_
   ·refine SW.v B1 1 (vs 0) (bm 20 195) rfl rfl rfl (e_val tk K) ?_;exact SD.vie B1 (gs 5) c_1780_71 K
   ·refine SW.v B1 3 (vp 4 7) (bm 20 201) rfl rfl rfl (e_val tk K) ?_;exact SD.vie B1 (gs 5) c_1780_89 K
   refine SW.v B1 9 (vp 4 8) (bm 20 705) rfl rfl rfl (e_val tk K) ?_;exact SD.vie B1 (gs 5) c_1780_97 K
  refine SD.lay 16 (bm 20 1601) [(1,vp 4 0),(7,vp 4 0),(13,vp 4 4),(17,vs 3)] [.rd 5 R_Attribute B0.DB,.rd 3 R_Prepared B0.Queue,.rd 2 R_Subscription B0.Subs,.rd 12 R_AttPDU B0.Out,.blk 30 (C_Server B0 (.s 0) (.s 1) (.s 2) (.s 3))] ?_ (fun c_1780_99=>?_)
  ·refine SD.all3 (i:=1) (j:=3) (k:=7) K ?_ ?_ ?_
   ·refine SW.v B1 1 (vs 0) (bm 20 1603) rfl rfl rfl (e_val tk K) ?_;exact SD.vie B1 (gs 5) c_1780_72 K
   ·refine SW.v B1 3 (vp 4 7) (bm 20 1609) rfl rfl rfl (e_val tk K) ?_;exact SD.vie B1 (gs 5) c_1780_90 K
   refine SW.v B1 7 (vs 1) (bm 20 1729) rfl rfl rfl (e_val tk K) ?_;exact SD.vie B1 (gs 5) c_1780_96 K
  refine SD.lay 17 (bm 20 577) [(1,vp 4 0),(7,vp 4 0),(13,vp 4 4),(16,vp 4 8)] [.rd 5 R_Attribute B0.DB,.rd 3 R_Prepared B0.Queue,.rd 2 R_Subscription B0.Subs,.rd 12 R_AttPDU B0.Out,.blk 30 (C_Server B0 (.s 0) (.s 1) (.s 2) (.s 3))] ?_ (fun c_1780_100=>?_)
  ·refine SD.all4 (i:=1) (j:=3) (k:=7) (m:=10) K ?_ ?_ ?_ ?_
   ·refine SW.v B1 1 (vs 0) (bm 20 579) rfl rfl rfl (e_val tk K) ?_;exact SD.vie B1 (gs 5) c_1780_73 K
   ·refine SW.v B1 3 (vp 4 7) (bm 20 585) rfl rfl rfl (e_val tk K) ?_;exact SD.vie B1 (gs 5) c_1780_91 K
   ·refine SW.v B1 7 (vs 1) (bm 20 705) rfl rfl rfl (e_val tk K) ?_;exact SD.vie B1 (gs 5) c_1780_97 K
   refine SW.v B1 10 (vs 3) (bm 20 1601) rfl rfl rfl (e_val tk K) ?_;exact SD.vie B1 (gs 5) c_1780_99 K
  refine SD.lay 18 (bm 20 65) [(1,vp 4 0),(7,vp 4 0),(13,vp 4 4)] [.rd 5 R_Attribute B0.DB,.rd 3 R_Prepared B0.Queue,.rd 2 R_Subscription B0.Subs,.rd 12 R_AttPDU B0.Out,.blk 30 (C_Server B0 (.s 0) (.s 1) (.s 2) (.s 3))] ?_ (fun c_1780_101=>?_)
  ·refine SD.all4 (i:=1) (j:=3) (k:=7) (m:=9) K ?_ ?_ ?_ ?_
   ·refine SW.v B1 1 (vs 0) (bm 20 67) rfl rfl rfl (e_val tk K) ?_;exact SD.vie B1 (gs 5) c_1780_74 K
   ·refine SW.v B1 3 (vp 4 7) (bm 20 73) rfl rfl rfl (e_val tk K) ?_;exact SD.vie B1 (gs 5) c_1780_92 K
   ·refine SW.v B1 7 (vs 1) (bm 20 193) rfl rfl rfl (e_val tk K) ?_;exact SD.vie B1 (gs 5) c_1780_98 K
   refine SW.v B1 9 (vp 4 8) (bm 20 577) rfl rfl rfl (e_val tk K) ?_;exact SD.vie B1 (gs 5) c_1780_100 K
  refine SD.lay 17 (bm 20 1537) [(1,vp 4 0),(7,vp 4 0),(17,vs 3)] [.rd 5 R_Attribute B0.DB,.rd 3 R_Prepared B0.Queue,.rd 2 R_Subscription B0.Subs,.rd 12 R_AttPDU B0.Out,.blk 30 (C_Server B0 (.s 0) (.s 1) (.s 2) (.s 3))] ?_ (fun c_1780_102=>?_)
  ·refine SD.all3 (i:=1) (j:=3) (k:=6) K ?_ ?_ ?_
   ·refine SW.v B1 1 (vs 0) (bm 20 1539) rfl rfl rfl (e_val tk K) ?_;exact SD.vie B1 (gs 5) c_1780_75 K
   ·refine SW.v B1 3 (vp 4 7) (bm 20 1545) rfl rfl rfl (e_val tk K) ?_;exact SD.vie B1 (gs 5) c_1780_93 K
   refine SW.v B1 6 (vp 4 4) (bm 20 1601) rfl rfl rfl (e_val tk K) ?_;exact SD.vie B1 (gs 5) c_1780_99 K
  refine SD.lay 18 (bm 20 513) [(1,vp 4 0),(7,vp 4 0),(16,vp 4 8)] [.rd 5 R_Attribute B0.DB,.rd 3 R_Prepared B0.Queue,.rd 2 R_Subscription B0.Subs,.rd 12 R_AttPDU B0.Out,.blk 30 (C_Server B0 (.s 0) (.s 1) (.s 2) (.s 3))] ?_ (fun c_1780_103=>?_)
  ·refine SD.all4 (i:=1) (j:=3) (k:=6) (m:=10) K ?_ ?_ ?_ ?_
   ·refine SW.v B1 1 (vs 0) (bm 20 515) rfl rfl rfl (e_val tk K) ?_;exact SD.vie B1 (gs 5) c_1780_76 K
   ·refine SW.v B1 3 (vp 4 7) (bm 20 521) rfl rfl rfl (e_val tk K) ?_;exact SD.vie B1 (gs 5) c_1780_94 K
   ·refine SW.v B1 6 (vp 4 4) (bm 20 577) rfl rfl rfl (e_val tk K) ?_;exact SD.vie B1 (gs 5) c_1780_100 K
   refine SW.v B1 10 (vs 3) (bm 20 1537) rfl rfl rfl (e_val tk K) ?_;exact SD.vie B1 (gs 5) c_1780_102 K
  refine SD.lay 19 (bm 20 1) [(1,vp 4 0),(7,vp 4 0)] [.rd 5 R_Attribute B0.DB,.rd 3 R_Prepared B0.Queue,.rd 2 R_Subscription B0.Subs,.rd 12 R_AttPDU B0.Out,.blk 30 (C_Server B0 (.s 0) (.s 1) (.s 2) (.s 3))] ?_ (fun c_1780_104=>?_)
  ·refine SD.all4 (i:=1) (j:=3) (k:=6) (m:=9) K ?_ ?_ ?_ ?_
   ·refine SW.v B1 1 (vs 0) (bm 20 3) rfl rfl rfl (e_val tk K) ?_;exact SD.vie B1 (gs 5) c_1780_77 K
   ·refine SW.v B1 3 (vp 4 7) (bm 20 9) rfl rfl rfl (e_val tk K) ?_;exact SD.vie B1 (gs 5) c_1780_95 K
   ·refine SW.v B1 6 (vp 4 4) (bm 20 65) rfl rfl rfl (e_val tk K) ?_;exact SD.vie B1 (gs 5) c_1780_101 K
   refine SW.v B1 9 (vp 4 8) (bm 20 513) rfl rfl rfl (e_val tk K) ?_;exact SD.vie B1 (gs 5) c_1780_103 K
  refine SD.lay 14 (bm 20 1752) [(1,vp 4 0),(11,vs 2),(14,vs 1),(17,vs 3)] [.rd 5 R_Attribute B0.DB,.rd 3 R_Prepared B0.Queue,.rd 2 R_Subscription B0.Subs,.rd 12 R_AttPDU B0.Out,.blk 30 (C_Server B0 (.s 0) (.s 1) (.s 2) (.s 3))] ?_ (fun c_1780_105=>?_)
  ·refine SD.all1 (i:=0) K ?_;refine SW.v B1 0 (vp 4 0) (bm 20 1753) rfl rfl rfl (e_val tk K) ?_;exact SD.vie B1 (gs 5) c_1780_78 K
  refine SD.lay 15 (bm 20 728) [(1,vp 4 0),(11,vs 2),(14,vs 1),(16,vp 4 8)] [.rd 5 R_Attribute B0.DB,.rd 3 R_Prepared B0.Queue,.rd 2 R_Subscription B0.Subs,.rd 12 R_AttPDU B0.Out,.blk 30 (C_Server B0 (.s 0) (.s 1) (.s 2) (.s 3))] ?_ (fun c_1780_106=>?_)
  ·refine SD.all2 (i:=0) (j:=10) K ?_ ?_
   ·refine SW.v B1 0 (vp 4 0) (bm 20 729) rfl rfl rfl (e_val tk K) ?_;exact SD.vie B1 (gs 5) c_1780_79 K
   refine SW.v B1 10 (vs 3) (bm 20 1752) rfl rfl rfl (e_val tk K) ?_;exact SD.vie B1 (gs 5) c_1780_105 K
  refine SD.lay 16 (bm 20 216) [(1,vp 4 0),(11,vs 2),(14,vs 1)] [.rd 5 R_Attribute B0.DB,.rd 3 R_Prepared B0.Queue,.rd 2 R_Subscription B0.Subs,.rd 12 R_AttPDU B0.Out,.blk 30 (C_Server B0 (.s 0) (.s 1) (.s 2) (.s 3))] ?_ (fun c_1780_107=>?_)
  ·refine SD.all2 (i:=0) (j:=9) K ?_ ?_
   ·refine SW.v B1 0 (vp 4 0) (bm 20 217) rfl rfl rfl (e_val tk K) ?_;exact SD.vie B1 (gs 5) c_1780_80 K
   refine SW.v B1 9 (vp 4 8) (bm 20 728) rfl rfl rfl (e_val tk K) ?_;exact SD.vie B1 (gs 5) c_1780_106 K
  refine SD.lay 15 (bm 20 1624) [(1,vp 4 0),(11,vs 2),(13,vp 4 4),(17,vs 3)] [.rd 5 R_Attribute B0.DB,.rd 3 R_Prepared B0.Queue,.rd 2 R_Subscription B0.Subs,.rd 12 R_AttPDU B0.Out,.blk 30 (C_Server B0 (.s 0) (.s 1) (.s 2) (.s 3))] ?_ (fun c_1780_108=>?_)
  ·refine SD.all2 (i:=0) (j:=7) K ?_ ?_
   ·refine SW.v B1 0 (vp 4 0) (bm 20 1625) rfl rfl rfl (e_val tk K) ?_;exact SD.vie B1 (gs 5) c_1780_81 K
   refine SW.v B1 7 (vs 1) (bm 20 1752) rfl rfl rfl (e_val tk K) ?_;exact SD.vie B1 (gs 5) c_1780_105 K
  refine SD.lay 16 (bm 20 600) [(1,vp 4 0),(11,vs 2),(13,vp 4 4),(16,vp 4 8)] [.rd 5 R_Attribute B0.DB,.rd 3 R_Prepared B0.Queue,.rd 2 R_Subscription B0.Subs,.rd 12 R_AttPDU B0.Out,.blk 30 (C_Server B0 (.s 0) (.s 1) (.s 2) (.s 3))] ?_ (fun c_1780_109=>?_)
  ·refine SD.all3 (i:=0) (j:=7) (k:=10) K ?_ ?_ ?_
   ·refine SW.v B1 0 (vp 4 0) (bm 20 601) rfl rfl rfl (e_val tk K) ?_;exact SD.vie B1 (gs 5) c_1780_82 K
   ·refine SW.v B1 7 (vs 1) (bm 20 728) rfl rfl rfl (e_val tk K) ?_;exact SD.vie B1 (gs 5) c_1780_106 K
   refine SW.v B1 10 (vs 3) (bm 20 1624) rfl rfl rfl (e_val tk K) ?_;exact SD.vie B1 (gs 5) c_1780_108 K
  refine SD.lay 17 (bm 20 88) [(1,vp 4 0),(11,vs 2),(13,vp 4 4)] [.rd 5 R_Attribute B0.DB,.rd 3 R_Prepared B0.Queue,.rd 2 R_Subscription B0.Subs,.rd 12 R_AttPDU B0.Out,.blk 30 (C_Server B0 (.s 0) (.s 1) (.s 2) (.s 3))] ?_ (fun c_1780_110=>?_)
  ·refine SD.all3 (i:=0) (j:=7) (k:=9) K ?_ ?_ ?_
   ·refine SW.v B1 0 (vp 4 0) (bm 20 89) rfl rfl rfl (e_val tk K) ?_;exact SD.vie B1 (gs 5) c_1780_83 K
   ·refine SW.v B1 7 (vs 1) (bm 20 216) rfl rfl rfl (e_val tk K) ?_;exact SD.vie B1 (gs 5) c_1780_107 K
   refine SW.v B1 9 (vp 4 8) (bm 20 600) rfl rfl rfl (e_val tk K) ?_;exact SD.vie B1 (gs 5) c_1780_109 K
  refine SD.lay 16 (bm 20 1560) [(1,vp 4 0),(11,vs 2),(17,vs 3)] [.rd 5 R_Attribute B0.DB,.rd 3 R_Prepared B0.Queue,.rd 2 R_Subscription B0.Subs,.rd 12 R_AttPDU B0.Out,.blk 30 (C_Server B0 (.s 0) (.s 1) (.s 2) (.s 3))] ?_ (fun c_1780_111=>?_)
  ·refine SD.all2 (i:=0) (j:=6) K ?_ ?_
   ·refine SW.v B1 0 (vp 4 0) (bm 20 1561) rfl rfl rfl (e_val tk K) ?_;exact SD.vie B1 (gs 5) c_1780_84 K
   refine SW.v B1 6 (vp 4 4) (bm 20 1624) rfl rfl rfl (e_val tk K) ?_;exact SD.vie B1 (gs 5) c_1780_108 K
  refine SD.lay 17 (bm 20 536) [(1,vp 4 0),(11,vs 2),(16,vp 4 8)] [.rd 5 R_Attribute B0.DB,.rd 3 R_Prepared B0.Queue,.rd 2 R_Subscription B0.Subs,.rd 12 R_AttPDU B0.Out,.blk 30 (C_Server B0 (.s 0) (.s 1) (.s 2) (.s 3))] ?_ (fun c_1780_112=>?_)
  ·refine SD.all3 (i:=0) (j:=6) (k:=10) K ?_ ?_ ?_
   ·refine SW.v B1 0 (vp 4 0) (bm 20 537) rfl rfl rfl (e_val tk K) ?_;exact SD.vie B1 (gs 5) c_1780_85 K
   ·refine SW.v B1 6 (vp 4 4) (bm 20 600) rfl rfl rfl (e_val tk K) ?_;exact SD.vie B1 (gs 5) c_1780_109 K
   refine SW.v B1 10 (vs 3) (bm 20 1560) rfl rfl rfl (e_val tk K) ?_;exact SD.vie B1 (gs 5) c_1780_111 K
  refine SD.lay 18 (bm 20 24) [(1,vp 4 0),(11,vs 2)] [.rd 5 R_Attribute B0.DB,.rd 3 R_Prepared B0.Queue,.rd 2 R_Subscription B0.Subs,.rd 12 R_AttPDU B0.Out,.blk 30 (C_Server B0 (.s 0) (.s 1) (.s 2) (.s 3))] ?_ (fun c_1780_113=>?_)
  ·refine SD.all3 (i:=0) (j:=6) (k:=9) K ?_ ?_ ?_
   ·refine SW.v B1 0 (vp 4 0) (bm 20 25) rfl rfl rfl (e_val tk K) ?_;exact SD.vie B1 (gs 5) c_1780_86 K
   ·refine SW.v B1 6 (vp 4 4) (bm 20 88) rfl rfl rfl (e_val tk K) ?_;exact SD.vie B1 (gs 5) c_1780_110 K
   refine SW.v B1 9 (vp 4 8) (bm 20 536) rfl rfl rfl (e_val tk K) ?_;exact SD.vie B1 (gs 5) c_1780_112 K
  refine SD.lay 15 (bm 20 1736) [(1,vp 4 0),(10,vp 4 7),(14,vs 1),(17,vs 3)] [.rd 5 R_Attribute B0.DB,.rd 3 R_Prepared B0.Queue,.rd 2 R_Subscription B0.Subs,.rd 12 R_AttPDU B0.Out,.blk 30 (C_Server B0 (.s 0) (.s 1) (.s 2) (.s 3))] ?_ (fun c_1780_114=>?_)
  ·refine SD.all2 (i:=0) (j:=4) K ?_ ?_
   ·refine SW.v B1 0 (vp 4 0) (bm 20 1737) rfl rfl rfl (e_val tk K) ?_;exact SD.vie B1 (gs 5) c_1780_87 K
   refine SW.v B1 4 (vs 2) (bm 20 1752) rfl rfl rfl (e_val tk K) ?_;exact SD.vie B1 (gs 5) c_1780_105 K
  refine SD.lay 16 (bm 20 712) [(1,vp 4 0),(10,vp 4 7),(14,vs 1),(16,vp 4 8)] [.rd 5 R_Attribute B0.DB,.rd 3 R_Prepared B0.Queue,.rd 2 R_Subscription B0.Subs,.rd 12 R_AttPDU B0.Out,.blk 30 (C_Server B0 (.s 0) (.s 1) (.s 2) (.s 3))] ?_ (fun c_1780_115=>?_)
  ·refine SD.all3 (i:=0) (j:=4) (k:=10) K ?_ ?_ ?_
   ·refine SW.v B1 0 (vp 4 0) (bm 20 713) rfl rfl rfl (e_val tk K) ?_;exact SD.vie B1 (gs 5) c_1780_88 K
   ·refine SW.v B1 4 (vs 2) (bm 20 728) rfl rfl rfl (e_val tk K) ?_;exact SD.vie B1 (gs 5) c_1780_106 K
   refine SW.v B1 10 (vs 3) (bm 20 1736) rfl rfl rfl (e_val tk K) ?_;exact SD.vie B1 (gs 5) c_1780_114 K
  refine SD.lay 17 (bm 20 200) [(1,vp 4 0),(10,vp 4 7),(14,vs 1)] [.rd 5 R_Attribute B0.DB,.rd 3 R_Prepared B0.Queue,.rd 2 R_Subscription B0.Subs,.rd 12 R_AttPDU B0.Out,.blk 30 (C_Server B0 (.s 0) (.s 1) (.s 2) (.s 3))] ?_ (fun c_1780_116=>?_)
  ·refine SD.all3 (i:=0) (j:=4) (k:=9) K ?_ ?_ ?_
   ·refine SW.v B1 0 (vp 4 0) (bm 20 201) rfl rfl rfl (e_val tk K) ?_;exact SD.vie B1 (gs 5) c_1780_89 K
   ·refine SW.v B1 4 (vs 2) (bm 20 216) rfl rfl rfl (e_val tk K) ?_;exact SD.vie B1 (gs 5) c_1780_107 K
   refine SW.v B1 9 (vp 4 8) (bm 20 712) rfl rfl rfl (e_val tk K) ?_;exact SD.vie B1 (gs 5) c_1780_115 K
  refine SD.lay 16 (bm 20 1608) [(1,vp 4 0),(10,vp 4 7),(13,vp 4 4),(17,vs 3)] [.rd 5 R_Attribute B0.DB,.rd 3 R_Prepared B0.Queue,.rd 2 R_Subscription B0.Subs,.rd 12 R_AttPDU B0.Out,.blk 30 (C_Server B0 (.s 0) (.s 1) (.s 2) (.s 3))] ?_ (fun c_1780_117=>?_)
  ·refine SD.all3 (i:=0) (j:=4) (k:=7) K ?_ ?_ ?_
   ·refine SW.v B1 0 (vp 4 0) (bm 20 1609) rfl rfl rfl (e_val tk K) ?_;exact SD.vie B1 (gs 5) c_1780_90 K
   ·refine SW.v B1 4 (vs 2) (bm 20 1624) rfl rfl rfl (e_val tk K) ?_;exact SD.vie B1 (gs 5) c_1780_108 K
   refine SW.v B1 7 (vs 1) (bm 20 1736) rfl rfl rfl (e_val tk K) ?_;exact SD.vie B1 (gs 5) c_1780_114 K
  refine SD.lay 17 (bm 20 584) [(1,vp 4 0),(10,vp 4 7),(13,vp 4 4),(16,vp 4 8)] [.rd 5 R_Attribute B0.DB,.rd 3 R_Prepared B0.Queue,.rd 2 R_Subscription B0.Subs,.rd 12 R_AttPDU B0.Out,.blk 30 (C_Server B0 (.s 0) (.s 1) (.s 2) (.s 3))] ?_ (fun c_1780_118=>?_)
  ·refine SD.all4 (i:=0) (j:=4) (k:=7) (m:=10) K ?_ ?_ ?_ ?_
   ·refine SW.v B1 0 (vp 4 0) (bm 20 585) rfl rfl rfl (e_val tk K) ?_;exact SD.vie B1 (gs 5) c_1780_91 K
   ·refine SW.v B1 4 (vs 2) (bm 20 600) rfl rfl rfl (e_val tk K) ?_;exact SD.vie B1 (gs 5) c_1780_109 K
   ·refine SW.v B1 7 (vs 1) (bm 20 712) rfl rfl rfl (e_val tk K) ?_;exact SD.vie B1 (gs 5) c_1780_115 K
   refine SW.v B1 10 (vs 3) (bm 20 1608) rfl rfl rfl (e_val tk K) ?_;exact SD.vie B1 (gs 5) c_1780_117 K
  refine SD.lay 18 (bm 20 72) [(1,vp 4 0),(10,vp 4 7),(13,vp 4 4)] [.rd 5 R_Attribute B0.DB,.rd 3 R_Prepared B0.Queue,.rd 2 R_Subscription B0.Subs,.rd 12 R_AttPDU B0.Out,.blk 30 (C_Server B0 (.s 0) (.s 1) (.s 2) (.s 3))] ?_ (fun c_1780_119=>?_)
  ·refine SD.all4 (i:=0) (j:=4) (k:=7) (m:=9) K ?_ ?_ ?_ ?_
   ·refine SW.v B1 0 (vp 4 0) (bm 20 73) rfl rfl rfl (e_val tk K) ?_;exact SD.vie B1 (gs 5) c_1780_92 K
   ·refine SW.v B1 4 (vs 2) (bm 20 88) rfl rfl rfl (e_val tk K) ?_;exact SD.vie B1 (gs 5) c_1780_110 K
   ·refine SW.v B1 7 (vs 1) (bm 20 200) rfl rfl rfl (e_val tk K) ?_;exact SD.vie B1 (gs 5) c_1780_116 K
   refine SW.v B1 9 (vp 4 8) (bm 20 584) rfl rfl rfl (e_val tk K) ?_;exact SD.vie B1 (gs 5) c_1780_118 K
  refine SD.lay 17 (bm 20 1544) [(1,vp 4 0),(10,vp 4 7),(17,vs 3)] [.rd 5 R_Attribute B0.DB,.rd 3 R_Prepared B0.Queue,.rd 2 R_Subscription B0.Subs,.rd 12 R_AttPDU B0.Out,.blk 30 (C_Server B0 (.s 0) (.s 1) (.s 2) (.s 3))] ?_ (fun c_1780_120=>?_)
  ·refine SD.all3 (i:=0) (j:=4) (k:=6) K ?_ ?_ ?_
   ·refine SW.v B1 0 (vp 4 0) (bm 20 1545) rfl rfl rfl (e_val tk K) ?_;exact SD.vie B1 (gs 5) c_1780_93 K
   ·refine SW.v B1 4 (vs 2) (bm 20 1560) rfl rfl rfl (e_val tk K) ?_;exact SD.vie B1 (gs 5) c_1780_111 K
   refine SW.v B1 6 (vp 4 4) (bm 20 1608) rfl rfl rfl (e_val tk K) ?_;exact SD.vie B1 (gs 5) c_1780_117 K
  refine SD.lay 18 (bm 20 520) [(1,vp 4 0),(10,vp 4 7),(16,vp 4 8)] [.rd 5 R_Attribute B0.DB,.rd 3 R_Prepared B0.Queue,.rd 2 R_Subscription B0.Subs,.rd 12 R_AttPDU B0.Out,.blk 30 (C_Server B0 (.s 0) (.s 1) (.s 2) (.s 3))] ?_ (fun c_1780_121=>?_)
  ·refine SD.all4 (i:=0) (j:=4) (k:=6) (m:=10) K ?_ ?_ ?_ ?_
   ·refine SW.v B1 0 (vp 4 0) (bm 20 521) rfl rfl rfl (e_val tk K) ?_;exact SD.vie B1 (gs 5) c_1780_94 K
   ·refine SW.v B1 4 (vs 2) (bm 20 536) rfl rfl rfl (e_val tk K) ?_;exact SD.vie B1 (gs 5) c_1780_112 K
   ·refine SW.v B1 6 (vp 4 4) (bm 20 584) rfl rfl rfl (e_val tk K) ?_;exact SD.vie B1 (gs 5) c_1780_118 K
   refine SW.v B1 10 (vs 3) (bm 20 1544) rfl rfl rfl (e_val tk K) ?_;exact SD.vie B1 (gs 5) c_1780_120 K
  refine SD.lay 19 (bm 20 8) [(1,vp 4 0),(10,vp 4 7)] [.rd 5 R_Attribute B0.DB,.rd 3 R_Prepared B0.Queue,.rd 2 R_Subscription B0.Subs,.rd 12 R_AttPDU B0.Out,.blk 30 (C_Server B0 (.s 0) (.s 1) (.s 2) (.s 3))] ?_ (fun c_1780_122=>?_)
  ·refine SD.all4 (i:=0) (j:=4) (k:=6) (m:=9) K ?_ ?_ ?_ ?_
   ·refine SW.v B1 0 (vp 4 0) (bm 20 9) rfl rfl rfl (e_val tk K) ?_;exact SD.vie B1 (gs 5) c_1780_95 K
   ·refine SW.v B1 4 (vs 2) (bm 20 24) rfl rfl rfl (e_val tk K) ?_;exact SD.vie B1 (gs 5) c_1780_113 K
   ·refine SW.v B1 6 (vp 4 4) (bm 20 72) rfl rfl rfl (e_val tk K) ?_;exact SD.vie B1 (gs 5) c_1780_119 K
   refine SW.v B1 9 (vp 4 8) (bm 20 520) rfl rfl rfl (e_val tk K) ?_;exact SD.vie B1 (gs 5) c_1780_121 K
  refine SD.lay 16 (bm 20 1728) [(1,vp 4 0),(14,vs 1),(17,vs 3)] [.rd 5 R_Attribute B0.DB,.rd 3 R_Prepared B0.Queue,.rd 2 R_Subscription B0.Subs,.rd 12 R_AttPDU B0.Out,.blk 30 (C_Server B0 (.s 0) (.s 1) (.s 2) (.s 3))] ?_ (fun c_1780_123=>?_)
  ·refine SD.all2 (i:=0) (j:=3) K ?_ ?_
   ·refine SW.v B1 0 (vp 4 0) (bm 20 1729) rfl rfl rfl (e_val tk K) ?_;exact SD.vie B1 (gs 5) c_1780_96 K
   refine SW.v B1 3 (vp 4 7) (bm 20 1736) rfl rfl rfl (e_val tk K) ?_;exact SD.vie B1 (gs 5) c_1780_114 K
  refine SD.lay 17 (bm 20 704) [(1,vp 4 0),(14,vs 1),(16,vp 4 8)] [.rd 5 R_Attribute B0.DB,.rd 3 R_Prepared B0.Queue,.rd 2 R_Subscription B0.Subs,.rd 12 R_AttPDU B0.Out,.blk 30 (C_Server B0 (.s 0) (.s 1) (.s 2) (.s 3))] ?_ (fun c_1780_124=>?_)
  ·refine SD.all3 (i:=0) (j:=3) (k:=10) K ?_ ?_ ?_
   ·refine SW.v B1 0 (vp 4 0) (bm 20 705) rfl rfl rfl (e_val tk K) ?_;exact SD.vie B1 (gs 5) c_1780_97 K
   ·refine SW.v B1 3 (vp 4 7) (bm 20 712) rfl rfl rfl (e_val tk K) ?_;exact SD.vie B1 (gs 5) c_1780_115 K
   refine SW.v B1 10 (vs 3) (bm 20 1728) rfl rfl rfl (e_val tk K) ?_;exact SD.vie B1 (gs 5) c_1780_123 K
  refine SD.lay 18 (bm 20 192) [(1,vp 4 0),(14,vs 1)] [.rd 5 R_Attribute B0.DB,.rd 3 R_Prepared B0.Queue,.rd 2 R_Subscription B0.Subs,.rd 12 R_AttPDU B0.Out,.blk 30 (C_Server B0 (.s 0) (.s 1) (.s 2) (.s 3))] ?_ (fun c_1780_125=>?_)
  ·refine SD.all3 (i:=0) (j:=3) (k:=9) K ?_ ?_ ?_
   ·refine SW.v B1 0 (vp 4 0) (bm 20 193) rfl rfl rfl (e_val tk K) ?_;exact SD.vie B1 (gs 5) c_1780_98 K
   ·refine SW.v B1 3 (vp 4 7) (bm 20 200) rfl rfl rfl (e_val tk K) ?_;exact SD.vie B1 (gs 5) c_1780_116 K
   refine SW.v B1 9 (vp 4 8) (bm 20 704) rfl rfl rfl (e_val tk K) ?_;exact SD.vie B1 (gs 5) c_1780_124 K
  refine SD.lay 17 (bm 20 1600) [(1,vp 4 0),(13,vp 4 4),(17,vs 3)] [.rd 5 R_Attribute B0.DB,.rd 3 R_Prepared B0.Queue,.rd 2 R_Subscription B0.Subs,.rd 12 R_AttPDU B0.Out,.blk 30 (C_Server B0 (.s 0) (.s 1) (.s 2) (.s 3))] ?_ (fun c_1780_126=>?_)
  ·refine SD.all3 (i:=0) (j:=3) (k:=7) K ?_ ?_ ?_
   ·refine SW.v B1 0 (vp 4 0) (bm 20 1601) rfl rfl rfl (e_val tk K) ?_;exact SD.vie B1 (gs 5) c_1780_99 K
   ·refine SW.v B1 3 (vp 4 7) (bm 20 1608) rfl rfl rfl (e_val tk K) ?_;exact SD.vie B1 (gs 5) c_1780_117 K
   refine SW.v B1 7 (vs 1) (bm 20 1728) rfl rfl rfl (e_val tk K) ?_;exact SD.vie B1 (gs 5) c_1780_123 K
  refine SD.lay 18 (bm 20 576) [(1,vp 4 0),(13,vp 4 4),(16,vp 4 8)] [.rd 5 R_Attribute B0.DB,.rd 3 R_Prepared B0.Queue,.rd 2 R_Subscription B0.Subs,.rd 12 R_AttPDU B0.Out,.blk 30 (C_Server B0 (.s 0) (.s 1) (.s 2) (.s 3))] ?_ (fun c_1780_127=>?_)
  ·refine SD.all4 (i:=0) (j:=3) (k:=7) (m:=10) K ?_ ?_ ?_ ?_
   ·refine SW.v B1 0 (vp 4 0) (bm 20 577) rfl rfl rfl (e_val tk K) ?_;exact SD.vie B1 (gs 5) c_1780_100 K
   ·refine SW.v B1 3 (vp 4 7) (bm 20 584) rfl rfl rfl (e_val tk K) ?_;exact SD.vie B1 (gs 5) c_1780_118 K
   ·refine SW.v B1 7 (vs 1) (bm 20 704) rfl rfl rfl (e_val tk K) ?_;exact SD.vie B1 (gs 5) c_1780_124 K
   refine SW.v B1 10 (vs 3) (bm 20 1600) rfl rfl rfl (e_val tk K) ?_;exact SD.vie B1 (gs 5) c_1780_126 K
  refine SD.lay 19 (bm 20 64) [(1,vp 4 0),(13,vp 4 4)] [.rd 5 R_Attribute B0.DB,.rd 3 R_Prepared B0.Queue,.rd 2 R_Subscription B0.Subs,.rd 12 R_AttPDU B0.Out,.blk 30 (C_Server B0 (.s 0) (.s 1) (.s 2) (.s 3))] ?_ (fun c_1780_128=>?_)
  ·refine SD.all4 (i:=0) (j:=3) (k:=7) (m:=9) K ?_ ?_ ?_ ?_
   ·refine SW.v B1 0 (vp 4 0) (bm 20 65) rfl rfl rfl (e_val tk K) ?_;exact SD.vie B1 (gs 5) c_1780_101 K
   ·refine SW.v B1 3 (vp 4 7) (bm 20 72) rfl rfl rfl (e_val tk K) ?_;exact SD.vie B1 (gs 5) c_1780_119 K
   ·refine SW.v B1 7 (vs 1) (bm 20 192) rfl rfl rfl (e_val tk K) ?_;exact SD.vie B1 (gs 5) c_1780_125 K
   refine SW.v B1 9 (vp 4 8) (bm 20 576) rfl rfl rfl (e_val tk K) ?_;exact SD.vie B1 (gs 5) c_1780_127 K
  refine SD.lay 18 (bm 20 1536) [(1,vp 4 0),(17,vs 3)] [.rd 5 R_Attribute B0.DB,.rd 3 R_Prepared B0.Queue,.rd 2 R_Subscription B0.Subs,.rd 12 R_AttPDU B0.Out,.blk 30 (C_Server B0 (.s 0) (.s 1) (.s 2) (.s 3))] ?_ (fun c_1780_129=>?_)
  ·refine SD.all3 (i:=0) (j:=3) (k:=6) K ?_ ?_ ?_
   ·refine SW.v B1 0 (vp 4 0) (bm 20 1537) rfl rfl rfl (e_val tk K) ?_;exact SD.vie B1 (gs 5) c_1780_102 K
   ·refine SW.v B1 3 (vp 4 7) (bm 20 1544) rfl rfl rfl (e_val tk K) ?_;exact SD.vie B1 (gs 5) c_1780_120 K
   refine SW.v B1 6 (vp 4 4) (bm 20 1600) rfl rfl rfl (e_val tk K) ?_;exact SD.vie B1 (gs 5) c_1780_126 K
  refine SD.lay 19 (bm 20 512) [(1,vp 4 0),(16,vp 4 8)] [.rd 5 R_Attribute B0.DB,.rd 3 R_Prepared B0.Queue,.rd 2 R_Subscription B0.Subs,.rd 12 R_AttPDU B0.Out,.blk 30 (C_Server B0 (.s 0) (.s 1) (.s 2) (.s 3))] ?_ (fun c_1780_130=>?_)
  ·refine SD.all4 (i:=0) (j:=3) (k:=6) (m:=10) K ?_ ?_ ?_ ?_
   ·refine SW.v B1 0 (vp 4 0) (bm 20 513) rfl rfl rfl (e_val tk K) ?_;exact SD.vie B1 (gs 5) c_1780_103 K
   ·refine SW.v B1 3 (vp 4 7) (bm 20 520) rfl rfl rfl (e_val tk K) ?_;exact SD.vie B1 (gs 5) c_1780_121 K
   ·refine SW.v B1 6 (vp 4 4) (bm 20 576) rfl rfl rfl (e_val tk K) ?_;exact SD.vie B1 (gs 5) c_1780_127 K
   refine SW.v B1 10 (vs 3) (bm 20 1536) rfl rfl rfl (e_val tk K) ?_;exact SD.vie B1 (gs 5) c_1780_129 K
  refine SD.all4 (i:=0) (j:=3) (k:=6) (m:=9) K ?_ ?_ ?_ ?_
  ·refine SW.v B1 0 (vp 4 0) (bm 20 1) rfl rfl rfl (e_val tk K) ?_;exact SD.vie B1 (gs 5) c_1780_104 K
  ·refine SW.v B1 3 (vp 4 7) (bm 20 8) rfl rfl rfl (e_val tk K) ?_;exact SD.vie B1 (gs 5) c_1780_122 K
  ·refine SW.v B1 6 (vp 4 4) (bm 20 64) rfl rfl rfl (e_val tk K) ?_;exact SD.vie B1 (gs 5) c_1780_128 K
  refine SW.v B1 9 (vp 4 8) (bm 20 512) rfl rfl rfl (e_val tk K) ?_;exact SD.vie B1 (gs 5) c_1780_130 K
 rintro a w ⟨B2,hp,h⟩;refine h.go ?_;refine SC.cut (fun a w=>∃(B8:(List T_Prepared)),server_of_j2 F B0 B2 B8=some r∧A 62 4 fx [(1,vp 4 0)] [.gone,.gone,.gone,.gone,.blk 30 (C_Server ({ B0 with DB:=B2.DB,Queue:=B8,Subs:=B2.Subs,Out:=B2.Out }) (.s 5) (.s 6) (.s 7) (.s 8)),.rd 5 R_Attribute B2.DB,.own 3 115 R_Prepared B8,.rd 2 R_Subscription B2.Subs,.own 12 47 R_AttPDU B2.Out] a w) ?_ ?_
 ·refine SC.m tk [(1,vp 4 0),(24,vs 6),(25,J (len B2.Queue)),(26,J 0)] ?_;refine SC.block ?_;obtain⟨o2,hi2,ho2⟩:=bind_inv hp;clear hp;refine SC.loop (fun n a w=>∃(B9:(List T_Prepared)) (B6:Int),iter (fun s=>server_of_l2 F B2 s.1 s.2) n (B9,B6)=some o2∧A 62 4 fx [(1,vp 4 0),(24,vs 6),(25,J (len B2.Queue)),(26,J B6)] [.gone,.gone,.gone,.gone,.blk 30 (C_Server ({ B0 with DB:=B2.DB,Queue:=B9,Subs:=B2.Subs,Out:=B2.Out }) (.s 5) (.s 6) (.s 7) (.s 8)),.rd 5 R_Attribute B2.DB,.own 3 115 R_Prepared B9,.rd 2 R_Subscription B2.Subs,.own 12 47 R_AttPDU B2.Out] a w) F (fun a w h=>⟨B2.Queue,0,hi2,h.at (js:=(gs 9)) K⟩) ?_;rintro n2 a w ⟨B9,B6,hi2,h⟩;obtain⟨n2,q2,rfl,hp,hs2⟩:=iter_inv hi2;replace hp:server_of_l2 F B2 B9 B6=some q2:=hp;clear hi2;refine h.go ?_;refine SC.m tk [(1,vp 4 0),(24,vs 6),(25,J (len B2.Queue)),(26,J B6),(27,vb (decide (B6<(len B2.Queue))))] ?_;refine SC.seq ?_;refine SC.if' rfl hp (fun hp=>?_) (fun hp=>?_)
  ·refine SC.skipThen ?_;refine SC.seq ?_;refine SC.block ?_;refine SC.s ?_;obtain⟨B5,Bv,hp⟩:=bind_inv hp;refine SL.pre (pre_ixo (i:=6) (iv:=B6) (sz:=3) (E:=115) (R:=R_Prepared) (l:=B9) K rfl Bv) ?_;refine SL.sim tk 3 [(1,vp 4 0),(24,vs 6),(25,J (len B2.Queue)),(26,J B6),(28,J B6),(30,.g (C_Prepared B5 (.s 10)))] [] [.el 9] [B6] K ?_;refine SL.pre (pre_kill) ?_;refine SL.eff (e_alloc (E:=115) tk [ci .u16 0,ci .i64 0,nl] K) rfl K ?_;refine SL.sim tk 2 [(1,vp 4 0),(3,J B6),(4,vp 11 0),(24,vs 6),(25,J (len B2.Queue)),(26,J B6)] [(11,115,(C_Prepared B5 (.s 10)))] [] [] K ?_;refine SL.nilThen ?_;refine SC.draw MO (bm 12 3488) K fun E2 Bc=>?_;refine SD.takes tk Bc [] kn0 [2,3,4] [] [] (bm 10 28) [(1,vp 4 0),(24,vs 6),(25,J (len B2.Queue)),(26,J B6),(33,J B6),(35,vs 10)] rfl K K K ?_;obtain⟨Bi,Bm,hp⟩:=bind_inv hp;obtain⟨E3,Br,hp⟩:=bind_inv hp;obtain⟨Bs,Bw,hp⟩:=bind_inv hp;obtain⟨Bn,Bx,hp⟩:=bind_inv hp;refine SD.lay 0 (bm 10 1023) [(1,vp 4 0),(24,vs 6),(25,J (len B2.Queue)),(26,J B6)] [.gone,.gone,.gone,.gone,.blk 30 (C_Server ({ B0 with DB:=B2.DB,Queue:=Bn,Subs:=B2.Subs,Out:=B2.Out }) (.s 5) (.s 6) (.s 7) (.s 8)),.rd 5 R_Attribute B2.DB,.own 3 115 R_Prepared Bn,.rd 2 R_Subscription B2.Subs,.own 12 47 R_AttPDU B2.Out,.gone,.rd 1 R8 B5.Value,.blk 115 (C_Prepared B5 (.s 10))] ?_ (fun c_898_0=>?_)
   ·refine SD.doneThen K ?_;refine SC.reg ?_;refine SL.m tk 2 [(1,vp 4 0),(24,vs 6),(25,J (len B2.Queue)),(26,J (w64 (B6+1)))] ?_;refine SL.nilJ fun a w h=>?_;exact⟨n2,Nat.lt_succ_self _,Bn,w64 (B6+1),next_inv hp hs2,h.at (js:=(gs 9)) K⟩
   refine SD.lay 1 (bm 10 511) [(1,vp 4 0),(24,vs 6),(25,J (len B2.Queue)),(26,J B6),(37,vs 13),(39,vp 6 (B6.toNat * 3+2))] [.gone,.gone,.gone,.gone,.blk 30 (C_Server ({ B0 with DB:=B2.DB,Queue:=B9,Subs:=B2.Subs,Out:=B2.Out }) (.s 5) (.s 6) (.s 7) (.s 8)),.rd 5 R_Attribute B2.DB,.own 3 115 R_Prepared B9,.rd 2 R_Subscription B2.Subs,.own 12 47 R_AttPDU B2.Out,.gone,.rd 1 R8 B5.Value,.blk 115 (C_Prepared B5 (.s 10)),.gone,.rd 1 R8 Bi] ?_ (fun c_898_1=>?_)
   ·refine SD.all1 (i:=9) K ?_;refine SW.effX Bc (i:=9) (bs':=(bm 10 1023)) rfl (e_stf (sz:=3) (E:=115) (R:=R_Prepared) (i:=6) (o:=2) (iv:=B6) (l:=B9) (e:={ Bs with Value:=Bi }) tk rfl rfl Bw rfl rfl rfl K (clo_T_Prepared (x:={ Bs with Value:=Bi }) (Clo.sl K)) K K Bx) rfl K ?_;exact SD.vie Bc (gs 12) c_898_0 K
   refine SD.lay 2 (bm 10 255) [(1,vp 4 0),(24,vs 6),(25,J (len B2.Queue)),(26,J B6),(37,vs 13),(38,vp 6 (B6.toNat * 3))] [.gone,.gone,.gone,.gone,.blk 30 (C_Server ({ B0 with DB:=B2.DB,Queue:=B9,Subs:=B2.Subs,Out:=B2.Out }) (.s 5) (.s 6) (.s 7) (.s 8)),.rd 5 R_Attribute B2.DB,.own 3 115 R_Prepared B9,.rd 2 R_Subscription B2.Subs,.own 12 47 R_AttPDU B2.Out,.gone,.rd 1 R8 B5.Value,.blk 115 (C_Prepared B5 (.s 10)),.gone,.rd 1 R8 Bi] ?_ (fun c_898_2=>?_)
   ·refine SD.all1 (i:=8) K ?_;refine SW.f Bc 8 (bm 10 511) rfl rfl rfl (e_fap (off:=2) (iv:=B6) tk rfl rfl Br K) ?_;exact SD.vie Bc [.g 0,.g 1,.g 2,.g 3,.g 4,.g 5,.g 6,.g 7,.g 8,.g 9,.g 10,.g 11,.n,.g 13] c_898_1 K
   refine SD.lay 3 (bm 10 127) [(1,vp 4 0),(24,vs 6),(25,J (len B2.Queue)),(26,J B6),(32,vs 6),(33,J B6),(37,vs 13)] [.gone,.gone,.gone,.gone,.blk 30 (C_Server ({ B0 with DB:=B2.DB,Queue:=B9,Subs:=B2.Subs,Out:=B2.Out }) (.s 5) (.s 6) (.s 7) (.s 8)),.rd 5 R_Attribute B2.DB,.own 3 115 R_Prepared B9,.rd 2 R_Subscription B2.Subs,.own 12 47 R_AttPDU B2.Out,.gone,.rd 1 R8 B5.Value,.blk 115 (C_Prepared B5 (.s 10)),.gone,.rd 1 R8 Bi] ?_ (fun c_898_3=>?_)
   ·refine SD.all1 (i:=7) K ?_;refine SW.f Bc 7 (bm 10 255) rfl rfl rfl (e_ixp (sz:=3) (E:=115) (R:=R_Prepared) (by_:=40) (l:=B9) tk rfl rfl rfl Br K) ?_;exact SD.vie Bc [.g 0,.g 1,.g 2,.g 3,.g 4,.g 5,.g 6,.g 7,.g 8,.g 9,.g 10,.g 11,.n,.g 13] c_898_2 K
   refine SD.lay 4 (bm 10 63) [(1,vp 4 0),(24,vs 6),(25,J (len B2.Queue)),(26,J B6),(32,vs 6),(33,J B6),(36,vs 12)] [.gone,.gone,.gone,.gone,.blk 30 (C_Server ({ B0 with DB:=B2.DB,Queue:=B9,Subs:=B2.Subs,Out:=B2.Out }) (.s 5) (.s 6) (.s 7) (.s 8)),.rd 5 R_Attribute B2.DB,.own 3 115 R_Prepared B9,.rd 2 R_Subscription B2.Subs,.own 12 47 R_AttPDU B2.Out,.gone,.rd 1 R8 B5.Value,.blk 115 (C_Prepared B5 (.s 10)),.own 1 44 (RSl 1 R8) [B5.Value]] ?_ (fun c_898_4=>?_)
   ·refine SD.pre (pre_frz (i:=12) (sz:=1) (E:=44) (R:=(RSl 1 R8)) (l:=[B5.Value]) K) ?_;refine SD.all1 (i:=6) K ?_;refine SW.f Bc 6 (bm 10 127) rfl rfl rfl (e_c Tryz.call62 (ok_octets_Join F [B5.Value] _ Bm) [.g 12] [vs 12] (vs 13) K (.inl rfl)) ?_;exact SD.vie Bc [.g 0,.g 1,.g 2,.g 3,.g 4,.g 5,.g 6,.g 7,.g 8,.g 9,.g 10,.g 11,.n,.g 13] c_898_3 K
   refine SD.lay 5 (bm 10 31) [(1,vp 4 0),(24,vs 6),(25,J (len B2.Queue)),(26,J B6),(32,vs 6),(33,J B6),(35,vs 10)] [.gone,.gone,.gone,.gone,.blk 30 (C_Server ({ B0 with DB:=B2.DB,Queue:=B9,Subs:=B2.Subs,Out:=B2.Out }) (.s 5) (.s 6) (.s 7) (.s 8)),.rd 5 R_Attribute B2.DB,.own 3 115 R_Prepared B9,.rd 2 R_Subscription B2.Subs,.own 12 47 R_AttPDU B2.Out,.gone,.rd 1 R8 B5.Value,.blk 115 (C_Prepared B5 (.s 10))] ?_ (fun c_898_5=>?_)
   ·refine SD.all1 (i:=5) K ?_;refine SW.f Bc 5 (bm 10 63) rfl rfl rfl (e_lit (sz:=1) (E:=44) (R:=(RSl 1 R8)) (by_:=24) tk [[.s 10]] [B5.Value] K ⟨(Clo.sl K),trivial⟩ rfl K K) ?_;exact SD.vie Bc (gs 13) c_898_4 K
   refine SD.lay 4 (bm 10 125) [(1,vp 4 0),(24,vs 6),(25,J (len B2.Queue)),(26,J B6),(31,vp 4 4),(33,J B6),(37,vs 13)] [.gone,.gone,.gone,.gone,.blk 30 (C_Server ({ B0 with DB:=B2.DB,Queue:=B9,Subs:=B2.Subs,Out:=B2.Out }) (.s 5) (.s 6) (.s 7) (.s 8)),.rd 5 R_Attribute B2.DB,.own 3 115 R_Prepared B9,.rd 2 R_Subscription B2.Subs,.own 12 47 R_AttPDU B2.Out,.gone,.rd 1 R8 B5.Value,.blk 115 (C_Prepared B5 (.s 10)),.gone,.rd 1 R8 Bi] ?_ (fun c_898_6=>?_)
   ·refine SD.all1 (i:=1) K ?_;refine SW.v Bc 1 (vs 6) (bm 10 127) rfl rfl rfl (e_val tk K) ?_;exact SD.vie Bc [.g 0,.g 1,.g 2,.g 3,.g 4,.g 5,.g 6,.g 7,.g 8,.g 9,.g 10,.g 11,.n,.g 13] c_898_3 K
   refine SD.lay 5 (bm 10 61) [(1,vp 4 0),(24,vs 6),(25,J (len B2.Queue)),(26,J B6),(31,vp 4 4),(33,J B6),(36,vs 12)] [.gone,.gone,.gone,.gone,.blk 30 (C_Server ({ B0 with DB:=B2.DB,Queue:=B9,Subs:=B2.Subs,Out:=B2.Out }) (.s 5) (.s 6) (.s 7) (.s 8)),.rd 5 R_Attribute B2.DB,.own 3 115 R_Prepared B9,.rd 2 R_Subscription B2.Subs,.own 12 47 R_AttPDU B2.Out,.gone,.rd 1 R8 B5.Value,.blk 115 (C_Prepared B5 (.s 10)),.own 1 44 (RSl 1 R8) [B5.Value]] ?_ (fun c_898_7=>?_)
   ·refine SD.all2 (i:=1) (j:=6) K ?_ ?_
    ·refine SW.v Bc 1 (vs 6) (bm 10 63) rfl rfl rfl (e_val tk K) ?_;exact SD.vie Bc (gs 13) c_898_4 K
    refine SW.pre (pre_frz (i:=12) (sz:=1) (E:=44) (R:=(RSl 1 R8)) (l:=[B5.Value]) K) ?_;refine SW.f Bc 6 (bm 10 125) rfl rfl rfl (e_c Tryz.call62 (ok_octets_Join F [B5.Value] _ Bm) [.g 12] [vs 12] (vs 13) K (.inl rfl)) ?_;exact SD.vie Bc [.g 0,.g 1,.g 2,.g 3,.g 4,.g 5,.g 6,.g 7,.g 8,.g 9,.g 10,.g 11,.n,.g 13] c_898_6 K
   refine SD.lay 6 (bm 10 29) [(1,vp 4 0),(24,vs 6),(25,J (len B2.Queue)),(26,J B6),(31,vp 4 4),(33,J B6),(35,vs 10)] [.gone,.gone,.gone,.gone,.blk 30 (C_Server ({ B0 with DB:=B2.DB,Queue:=B9,Subs:=B2.Subs,Out:=B2.Out }) (.s 5) (.s 6) (.s 7) (.s 8)),.rd 5 R_Attribute B2.DB,.own 3 115 R_Prepared B9,.rd 2 R_Subscription B2.Subs,.own 12 47 R_AttPDU B2.Out,.gone,.rd 1 R8 B5.Value,.blk 115 (C_Prepared B5 (.s 10))] ?_ (fun c_898_8=>?_)
   ·refine SD.all2 (i:=1) (j:=5) K ?_ ?_
    ·refine SW.v Bc 1 (vs 6) (bm 10 31) rfl rfl rfl (e_val tk K) ?_;exact SD.vie Bc (gs 12) c_898_5 K
    refine SW.f Bc 5 (bm 10 61) rfl rfl rfl (e_lit (sz:=1) (E:=44) (R:=(RSl 1 R8)) (by_:=24) tk [[.s 10]] [B5.Value] K ⟨(Clo.sl K),trivial⟩ rfl K K) ?_;exact SD.vie Bc (gs 13) c_898_7 K
   refine SD.lay 5 (bm 10 124) [(1,vp 4 0),(24,vs 6),(25,J (len B2.Queue)),(26,J B6),(33,J B6),(37,vs 13)] [.gone,.gone,.gone,.gone,.blk 30 (C_Server ({ B0 with DB:=B2.DB,Queue:=B9,Subs:=B2.Subs,Out:=B2.Out }) (.s 5) (.s 6) (.s 7) (.s 8)),.rd 5 R_Attribute B2.DB,.own 3 115 R_Prepared B9,.rd 2 R_Subscription B2.Subs,.own 12 47 R_AttPDU B2.Out,.gone,.rd 1 R8 B5.Value,.blk 115 (C_Prepared B5 (.s 10)),.gone,.rd 1 R8 Bi] ?_ (fun c_898_9=>?_)
   ·refine SD.all1 (i:=0) K ?_;refine SW.v Bc 0 (vp 4 4) (bm 10 125) rfl rfl rfl (e_val tk K) ?_;exact SD.vie Bc [.g 0,.g 1,.g 2,.g 3,.g 4,.g 5,.g 6,.g 7,.g 8,.g 9,.g 10,.g 11,.n,.g 13] c_898_6 K
   refine SD.lay 6 (bm 10 60) [(1,vp 4 0),(24,vs 6),(25,J (len B2.Queue)),(26,J B6),(33,J B6),(36,vs 12)] [.gone,.gone,.gone,.gone,.blk 30 (C_Server ({ B0 with DB:=B2.DB,Queue:=B9,Subs:=B2.Subs,Out:=B2.Out }) (.s 5) (.s 6) (.s 7) (.s 8)),.rd 5 R_Attribute B2.DB,.own 3 115 R_Prepared B9,.rd 2 R_Subscription B2.Subs,.own 12 47 R_AttPDU B2.Out,.gone,.rd 1 R8 B5.Value,.blk 115 (C_Prepared B5 (.s 10)),.own 1 44 (RSl 1 R8) [B5.Value]] ?_ (fun c_898_10=>?_)
   ·refine SD.all2 (i:=0) (j:=6) K ?_ ?_
    ·refine SW.v Bc 0 (vp 4 4) (bm 10 61) rfl rfl rfl (e_val tk K) ?_;exact SD.vie Bc (gs 13) c_898_7 K
    refine SW.pre (pre_frz (i:=12) (sz:=1) (E:=44) (R:=(RSl 1 R8)) (l:=[B5.Value]) K) ?_;refine SW.f Bc 6 (bm 10 124) rfl rfl rfl (e_c Tryz.call62 (ok_octets_Join F [B5.Value] _ Bm) [.g 12] [vs 12] (vs 13) K (.inl rfl)) ?_;exact SD.vie Bc [.g 0,.g 1,.g 2,.g 3,.g 4,.g 5,.g 6,.g 7,.g 8,.g 9,.g 10,.g 11,.n,.g 13] c_898_9 K
   refine SD.all2 (i:=0) (j:=5) K ?_ ?_
   ·refine SW.v Bc 0 (vp 4 4) (bm 10 29) rfl rfl rfl (e_val tk K) ?_;refine SD.norm (itsN:=[.gone,.gone,.gone,.gone,.blk 30 (C_Server ({ B0 with DB:=B2.DB,Queue:=B9,Subs:=B2.Subs,Out:=B2.Out }) (.s 5) (.s 6) (.s 7) (.s 8)),.rd 5 R_Attribute B2.DB,.own 3 115 R_Prepared B9,.rd 2 R_Subscription B2.Subs,.own 12 47 R_AttPDU B2.Out,.gone,.rd 1 R8 B5.Value,.blk 115 (C_Prepared B5 (.s 10))]) K ?_;exact SD.vie Bc (gs 12) c_898_8 K
   refine SW.f Bc 5 (bm 10 60) rfl rfl rfl (e_lit (sz:=1) (E:=44) (R:=(RSl 1 R8)) (by_:=24) tk [[.s 10]] [B5.Value] K ⟨(Clo.sl K),trivial⟩ rfl K K) ?_;refine SD.norm (itsN:=[.gone,.gone,.gone,.gone,.blk 30 (C_Server ({ B0 with DB:=B2.DB,Queue:=B9,Subs:=B2.Subs,Out:=B2.Out }) (.s 5) (.s 6) (.s 7) (.s 8)),.rd 5 R_Attribute B2.DB,.own 3 115 R_Prepared B9,.rd 2 R_Subscription B2.Subs,.own 12 47 R_AttPDU B2.Out,.gone,.rd 1 R8 B5.Value,.blk 115 (C_Prepared B5 (.s 10)),.own 1 44 (RSl 1 R8) [B5.Value]]) K ?_;exact SD.vie Bc (gs 13) c_898_10 K
  refine SC.exitJ rfl fun a w h=>?_;have ho:=done_inv hp hs2;replace hp:=ho2
  try rw [ho] at hp
  exact⟨B9,hp,h.at (js:=(gs 9)) K⟩
 rintro a w ⟨B8,hp,h⟩;refine h.go ?_;refine SC.cut (fun a w=>∃(Bk:(List T_AttPDU)),server_of_j3 F B0 B2 B8 Bk=some r∧A 62 4 fx [(1,vp 4 0)] [.gone,.gone,.gone,.gone,.blk 30 (C_Server ({ B0 with DB:=B2.DB,Queue:=B8,Subs:=B2.Subs,Out:=Bk }) (.s 5) (.s 6) (.s 7) (.s 8)),.rd 5 R_Attribute B2.DB,.own 3 115 R_Prepared B8,.rd 2 R_Subscription B2.Subs,.own 12 47 R_AttPDU Bk] a w) ?_ ?_
 ·refine SC.m tk [(1,vp 4 0),(42,vs 8),(43,J (len B2.Out)),(44,J 0)] ?_;refine SC.block ?_;obtain⟨o1,hi1,ho1⟩:=bind_inv hp;clear hp;refine SC.loop (fun n a w=>∃(Ba:(List T_AttPDU)) (B7:Int),iter (fun s=>server_of_l1 F B2 s.1 s.2) n (Ba,B7)=some o1∧A 62 4 fx [(1,vp 4 0),(42,vs 8),(43,J (len B2.Out)),(44,J B7)] [.gone,.gone,.gone,.gone,.blk 30 (C_Server ({ B0 with DB:=B2.DB,Queue:=B8,Subs:=B2.Subs,Out:=Ba }) (.s 5) (.s 6) (.s 7) (.s 8)),.rd 5 R_Attribute B2.DB,.own 3 115 R_Prepared B8,.rd 2 R_Subscription B2.Subs,.own 12 47 R_AttPDU Ba] a w) F (fun a w h=>⟨B2.Out,0,hi1,h.at (js:=(gs 9)) K⟩) ?_;rintro n1 a w ⟨Ba,B7,hi1,h⟩;obtain⟨n1,q1,rfl,hp,hs1⟩:=iter_inv hi1;replace hp:server_of_l1 F B2 Ba B7=some q1:=hp;clear hi1;refine h.go ?_;refine SC.m tk [(1,vp 4 0),(42,vs 8),(43,J (len B2.Out)),(44,J B7),(45,vb (decide (B7<(len B2.Out))))] ?_;refine SC.seq ?_;refine SC.if' rfl hp (fun hp=>?_) (fun hp=>?_)
  ·refine SC.skipThen ?_;refine SC.seq ?_;refine SC.block ?_;refine SC.s ?_;obtain⟨B4,By,hp⟩:=bind_inv hp;refine SL.pre (pre_ixo (i:=8) (iv:=B7) (sz:=12) (E:=47) (R:=R_AttPDU) (l:=Ba) K rfl By) ?_;refine SL.sim tk 3 [(1,vp 4 0),(42,vs 8),(43,J (len B2.Out)),(44,J B7),(46,J B7),(48,.g (C_AttPDU B4 (.s 10) (.s 11)))] [] [.el 9] [B7] K ?_;refine SL.pre (pre_kill) ?_;refine SL.eff (e_alloc (E:=47) tk (C_AttPDU (T_AttPDU.mk 0 0 0 0 (T_UUID.mk 0 0) 0 0 0 false [] []) nl nl) K) rfl K ?_;refine SL.sim tk 2 [(1,vp 4 0),(5,J B7),(6,vp 12 0),(42,vs 8),(43,J (len B2.Out)),(44,J B7)] [(12,47,(C_AttPDU B4 (.s 10) (.s 11)))] [] [] K ?_;refine SL.nilThen ?_;refine SC.draw MO (bm 13 7392) K fun E4 Bd=>?_;refine SD.takes tk Bd [] kn0 [2,3,4] [] [] (bm 10 28) [(1,vp 4 0),(42,vs 8),(43,J (len B2.Out)),(44,J B7),(51,J B7),(53,vs 10)] rfl K K K ?_;obtain⟨Bj,Bo,hp⟩:=bind_inv hp;obtain⟨E5,Bt,hp⟩:=bind_inv hp;obtain⟨Bu,Bz,hp⟩:=bind_inv hp;obtain⟨Bp,E0,hp⟩:=bind_inv hp;refine SD.lay 0 (bm 10 1023) [(1,vp 4 0),(42,vs 8),(43,J (len B2.Out)),(44,J B7)] [.gone,.gone,.gone,.gone,.blk 30 (C_Server ({ B0 with DB:=B2.DB,Queue:=B8,Subs:=B2.Subs,Out:=Bp }) (.s 5) (.s 6) (.s 7) (.s 8)),.rd 5 R_Attribute B2.DB,.own 3 115 R_Prepared B8,.rd 2 R_Subscription B2.Subs,.own 12 47 R_AttPDU Bp,.gone,.rd 1 R8 B4.Value,.rd 5 R_AttItem B4.List,.blk 47 (C_AttPDU B4 (.s 10) (.s 11))] ?_ (fun c_13_0=>?_)
   ·refine SD.doneThen K ?_;refine SC.reg ?_;refine SL.m tk 2 [(1,vp 4 0),(42,vs 8),(43,J (len B2.Out)),(44,J (w64 (B7+1)))] ?_;refine SL.nilJ fun a w h=>?_;exact⟨n1,Nat.lt_succ_self _,Bp,w64 (B7+1),next_inv hp hs1,h.at (js:=(gs 9)) K⟩
   refine SD.lay 1 (bm 10 511) [(1,vp 4 0),(42,vs 8),(43,J (len B2.Out)),(44,J B7),(55,vs 14),(57,vp 8 (B7.toNat * 12+10))] [.gone,.gone,.gone,.gone,.blk 30 (C_Server ({ B0 with DB:=B2.DB,Queue:=B8,Subs:=B2.Subs,Out:=Ba }) (.s 5) (.s 6) (.s 7) (.s 8)),.rd 5 R_Attribute B2.DB,.own 3 115 R_Prepared B8,.rd 2 R_Subscription B2.Subs,.own 12 47 R_AttPDU Ba,.gone,.rd 1 R8 B4.Value,.rd 5 R_AttItem B4.List,.blk 47 (C_AttPDU B4 (.s 10) (.s 11)),.gone,.rd 1 R8 Bj] ?_ (fun c_13_1=>?_)
   ·refine SD.all1 (i:=9) K ?_;refine SW.effX Bd (i:=9) (bs':=(bm 10 1023)) rfl (e_stf (sz:=12) (E:=47) (R:=R_AttPDU) (i:=8) (o:=10) (iv:=B7) (l:=Ba) (e:={ Bu with Value:=Bj }) tk rfl rfl Bz rfl rfl rfl K (clo_T_AttPDU (x:={ Bu with Value:=Bj }) (Clo.sl K) (Clo.sl K)) K K E0) rfl K ?_;exact SD.vie Bd (gs 13) c_13_0 K
   refine SD.lay 2 (bm 10 255) [(1,vp 4 0),(42,vs 8),(43,J (len B2.Out)),(44,J B7),(55,vs 14),(56,vp 8 (B7.toNat * 12))] [.gone,.gone,.gone,.gone,.blk 30 (C_Server ({ B0 with DB:=B2.DB,Queue:=B8,Subs:=B2.Subs,Out:=Ba }) (.s 5) (.s 6) (.s 7) (.s 8)),.rd 5 R_Attribute B2.DB,.own 3 115 R_Prepared B8,.rd 2 R_Subscription B2.Subs,.own 12 47 R_AttPDU Ba,.gone,.rd 1 R8 B4.Value,.rd 5 R_AttItem B4.List,.blk 47 (C_AttPDU B4 (.s 10) (.s 11)),.gone,.rd 1 R8 Bj] ?_ (fun c_13_2=>?_)
   ·refine SD.all1 (i:=8) K ?_;refine SW.f Bd 8 (bm 10 511) rfl rfl rfl (e_fap (off:=10) (iv:=B7) tk rfl rfl Bt K) ?_;exact SD.vie Bd [.g 0,.g 1,.g 2,.g 3,.g 4,.g 5,.g 6,.g 7,.g 8,.g 9,.g 10,.g 11,.g 12,.n,.g 14] c_13_1 K
   refine SD.lay 3 (bm 10 127) [(1,vp 4 0),(42,vs 8),(43,J (len B2.Out)),(44,J B7),(50,vs 8),(51,J B7),(55,vs 14)] [.gone,.gone,.gone,.gone,.blk 30 (C_Server ({ B0 with DB:=B2.DB,Queue:=B8,Subs:=B2.Subs,Out:=Ba }) (.s 5) (.s 6) (.s 7) (.s 8)),.rd 5 R_Attribute B2.DB,.own 3 115 R_Prepared B8,.rd 2 R_Subscription B2.Subs,.own 12 47 R_AttPDU Ba,.gone,.rd 1 R8 B4.Value,.rd 5 R_AttItem B4.List,.blk 47 (C_AttPDU B4 (.s 10) (.s 11)),.gone,.rd 1 R8 Bj] ?_ (fun c_13_3=>?_)
   ·refine SD.all1 (i:=7) K ?_;refine SW.f Bd 7 (bm 10 255) rfl rfl rfl (e_ixp (sz:=12) (E:=47) (R:=R_AttPDU) (by_:=120) (l:=Ba) tk rfl rfl rfl Bt K) ?_;exact SD.vie Bd [.g 0,.g 1,.g 2,.g 3,.g 4,.g 5,.g 6,.g 7,.g 8,.g 9,.g 10,.g 11,.g 12,.n,.g 14] c_13_2 K
   refine SD.lay 4 (bm 10 63) [(1,vp 4 0),(42,vs 8),(43,J (len B2.Out)),(44,J B7),(50,vs 8),(51,J B7),(54,vs 13)] [.gone,.gone,.gone,.gone,.blk 30 (C_Server ({ B0 with DB:=B2.DB,Queue:=B8,Subs:=B2.Subs,Out:=Ba }) (.s 5) (.s 6) (.s 7) (.s 8)),.rd 5 R_Attribute B2.DB,.own 3 115 R_Prepared B8,.rd 2 R_Subscription B2.Subs,.own 12 47 R_AttPDU Ba,.gone,.rd 1 R8 B4.Value,.rd 5 R_AttItem B4.List,.blk 47 (C_AttPDU B4 (.s 10) (.s 11)),.own 1 44 (RSl 1 R8) [B4.Value]] ?_ (fun c_13_4=>?_)
   ·refine SD.pre (pre_frz (i:=13) (sz:=1) (E:=44) (R:=(RSl 1 R8)) (l:=[B4.Value]) K) ?_;refine SD.all1 (i:=6) K ?_;refine SW.f Bd 6 (bm 10 127) rfl rfl rfl (e_c Tryz.call62 (ok_octets_Join F [B4.Value] _ Bo) [.g 13] [vs 13] (vs 14) K (.inl rfl)) ?_;exact SD.vie Bd [.g 0,.g 1,.g 2,.g 3,.g 4,.g 5,.g 6,.g 7,.g 8,.g 9,.g 10,.g 11,.g 12,.n,.g 14] c_13_3 K
   refine SD.lay 5 (bm 10 31) [(1,vp 4 0),(42,vs 8),(43,J (len B2.Out)),(44,J B7),(50,vs 8),(51,J B7),(53,vs 10)] [.gone,.gone,.gone,.gone,.blk 30 (C_Server ({ B0 with DB:=B2.DB,Queue:=B8,Subs:=B2.Subs,Out:=Ba }) (.s 5) (.s 6) (.s 7) (.s 8)),.rd 5 R_Attribute B2.DB,.own 3 115 R_Prepared B8,.rd 2 R_Subscription B2.Subs,.own 12 47 R_AttPDU Ba,.gone,.rd 1 R8 B4.Value,.rd 5 R_AttItem B4.List,.blk 47 (C_AttPDU B4 (.s 10) (.s 11))] ?_ (fun c_13_5=>?_)
   ·refine SD.all1 (i:=5) K ?_;refine SW.f Bd 5 (bm 10 63) rfl rfl rfl (e_lit (sz:=1) (E:=44) (R:=(RSl 1 R8)) (by_:=24) tk [[.s 10]] [B4.Value] K ⟨(Clo.sl K),trivial⟩ rfl K K) ?_;exact SD.vie Bd (gs 14) c_13_4 K
   refine SD.lay 4 (bm 10 125) [(1,vp 4 0),(42,vs 8),(43,J (len B2.Out)),(44,J B7),(49,vp 4 8),(51,J B7),(55,vs 14)] [.gone,.gone,.gone,.gone,.blk 30 (C_Server ({ B0 with DB:=B2.DB,Queue:=B8,Subs:=B2.Subs,Out:=Ba }) (.s 5) (.s 6) (.s 7) (.s 8)),.rd 5 R_Attribute B2.DB,.own 3 115 R_Prepared B8,.rd 2 R_Subscription B2.Subs,.own 12 47 R_AttPDU Ba,.gone,.rd 1 R8 B4.Value,.rd 5 R_AttItem B4.List,.blk 47 (C_AttPDU B4 (.s 10) (.s 11)),.gone,.rd 1 R8 Bj] ?_ (fun c_13_6=>?_)
   ·refine SD.all1 (i:=1) K ?_;refine SW.v Bd 1 (vs 8) (bm 10 127) rfl rfl rfl (e_val tk K) ?_;exact SD.vie Bd [.g 0,.g 1,.g 2,.g 3,.g 4,.g 5,.g 6,.g 7,.g 8,.g 9,.g 10,.g 11,.g 12,.n,.g 14] c_13_3 K
   refine SD.lay 5 (bm 10 61) [(1,vp 4 0),(42,vs 8),(43,J (len B2.Out)),(44,J B7),(49,vp 4 8),(51,J B7),(54,vs 13)] [.gone,.gone,.gone,.gone,.blk 30 (C_Server ({ B0 with DB:=B2.DB,Queue:=B8,Subs:=B2.Subs,Out:=Ba }) (.s 5) (.s 6) (.s 7) (.s 8)),.rd 5 R_Attribute B2.DB,.own 3 115 R_Prepared B8,.rd 2 R_Subscription B2.Subs,.own 12 47 R_AttPDU Ba,.gone,.rd 1 R8 B4.Value,.rd 5 R_AttItem B4.List,.blk 47 (C_AttPDU B4 (.s 10) (.s 11)),.own 1 44 (RSl 1 R8) [B4.Value]] ?_ (fun c_13_7=>?_)
   ·refine SD.all2 (i:=1) (j:=6) K ?_ ?_
    ·refine SW.v Bd 1 (vs 8) (bm 10 63) rfl rfl rfl (e_val tk K) ?_;exact SD.vie Bd (gs 14) c_13_4 K
    refine SW.pre (pre_frz (i:=13) (sz:=1) (E:=44) (R:=(RSl 1 R8)) (l:=[B4.Value]) K) ?_;refine SW.f Bd 6 (bm 10 125) rfl rfl rfl (e_c Tryz.call62 (ok_octets_Join F [B4.Value] _ Bo) [.g 13] [vs 13] (vs 14) K (.inl rfl)) ?_;exact SD.vie Bd [.g 0,.g 1,.g 2,.g 3,.g 4,.g 5,.g 6,.g 7,.g 8,.g 9,.g 10,.g 11,.g 12,.n,.g 14] c_13_6 K
   refine SD.lay 6 (bm 10 29) [(1,vp 4 0),(42,vs 8),(43,J (len B2.Out)),(44,J B7),(49,vp 4 8),(51,J B7),(53,vs 10)] [.gone,.gone,.gone,.gone,.blk 30 (C_Server ({ B0 with DB:=B2.DB,Queue:=B8,Subs:=B2.Subs,Out:=Ba }) (.s 5) (.s 6) (.s 7) (.s 8)),.rd 5 R_Attribute B2.DB,.own 3 115 R_Prepared B8,.rd 2 R_Subscription B2.Subs,.own 12 47 R_AttPDU Ba,.gone,.rd 1 R8 B4.Value,.rd 5 R_AttItem B4.List,.blk 47 (C_AttPDU B4 (.s 10) (.s 11))] ?_ (fun c_13_8=>?_)
   ·refine SD.all2 (i:=1) (j:=5) K ?_ ?_
    ·refine SW.v Bd 1 (vs 8) (bm 10 31) rfl rfl rfl (e_val tk K) ?_;exact SD.vie Bd (gs 13) c_13_5 K
    refine SW.f Bd 5 (bm 10 61) rfl rfl rfl (e_lit (sz:=1) (E:=44) (R:=(RSl 1 R8)) (by_:=24) tk [[.s 10]] [B4.Value] K ⟨(Clo.sl K),trivial⟩ rfl K K) ?_;exact SD.vie Bd (gs 14) c_13_7 K
   refine SD.lay 5 (bm 10 124) [(1,vp 4 0),(42,vs 8),(43,J (len B2.Out)),(44,J B7),(51,J B7),(55,vs 14)] [.gone,.gone,.gone,.gone,.blk 30 (C_Server ({ B0 with DB:=B2.DB,Queue:=B8,Subs:=B2.Subs,Out:=Ba }) (.s 5) (.s 6) (.s 7) (.s 8)),.rd 5 R_Attribute B2.DB,.own 3 115 R_Prepared B8,.rd 2 R_Subscription B2.Subs,.own 12 47 R_AttPDU Ba,.gone,.rd 1 R8 B4.Value,.rd 5 R_AttItem B4.List,.blk 47 (C_AttPDU B4 (.s 10) (.s 11)),.gone,.rd 1 R8 Bj] ?_ (fun c_13_9=>?_)
   ·refine SD.all1 (i:=0) K ?_;refine SW.v Bd 0 (vp 4 8) (bm 10 125) rfl rfl rfl (e_val tk K) ?_;exact SD.vie Bd [.g 0,.g 1,.g 2,.g 3,.g 4,.g 5,.g 6,.g 7,.g 8,.g 9,.g 10,.g 11,.g 12,.n,.g 14] c_13_6 K
   refine SD.lay 6 (bm 10 60) [(1,vp 4 0),(42,vs 8),(43,J (len B2.Out)),(44,J B7),(51,J B7),(54,vs 13)] [.gone,.gone,.gone,.gone,.blk 30 (C_Server ({ B0 with DB:=B2.DB,Queue:=B8,Subs:=B2.Subs,Out:=Ba }) (.s 5) (.s 6) (.s 7) (.s 8)),.rd 5 R_Attribute B2.DB,.own 3 115 R_Prepared B8,.rd 2 R_Subscription B2.Subs,.own 12 47 R_AttPDU Ba,.gone,.rd 1 R8 B4.Value,.rd 5 R_AttItem B4.List,.blk 47 (C_AttPDU B4 (.s 10) (.s 11)),.own 1 44 (RSl 1 R8) [B4.Value]] ?_ (fun c_13_10=>?_)
   ·refine SD.all2 (i:=0) (j:=6) K ?_ ?_
    ·refine SW.v Bd 0 (vp 4 8) (bm 10 61) rfl rfl rfl (e_val tk K) ?_;exact SD.vie Bd (gs 14) c_13_7 K
    refine SW.pre (pre_frz (i:=13) (sz:=1) (E:=44) (R:=(RSl 1 R8)) (l:=[B4.Value]) K) ?_;refine SW.f Bd 6 (bm 10 124) rfl rfl rfl (e_c Tryz.call62 (ok_octets_Join F [B4.Value] _ Bo) [.g 13] [vs 13] (vs 14) K (.inl rfl)) ?_;exact SD.vie Bd [.g 0,.g 1,.g 2,.g 3,.g 4,.g 5,.g 6,.g 7,.g 8,.g 9,.g 10,.g 11,.g 12,.n,.g 14] c_13_9 K
   refine SD.all2 (i:=0) (j:=5) K ?_ ?_
   ·refine SW.v Bd 0 (vp 4 8) (bm 10 29) rfl rfl rfl (e_val tk K) ?_;refine SD.norm (itsN:=[.gone,.gone,.gone,.gone,.blk 30 (C_Server ({ B0 with DB:=B2.DB,Queue:=B8,Subs:=B2.Subs,Out:=Ba }) (.s 5) (.s 6) (.s 7) (.s 8)),.rd 5 R_Attribute B2.DB,.own 3 115 R_Prepared B8,.rd 2 R_Subscription B2.Subs,.own 12 47 R_AttPDU Ba,.gone,.rd 1 R8 B4.Value,.rd 5 R_AttItem B4.List,.blk 47 (C_AttPDU B4 (.s 10) (.s 11))]) K ?_;exact SD.vie Bd (gs 13) c_13_8 K
   refine SW.f Bd 5 (bm 10 60) rfl rfl rfl (e_lit (sz:=1) (E:=44) (R:=(RSl 1 R8)) (by_:=24) tk [[.s 10]] [B4.Value] K ⟨(Clo.sl K),trivial⟩ rfl K K) ?_;refine SD.norm (itsN:=[.gone,.gone,.gone,.gone,.blk 30 (C_Server ({ B0 with DB:=B2.DB,Queue:=B8,Subs:=B2.Subs,Out:=Ba }) (.s 5) (.s 6) (.s 7) (.s 8)),.rd 5 R_Attribute B2.DB,.own 3 115 R_Prepared B8,.rd 2 R_Subscription B2.Subs,.own 12 47 R_AttPDU Ba,.gone,.rd 1 R8 B4.Value,.rd 5 R_AttItem B4.List,.blk 47 (C_AttPDU B4 (.s 10) (.s 11)),.own 1 44 (RSl 1 R8) [B4.Value]]) K ?_;exact SD.vie Bd (gs 14) c_13_10 K
  refine SC.exitJ rfl fun a w h=>?_;have ho:=done_inv hp hs1;replace hp:=ho1
  try rw [ho] at hp
  exact⟨Ba,hp,h.at (js:=(gs 9)) K⟩
 rintro a w ⟨Bk,hp,h⟩;refine h.go ?_;refine SC.s ?_;refine SL.m tk 2 [(60,.g (C_server_side (T_server_side.mk ({ B0 with DB:=B2.DB,Queue:=B8,Subs:=B2.Subs,Out:=Bk }) []) (.s 5) (.s 6) (.s 7) (.s 8) nl))] ?_;refine SL.eff (e_box (E:=97) (C_server_side (T_server_side.mk ({ B0 with DB:=B2.DB,Queue:=B8,Subs:=B2.Subs,Out:=Bk }) []) (.s 5) (.s 6) (.s 7) (.s 8) nl) K) rfl K ?_;refine SL.m tk 1 [(2,vp 9 0)] ?_;refine SL.nilThen ?_;obtain rfl:=some_inv' hp;exact SC.re (js:=[.g 0,.g 1,.g 2,.g 3,.g 9,.g 5,.z 6,.g 7,.z 8,.n]) tk K
end V
end Go.Proofs.YtoahakdkgefgiaaGreat
