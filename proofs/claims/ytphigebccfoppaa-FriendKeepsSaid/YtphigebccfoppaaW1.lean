/-
  Walks, written by program: each Go function returns what its pure twin says.
-/
import Derived.Test.YtphigebccfoppaaW0
namespace Go.Proofs.Ytphigebccfoppaa
namespace V
theorem ok_wirelesslaw51_pair_tick (F : Nat) (x_1 : T_wirelesslaw51_pair) (e_2 : T_wirelesslaw51_Event) (now_3 : Int) (r : T_wirelesslaw51_pair) (hp : wirelesslaw51_pair_tick F x_1 e_2 now_3 = some r) : Spec Try.prog 13 [.g (C_wirelesslaw51_pair x_1 (.s 0) (.s 1) (.s 2) (.s 3) (.s 4)), .g (C_wirelesslaw51_Event e_2), vi .i64 now_3] [.rd 18 R_T_api_Queued x_1.f.Queue, .rd 1 (RInt .u16) x_1.f.Subs, .rd 1 (RInt .u16) x_1.l.Subs, .own 1 31 (RInt .u32) x_1.kept, .own 1 31 (RInt .u32) x_1.got] (.g [ci .u16 r.f.Low, .s 5, .s 6, ci .i64 r.f.Bit, cb r.f.Sent, ci .i64 r.f.Polled, ci .i64 r.f.Counter, ci .i64 r.f.Dropped, ci .i64 r.l.Phase, ci .u16 r.l.Friend, ci .i64 r.l.Bit, ci .i64 r.l.Counter, ci .i64 r.l.Due, ci .i64 r.l.Tries, .s 7, ci .i64 r.l.Told, cb r.l.More, ci .i64 r.l.Last, .s 8, .s 9, cb r.ended]) [.gone, .gone, .gone, .gone, .gone, .rd 18 R_T_api_Queued r.f.Queue, .rd 1 (RInt .u16) r.f.Subs, .rd 1 (RInt .u16) r.l.Subs, .own 1 31 (RInt .u32) r.kept, .own 1 31 (RInt .u32) r.got] := by
 refine Spec.enter Try.func13 rfl Try.ntmps13 rfl rfl fun fx => ?_
 refine SC.seq ?_
 refine SC.reg ?_
 refine SL.eff (e_box (E := 52) (C_wirelesslaw51_pair x_1 (.s 0) (.s 1) (.s 2) (.s 3) (.s 4)) (by kernel_rfl)) rfl (by kernel_rfl) ?_
 refine SL.eff (e_box (E := 55) (C_wirelesslaw51_Event e_2) (by kernel_rfl)) rfl (by kernel_rfl) ?_
 refine SL.eff (e_alloc (E := 52) tk (C_wirelesslaw51_pair (T_wirelesslaw51_pair.mk (T_api_Friend.mk 0 [] [] 0 false 0 0 0) (T_api_LowPower.mk 0 0 0 0 0 0 [] 0 false 0) [] [] false) nl nl nl nl nl) (by kernel_rfl)) rfl (by kernel_rfl) ?_
 refine SL.nilThen ?_
 refine SC.seq ?_
 refine SC.seq ?_
 refine SC.reg ?_
 refine SL.sim tk 3 [(2, vi .i64 now_3), (3, vp 5 0), (4, vp 6 0), (6, vp 7 0), (13, .g (C_api_Friend x_1.f (.s 0) (.s 1))), (14, vi .i64 now_3)] [] [] [] (by kernel_rfl) ?_
 obtain ⟨x_4, e_x_4, hp⟩ := bind_inv hp
 refine SL.eff (e_c Try.call20 (ok_friend_Over F x_1.f now_3 _ e_x_4) [.g 0, .g 1] [.g (C_api_Friend x_1.f (.s 0) (.s 1)), vi .i64 now_3] (vb x_4) (by kernel_rfl) (.inl rfl)) rfl (by kernel_rfl) ?_
 refine SL.norm (itsN := [.rd 18 R_T_api_Queued x_1.f.Queue, .rd 1 (RInt .u16) x_1.f.Subs, .rd 1 (RInt .u16) x_1.l.Subs, .own 1 31 (RInt .u32) x_1.kept, .own 1 31 (RInt .u32) x_1.got, .blk 52 (C_wirelesslaw51_pair x_1 (.s 0) (.s 1) (.s 2) (.s 3) (.s 4)), .blk 55 (C_wirelesslaw51_Event e_2), .blk 52 (C_wirelesslaw51_pair (T_wirelesslaw51_pair.mk (T_api_Friend.mk 0 [] [] 0 false 0 0 0) (T_api_LowPower.mk 0 0 0 0 0 0 [] 0 false 0) [] [] false) nl nl nl nl nl)]) (by kernel_rfl) ?_
 refine SL.nilThen ?_
 refine SC.if' rfl hp (fun hp => ?_) (fun hp => ?_)
 · refine SC.r tk [(3, vp 5 0), (6, vp 7 0)] [(5, 52, (C_wirelesslaw51_pair ({ x_1 with ended := true }) (.s 0) (.s 1) (.s 2) (.s 3) (.s 4)))] [] [] (by kernel_rfl) ?_
   refine SC.r tk [(6, vp 7 0)] [(7, 52, (C_wirelesslaw51_pair ({ x_1 with ended := true }) (.s 0) (.s 1) (.s 2) (.s 3) (.s 4)))] [] [] (by kernel_rfl) ?_
   obtain rfl := some_inv' hp
   exact SC.re (js := [.g 0, .g 1, .g 2, .g 3, .g 4, .g 0, .g 1, .g 2, .g 3, .g 4]) tk (by kernel_rfl)
 · refine SC.skipThen ?_
   refine SC.cut (fun a w => ∃ (c_14 : T_wirelesslaw51_pair), wirelesslaw51_pair_tick_j1 F x_1 e_2 now_3 c_14 = some r ∧ A 114 5 fx [(2, vi .i64 now_3), (3, vp 5 0), (4, vp 9 0), (6, vp 10 0)] [.gone, .gone, .rd 1 (RInt .u16) x_1.l.Subs, .gone, .own 1 31 (RInt .u32) x_1.got, .blk 52 (C_wirelesslaw51_pair ({ x_1 with f := c_14.f, kept := c_14.kept }) (.s 6) (.s 7) (.s 2) (.s 8) (.s 4)), .rd 18 R_T_api_Queued c_14.f.Queue, .rd 1 (RInt .u16) c_14.f.Subs, .own 1 31 (RInt .u32) c_14.kept, .blk 55 (C_wirelesslaw51_Event e_2), .blk 52 (C_wirelesslaw51_pair (T_wirelesslaw51_pair.mk (T_api_Friend.mk 0 [] [] 0 false 0 0 0) (T_api_LowPower.mk 0 0 0 0 0 0 [] 0 false 0) [] [] false) nl nl nl nl nl)] a w) ?_ ?_
   · refine SC.r tk [(2, vi .i64 now_3), (3, vp 5 0), (4, vp 6 0), (6, vp 7 0), (19, vb e_2.Keep)] [] [] [] (by kernel_rfl) ?_
     refine SC.if' rfl hp (fun hp => ?_) (fun hp => ?_)
     · refine SC.cut (fun a w => ∃ (c_2448 : T_wirelesslaw51_pair), wirelesslaw51_pair_tick_j4 F x_1 e_2 now_3 c_2448 = some r ∧ A 114 5 fx [(2, vi .i64 now_3), (3, vp 5 0), (4, vp 8 0), (6, vp 9 0)] [.gone, .gone, .rd 1 (RInt .u16) x_1.l.Subs, .own 1 31 (RInt .u32) x_1.kept, .own 1 31 (RInt .u32) x_1.got, .blk 52 (C_wirelesslaw51_pair ({ x_1 with f := c_2448.f }) (.s 6) (.s 7) (.s 2) (.s 3) (.s 4)), .rd 18 R_T_api_Queued c_2448.f.Queue, .rd 1 (RInt .u16) c_2448.f.Subs, .blk 55 (C_wirelesslaw51_Event e_2), .blk 52 (C_wirelesslaw51_pair (T_wirelesslaw51_pair.mk (T_api_Friend.mk 0 [] [] 0 false 0 0 0) (T_api_LowPower.mk 0 0 0 0 0 0 [] 0 false 0) [] [] false) nl nl nl nl nl)] a w) ?_ ?_
       · refine SC.draw MO [I, I, I, I, I, O, I, I] (by kernel_rfl) fun kap_2450 D_2451 => ?_
         refine SD.takes tk D_2451 [] kn0 [2, 3] [] [] [O, O, I, I, O, O, O, O] [(2, vi .i64 now_3), (3, vp 5 0), (4, vp 6 0), (6, vp 7 0), (23, vi .u32 (wu32 now_3))] rfl (by kernel_rfl) (by kernel_rfl) (by kernel_rfl) ?_
         obtain ⟨x_2772, e_x_2772, hp⟩ := bind_inv hp
         obtain ⟨x_2852, e_x_2852, hp⟩ := bind_inv hp
         refine SD.lay 0 [I, I, I, I, I, I, I, I] [(2, vi .i64 now_3), (3, vp 5 0), (4, vp 6 0), (6, vp 7 0)] [.rd 18 R_T_api_Queued x_1.f.Queue, .rd 1 (RInt .u16) x_1.f.Subs, .rd 1 (RInt .u16) x_1.l.Subs, .own 1 31 (RInt .u32) x_1.kept, .own 1 31 (RInt .u32) x_1.got, .blk 52 (C_wirelesslaw51_pair ({ x_1 with f := x_2852 }) (.s 10) (.s 11) (.s 2) (.s 3) (.s 4)), .blk 55 (C_wirelesslaw51_Event e_2), .blk 52 (C_wirelesslaw51_pair (T_wirelesslaw51_pair.mk (T_api_Friend.mk 0 [] [] 0 false 0 0 0) (T_api_LowPower.mk 0 0 0 0 0 0 [] 0 false 0) [] [] false) nl nl nl nl nl), .gone, .gone, .rd 18 R_T_api_Queued x_2852.Queue, .rd 1 (RInt .u16) x_2852.Subs] ?_ (fun c_2451_0 => ?_)
         · refine SD.done (by kernel_rfl) fun a w h => ?_
           exact ⟨{ x_1 with f := x_2852 }, hp, h.at (js := [.g 0, .g 1, .g 2, .g 3, .g 4, .g 5, .g 10, .g 11, .g 6, .g 7]) (by kernel_rfl)⟩
         · refine SD.lay 1 [I, I, I, I, I, I, I, O] [(2, vi .i64 now_3), (3, vp 5 0), (4, vp 6 0), (6, vp 7 0), (25, .g (C_api_Friend x_2852 (.s 10) (.s 11))), (26, vp 5 0)] [.rd 18 R_T_api_Queued x_1.f.Queue, .rd 1 (RInt .u16) x_1.f.Subs, .rd 1 (RInt .u16) x_1.l.Subs, .own 1 31 (RInt .u32) x_1.kept, .own 1 31 (RInt .u32) x_1.got, .blk 52 (C_wirelesslaw51_pair x_1 (.s 0) (.s 1) (.s 2) (.s 3) (.s 4)), .blk 55 (C_wirelesslaw51_Event e_2), .blk 52 (C_wirelesslaw51_pair (T_wirelesslaw51_pair.mk (T_api_Friend.mk 0 [] [] 0 false 0 0 0) (T_api_LowPower.mk 0 0 0 0 0 0 [] 0 false 0) [] [] false) nl nl nl nl nl), .gone, .gone, .rd 18 R_T_api_Queued x_2852.Queue, .rd 1 (RInt .u16) x_2852.Subs] ?_ (fun c_2451_1 => ?_)
           · refine SD.all1 (i := 7) (by kernel_rfl) ?_
             refine SW.store D_2451 tk (i := 7) (q := 5) (T := 52) (cs := (C_wirelesslaw51_pair ({ x_1 with f := x_2852 }) (.s 10) (.s 11) (.s 2) (.s 3) (.s 4))) (bs' := [I, I, I, I, I, I, I, I]) rfl (by kernel_rfl) rfl rfl (by kernel_rfl) ?_
             exact SD.vie D_2451 [.g 0, .g 1, .g 2, .g 3, .g 4, .g 5, .g 6, .g 7, .n, .n, .g 10, .g 11] c_2451_0 (by kernel_rfl)
           · refine SD.lay 2 [I, I, I, I, I, I, O, O] [(2, vi .i64 now_3), (3, vp 5 0), (4, vp 6 0), (6, vp 7 0), (25, .g (C_api_Friend x_2852 (.s 10) (.s 11)))] [.rd 18 R_T_api_Queued x_1.f.Queue, .rd 1 (RInt .u16) x_1.f.Subs, .rd 1 (RInt .u16) x_1.l.Subs, .own 1 31 (RInt .u32) x_1.kept, .own 1 31 (RInt .u32) x_1.got, .blk 52 (C_wirelesslaw51_pair x_1 (.s 0) (.s 1) (.s 2) (.s 3) (.s 4)), .blk 55 (C_wirelesslaw51_Event e_2), .blk 52 (C_wirelesslaw51_pair (T_wirelesslaw51_pair.mk (T_api_Friend.mk 0 [] [] 0 false 0 0 0) (T_api_LowPower.mk 0 0 0 0 0 0 [] 0 false 0) [] [] false) nl nl nl nl nl), .gone, .gone, .rd 18 R_T_api_Queued x_2852.Queue, .rd 1 (RInt .u16) x_2852.Subs] ?_ (fun c_2451_2 => ?_)
             · refine SD.all1 (i := 6) (by kernel_rfl) ?_
               refine SW.eff D_2451 (i := 6) (v := vp 5 0) (bs' := [I, I, I, I, I, I, I, O]) rfl (.inl rfl) rfl (e_val tk (by kernel_rfl)) (by kernel_rfl) rfl (by kernel_rfl) ?_
               exact SD.vie D_2451 [.g 0, .g 1, .g 2, .g 3, .g 4, .g 5, .g 6, .g 7, .n, .n, .g 10, .g 11] c_2451_1 (by kernel_rfl)
             · refine SD.lay 3 [I, I, I, I, I, O, O, O] [(2, vi .i64 now_3), (3, vp 5 0), (4, vp 6 0), (6, vp 7 0), (21, .g (C_api_Friend x_1.f (.s 0) (.s 1))), (24, .g (C_api_Queued x_2772 (.s 8) (.s 9)))] [.rd 18 R_T_api_Queued x_1.f.Queue, .rd 1 (RInt .u16) x_1.f.Subs, .rd 1 (RInt .u16) x_1.l.Subs, .own 1 31 (RInt .u32) x_1.kept, .own 1 31 (RInt .u32) x_1.got, .blk 52 (C_wirelesslaw51_pair x_1 (.s 0) (.s 1) (.s 2) (.s 3) (.s 4)), .blk 55 (C_wirelesslaw51_Event e_2), .blk 52 (C_wirelesslaw51_pair (T_wirelesslaw51_pair.mk (T_api_Friend.mk 0 [] [] 0 false 0 0 0) (T_api_LowPower.mk 0 0 0 0 0 0 [] 0 false 0) [] [] false) nl nl nl nl nl), .rd 1 R8 x_2772.PDU.Payload, .rd 1 R8 x_2772.Lower.Bytes] ?_ (fun c_2451_3 => ?_)
               · refine SD.all1 (i := 5) (by kernel_rfl) ?_
                 refine SW.eff D_2451 (i := 5) (bs' := [I, I, I, I, I, I, O, O]) rfl (.inl rfl) rfl (e_c Try.call10 (ok_friend_Keep F x_1.f x_2772 _ e_x_2852) [.g 0, .g 1, .g 8, .g 9] [.g (C_api_Friend x_1.f (.s 0) (.s 1)), .g (C_api_Queued x_2772 (.s 8) (.s 9))] (.g (C_api_Friend x_2852 (.s 10) (.s 11))) (by kernel_rfl) (.inl rfl)) (by kernel_rfl) rfl (by kernel_rfl) ?_
                 exact SD.vie D_2451 [.g 0, .g 1, .g 2, .g 3, .g 4, .g 5, .g 6, .g 7, .n, .n, .g 10, .g 11] c_2451_2 (by kernel_rfl)
               · refine SD.lay 4 [I, I, I, I, O, O, O, O] [(2, vi .i64 now_3), (3, vp 5 0), (4, vp 6 0), (6, vp 7 0), (21, .g (C_api_Friend x_1.f (.s 0) (.s 1))), (23, vi .u32 (wu32 now_3))] [.rd 18 R_T_api_Queued x_1.f.Queue, .rd 1 (RInt .u16) x_1.f.Subs, .rd 1 (RInt .u16) x_1.l.Subs, .own 1 31 (RInt .u32) x_1.kept, .own 1 31 (RInt .u32) x_1.got, .blk 52 (C_wirelesslaw51_pair x_1 (.s 0) (.s 1) (.s 2) (.s 3) (.s 4)), .blk 55 (C_wirelesslaw51_Event e_2), .blk 52 (C_wirelesslaw51_pair (T_wirelesslaw51_pair.mk (T_api_Friend.mk 0 [] [] 0 false 0 0 0) (T_api_LowPower.mk 0 0 0 0 0 0 [] 0 false 0) [] [] false) nl nl nl nl nl)] ?_ (fun c_2451_4 => ?_)
                 · refine SD.all1 (i := 4) (by kernel_rfl) ?_
                   refine SW.eff D_2451 (i := 4) (bs' := [I, I, I, I, I, O, O, O]) rfl (.inl rfl) rfl (e_c Try.call22 (ok_wirelesslaw51_queued F (wu32 now_3) _ e_x_2772) [] [vi .u32 (wu32 now_3)] (.g (C_api_Queued x_2772 (.s 8) (.s 9))) (by kernel_rfl) (.inl rfl)) (by kernel_rfl) rfl (by kernel_rfl) ?_
                   exact SD.vie D_2451 [.g 0, .g 1, .g 2, .g 3, .g 4, .g 5, .g 6, .g 7, .g 8, .g 9] c_2451_3 (by kernel_rfl)
                 · refine SD.lay 4 [I, O, I, I, I, O, O, O] [(2, vi .i64 now_3), (3, vp 5 0), (4, vp 6 0), (6, vp 7 0), (20, vp 5 0), (24, .g (C_api_Queued x_2772 (.s 8) (.s 9)))] [.rd 18 R_T_api_Queued x_1.f.Queue, .rd 1 (RInt .u16) x_1.f.Subs, .rd 1 (RInt .u16) x_1.l.Subs, .own 1 31 (RInt .u32) x_1.kept, .own 1 31 (RInt .u32) x_1.got, .blk 52 (C_wirelesslaw51_pair x_1 (.s 0) (.s 1) (.s 2) (.s 3) (.s 4)), .blk 55 (C_wirelesslaw51_Event e_2), .blk 52 (C_wirelesslaw51_pair (T_wirelesslaw51_pair.mk (T_api_Friend.mk 0 [] [] 0 false 0 0 0) (T_api_LowPower.mk 0 0 0 0 0 0 [] 0 false 0) [] [] false) nl nl nl nl nl), .rd 1 R8 x_2772.PDU.Payload, .rd 1 R8 x_2772.Lower.Bytes] ?_ (fun c_2451_5 => ?_)
                   · refine SD.all1 (i := 1) (by kernel_rfl) ?_
                     refine SW.eff D_2451 (i := 1) (v := .g (C_api_Friend x_1.f (.s 0) (.s 1))) (bs' := [I, I, I, I, I, O, O, O]) rfl (.inl rfl) rfl (e_val tk (by kernel_rfl)) (by kernel_rfl) rfl (by kernel_rfl) ?_
                     exact SD.vie D_2451 [.g 0, .g 1, .g 2, .g 3, .g 4, .g 5, .g 6, .g 7, .g 8, .g 9] c_2451_3 (by kernel_rfl)
                   · refine SD.lay 5 [I, O, I, I, O, O, O, O] [(2, vi .i64 now_3), (3, vp 5 0), (4, vp 6 0), (6, vp 7 0), (20, vp 5 0), (23, vi .u32 (wu32 now_3))] [.rd 18 R_T_api_Queued x_1.f.Queue, .rd 1 (RInt .u16) x_1.f.Subs, .rd 1 (RInt .u16) x_1.l.Subs, .own 1 31 (RInt .u32) x_1.kept, .own 1 31 (RInt .u32) x_1.got, .blk 52 (C_wirelesslaw51_pair x_1 (.s 0) (.s 1) (.s 2) (.s 3) (.s 4)), .blk 55 (C_wirelesslaw51_Event e_2), .blk 52 (C_wirelesslaw51_pair (T_wirelesslaw51_pair.mk (T_api_Friend.mk 0 [] [] 0 false 0 0 0) (T_api_LowPower.mk 0 0 0 0 0 0 [] 0 false 0) [] [] false) nl nl nl nl nl)] ?_ (fun c_2451_6 => ?_)
                     · refine SD.all2 (i := 1) (j := 4) (by kernel_rfl) ?_ ?_
                       · refine SW.eff D_2451 (i := 1) (v := .g (C_api_Friend x_1.f (.s 0) (.s 1))) (bs' := [I, I, I, I, O, O, O, O]) rfl (.inl rfl) rfl (e_val tk (by kernel_rfl)) (by kernel_rfl) rfl (by kernel_rfl) ?_
                         exact SD.vie D_2451 [.g 0, .g 1, .g 2, .g 3, .g 4, .g 5, .g 6, .g 7] c_2451_4 (by kernel_rfl)
                       · refine SW.eff D_2451 (i := 4) (bs' := [I, O, I, I, I, O, O, O]) rfl (.inl rfl) rfl (e_c Try.call22 (ok_wirelesslaw51_queued F (wu32 now_3) _ e_x_2772) [] [vi .u32 (wu32 now_3)] (.g (C_api_Queued x_2772 (.s 8) (.s 9))) (by kernel_rfl) (.inl rfl)) (by kernel_rfl) rfl (by kernel_rfl) ?_
                         exact SD.vie D_2451 [.g 0, .g 1, .g 2, .g 3, .g 4, .g 5, .g 6, .g 7, .g 8, .g 9] c_2451_5 (by kernel_rfl)
                     · refine SD.lay 5 [O, O, I, I, I, O, O, O] [(2, vi .i64 now_3), (3, vp 5 0), (4, vp 6 0), (6, vp 7 0), (24, .g (C_api_Queued x_2772 (.s 8) (.s 9)))] [.rd 18 R_T_api_Queued x_1.f.Queue, .rd 1 (RInt .u16) x_1.f.Subs, .rd 1 (RInt .u16) x_1.l.Subs, .own 1 31 (RInt .u32) x_1.kept, .own 1 31 (RInt .u32) x_1.got, .blk 52 (C_wirelesslaw51_pair x_1 (.s 0) (.s 1) (.s 2) (.s 3) (.s 4)), .blk 55 (C_wirelesslaw51_Event e_2), .blk 52 (C_wirelesslaw51_pair (T_wirelesslaw51_pair.mk (T_api_Friend.mk 0 [] [] 0 false 0 0 0) (T_api_LowPower.mk 0 0 0 0 0 0 [] 0 false 0) [] [] false) nl nl nl nl nl), .rd 1 R8 x_2772.PDU.Payload, .rd 1 R8 x_2772.Lower.Bytes] ?_ (fun c_2451_7 => ?_)
                       · refine SD.all1 (i := 0) (by kernel_rfl) ?_
                         refine SW.eff D_2451 (i := 0) (v := vp 5 0) (bs' := [I, O, I, I, I, O, O, O]) rfl (.inl rfl) rfl (e_val tk (by kernel_rfl)) (by kernel_rfl) rfl (by kernel_rfl) ?_
                         exact SD.vie D_2451 [.g 0, .g 1, .g 2, .g 3, .g 4, .g 5, .g 6, .g 7, .g 8, .g 9] c_2451_5 (by kernel_rfl)
                       · refine SD.all2 (i := 0) (j := 4) (by kernel_rfl) ?_ ?_
                         · refine SW.eff D_2451 (i := 0) (v := vp 5 0) (bs' := [I, O, I, I, O, O, O, O]) rfl (.inl rfl) rfl (e_val tk (by kernel_rfl)) (by kernel_rfl) rfl (by kernel_rfl) ?_
                           exact SD.vie D_2451 [.g 0, .g 1, .g 2, .g 3, .g 4, .g 5, .g 6, .g 7] c_2451_6 (by kernel_rfl)
                         · refine SW.eff D_2451 (i := 4) (bs' := [O, O, I, I, I, O, O, O]) rfl (.inl rfl) rfl (e_c Try.call22 (ok_wirelesslaw51_queued F (wu32 now_3) _ e_x_2772) [] [vi .u32 (wu32 now_3)] (.g (C_api_Queued x_2772 (.s 8) (.s 9))) (by kernel_rfl) (.inl rfl)) (by kernel_rfl) rfl (by kernel_rfl) ?_
                           exact SD.vie D_2451 [.g 0, .g 1, .g 2, .g 3, .g 4, .g 5, .g 6, .g 7, .g 8, .g 9] c_2451_7 (by kernel_rfl)
       · rintro a w ⟨c_2448, hp, h⟩
         refine h.go ?_
         refine SC.reg ?_
         refine SL.sim tk 4 [(2, vi .i64 now_3), (3, vp 5 0), (4, vp 8 0), (6, vp 9 0), (28, vs 3), (30, vi .u32 (wu32 now_3))] [] [] [] (by kernel_rfl) ?_
         refine SL.eff (e_lit (sz := 1) (E := 31) (R := (RInt .u32)) (by_ := 4) tk [[ci .u32 (wu32 now_3)]] [wu32 now_3] (by kernel_rfl) ⟨Clo.int, trivial⟩ rfl (by kernel_rfl) (by kernel_rfl)) rfl (by kernel_rfl) ?_
         obtain ⟨l_2449, e_l_2449, hp⟩ := bind_inv hp
         refine SL.eff (e_app (i := 3) (l := x_1.kept) (sz := 1) (E := 31) (R := (RInt .u32)) (by_ := 4) (m := [wu32 now_3]) tk rfl (by kernel_rfl) rfl (.o 31 (by kernel_rfl)) e_l_2449 (by kernel_rfl)) rfl (by kernel_rfl) ?_
         refine SL.sim tk 2 [(2, vi .i64 now_3), (3, vp 5 0), (4, vp 8 0), (6, vp 9 0)] [(5, 52, (C_wirelesslaw51_pair ({ x_1 with f := c_2448.f, kept := l_2449 }) (.s 6) (.s 7) (.s 2) (.s 11) (.s 4)))] [] [] (by kernel_rfl) ?_
         refine SL.nilJ fun a w h => ?_
         exact ⟨{ x_1 with f := c_2448.f, kept := l_2449 }, hp, h.at (js := [.g 0, .g 1, .g 2, .g 3, .g 4, .g 5, .g 6, .g 7, .g 11, .g 8, .g 9]) (by kernel_rfl)⟩
     · refine SC.skipJ fun a w h => ?_
       exact ⟨x_1, hp, h.at (js := [.g 0, .g 1, .g 2, .g 3, .g 4, .g 5, .g 0, .g 1, .g 3, .g 6, .g 7]) (by kernel_rfl)⟩
   · rintro a w ⟨c_14, hp, h⟩
     refine h.go ?_
     refine SC.seq ?_
     refine SC.reg ?_
     refine SL.sim tk 3 [(2, vi .i64 now_3), (3, vp 5 0), (4, vp 9 0), (6, vp 10 0), (36, .g (C_api_LowPower x_1.l (.s 2))), (37, vi .i64 now_3)] [] [] [] (by kernel_rfl) ?_
     obtain ⟨x_15, e_x_15, hp⟩ := bind_inv hp
     refine SL.eff (e_c Try.call23 (ok_friend_Tick F x_1.l now_3 _ e_x_15) [.g 2] [.g (C_api_LowPower x_1.l (.s 2)), vi .i64 now_3] (.u [.inr (C_api_LowPower x_15.1 (.s 11)), .inl (.s 12)]) (by kernel_rfl) (.inl rfl)) rfl (by kernel_rfl) ?_
     refine SL.sim tk 3 [(2, vi .i64 now_3), (3, vp 5 0), (4, vp 9 0), (6, vp 10 0), (39, .g (C_api_LowPower x_15.1 (.s 11))), (40, vs 12)] [] [] [] (by kernel_rfl) ?_
     refine SL.eff (e_alloc (E := 47) tk (C_api_LowPower (T_api_LowPower.mk 0 0 0 0 0 0 [] 0 false 0) nl) (by kernel_rfl)) rfl (by kernel_rfl) ?_
     refine SL.sim tk 2 [(2, vi .i64 now_3), (3, vp 5 0), (4, vp 9 0), (6, vp 10 0), (7, vp 13 0), (8, vs 12)] [(13, 47, (C_api_LowPower x_15.1 (.s 11)))] [] [] (by kernel_rfl) ?_
     refine SL.nilThen ?_
     refine SC.r tk [(2, vi .i64 now_3), (3, vp 5 0), (4, vp 9 0), (6, vp 10 0), (7, vp 13 0), (8, vs 12)] [(5, 52, (C_wirelesslaw51_pair ({ c_14 with l := x_15.1, got := x_1.got, ended := x_1.ended }) (.s 6) (.s 7) (.s 11) (.s 8) (.s 4)))] [] [] (by kernel_rfl) ?_
     refine SC.seq ?_
     refine SC.r tk [(2, vi .i64 now_3), (3, vp 5 0), (4, vp 9 0), (6, vp 10 0), (7, vp 13 0), (8, vs 12), (45, vb ((len x_15.2) == 0))] [] [] [] (by kernel_rfl) ?_
     refine SC.if' rfl hp (fun hp => ?_) (fun hp => ?_)
     · refine SC.r tk [(6, vp 10 0)] [(10, 52, (C_wirelesslaw51_pair ({ c_14 with l := x_15.1, got := x_1.got, ended := x_1.ended }) (.s 6) (.s 7) (.s 11) (.s 8) (.s 4)))] [] [] (by kernel_rfl) ?_
       obtain rfl := some_inv' hp
       exact SC.re (js := [.g 0, .g 1, .g 2, .g 3, .g 4, .g 6, .g 7, .g 11, .g 8, .g 4]) tk (by kernel_rfl)
     · refine SC.skipThen ?_
       refine SC.seq ?_
       refine SC.seq ?_
       refine SC.reg ?_
       obtain ⟨x_16, e_x_16, hp⟩ := bind_inv hp
       refine SL.pre (pre_ix (i := 12) (iv := 0) (sz := 10) (R := R_T_api_Lower) (l := x_15.2) (by kernel_rfl) rfl e_x_16) ?_
       refine SL.sim tk 6 [(2, vi .i64 now_3), (3, vp 5 0), (4, vp 9 0), (6, vp 10 0), (7, vp 13 0), (8, vs 12), (52, vb (x_16.Opcode != 1))] [] [.el 14] [0] (by kernel_rfl) ?_
       obtain ⟨z_18, hz, hpr⟩ := bind_inv hp
       clear hp
       refine SL.cutAt 7 (fun a w => A 114 5 fx [(2, vi .i64 now_3), (3, vp 5 0), (4, vp 10 0), (6, vp 11 0), (7, vp 12 0), (8, vs 13), (59, vb z_18)] [.gone, .gone, .gone, .gone, .own 1 31 (RInt .u32) x_1.got, .blk 52 (C_wirelesslaw51_pair ({ c_14 with l := x_15.1, got := x_1.got, ended := x_1.ended }) (.s 6) (.s 7) (.s 8) (.s 9) (.s 4)), .rd 18 R_T_api_Queued c_14.f.Queue, .rd 1 (RInt .u16) c_14.f.Subs, .rd 1 (RInt .u16) x_15.1.Subs, .own 1 31 (RInt .u32) c_14.kept, .blk 55 (C_wirelesslaw51_Event e_2), .blk 52 (C_wirelesslaw51_pair (T_wirelesslaw51_pair.mk (T_api_Friend.mk 0 [] [] 0 false 0 0 0) (T_api_LowPower.mk 0 0 0 0 0 0 [] 0 false 0) [] [] false) nl nl nl nl nl), .blk 47 (C_api_LowPower x_15.1 (.s 8)), .rd 10 R_T_api_Lower x_15.2] a w) ?_ ?_
       · have hp := hz
         rcases Bool.eq_false_or_eq_true ((x_16.Opcode != 1)) with hg_17 | hg_17
         · replace hp := if_t hp hg_17
           refine SL.no rfl rfl hg_17 rfl ?_
           refine SL.no rfl rfl hg_17 rfl ?_
           refine SL.no rfl rfl hg_17 rfl ?_
           refine SL.no rfl rfl hg_17 rfl ?_
           refine SL.no rfl rfl hg_17 rfl ?_
           refine SL.no rfl rfl hg_17 rfl ?_
           refine SL.pickt rfl hg_17 rfl rfl ?_
           refine SL.nilJ fun a w h => ?_
           obtain rfl := some_inv' hp
           exact h.at (js := [.g 0, .g 1, .g 2, .g 3, .g 4, .g 5, .g 6, .g 7, .g 11, .g 8, .g 9, .g 10, .g 13, .g 12]) (by kernel_rfl)
         · replace hp := if_f hp hg_17
           refine SL.yes rfl rfl hg_17 ?_
           refine SL.sim tk 1 [(2, vi .i64 now_3), (3, vp 5 0), (4, vp 9 0), (6, vp 10 0), (7, vp 13 0), (8, vs 12), (52, vb (x_16.Opcode != 1)), (53, vs 12)] [] [] [] (by kernel_rfl) ?_
           refine SL.yes rfl rfl hg_17 ?_
           obtain ⟨x_2439, e_x_2439, hp⟩ := bind_inv hp
           refine SL.pre (pre_ix (i := 12) (iv := 0) (sz := 10) (R := R_T_api_Lower) (l := x_15.2) (by kernel_rfl) rfl e_x_2439) ?_
           refine SL.sim tk 1 [(2, vi .i64 now_3), (3, vp 5 0), (4, vp 9 0), (6, vp 10 0), (7, vp 13 0), (8, vs 12), (52, vb (x_16.Opcode != 1)), (54, vp 16 0)] [] [.el 16] [0] (by kernel_rfl) ?_
           refine SL.yes rfl rfl hg_17 ?_
           refine SL.sim tk 1 [(2, vi .i64 now_3), (3, vp 5 0), (4, vp 9 0), (6, vp 10 0), (7, vp 13 0), (8, vs 12), (52, vb (x_16.Opcode != 1)), (55, vp 16 9)] [] [] [] (by kernel_rfl) ?_
           refine SL.yes rfl rfl hg_17 ?_
           refine SL.sim tk 1 [(2, vi .i64 now_3), (3, vp 5 0), (4, vp 9 0), (6, vp 10 0), (7, vp 13 0), (8, vs 12), (52, vb (x_16.Opcode != 1)), (56, vs 17)] [] [] [] (by kernel_rfl) ?_
           refine SL.yes rfl rfl hg_17 ?_
           refine SL.sim tk 1 [(2, vi .i64 now_3), (3, vp 5 0), (4, vp 9 0), (6, vp 10 0), (7, vp 13 0), (8, vs 12), (52, vb (x_16.Opcode != 1)), (57, vi .i64 (len x_2439.Bytes))] [] [] [] (by kernel_rfl) ?_
           refine SL.yes rfl rfl hg_17 ?_
           refine SL.sim tk 1 [(2, vi .i64 now_3), (3, vp 5 0), (4, vp 9 0), (6, vp 10 0), (7, vp 13 0), (8, vs 12), (52, vb (x_16.Opcode != 1)), (58, vb ((len x_2439.Bytes) != 1))] [] [] [] (by kernel_rfl) ?_
           refine SL.pickf rfl hg_17 rfl rfl ?_
           refine SL.nilJ fun a w h => ?_
           obtain rfl := some_inv' hp
           exact h.at (js := [.g 0, .g 1, .g 2, .g 3, .g 4, .g 5, .g 6, .g 7, .g 11, .g 8, .g 9, .g 10, .g 13, .g 12]) (by kernel_rfl)
       · intro a w h
         have hp := hpr; clear hpr hz
         refine h.goL ?_
         refine SL.nilThen ?_
         refine SC.if' rfl hp (fun hp => ?_) (fun hp => ?_)
         · refine SC.r tk [(3, vp 5 0), (6, vp 11 0)] [(5, 52, (C_wirelesslaw51_pair ({ c_14 with l := x_15.1, got := x_1.got, ended := true }) (.s 6) (.s 7) (.s 8) (.s 9) (.s 4)))] [] [] (by kernel_rfl) ?_
           refine SC.r tk [(6, vp 11 0)] [(11, 52, (C_wirelesslaw51_pair ({ c_14 with l := x_15.1, got := x_1.got, ended := true }) (.s 6) (.s 7) (.s 8) (.s 9) (.s 4)))] [] [] (by kernel_rfl) ?_
           obtain rfl := some_inv' hp
           exact SC.re (js := [.g 0, .g 1, .g 2, .g 3, .g 4, .g 6, .g 7, .g 8, .g 9, .g 4]) tk (by kernel_rfl)
         · refine SC.skipThen ?_
           refine SC.seq ?_
           refine SC.r tk [(2, vi .i64 now_3), (3, vp 5 0), (4, vp 10 0), (6, vp 11 0), (7, vp 12 0), (8, vs 13), (63, vb e_2.PollLost)] [] [] [] (by kernel_rfl) ?_
           refine SC.if' rfl hp (fun hp => ?_) (fun hp => ?_)
           · refine SC.r tk [(6, vp 11 0)] [(11, 52, (C_wirelesslaw51_pair ({ c_14 with l := x_15.1, got := x_1.got, ended := x_1.ended }) (.s 6) (.s 7) (.s 8) (.s 9) (.s 4)))] [] [] (by kernel_rfl) ?_
             obtain rfl := some_inv' hp
             exact SC.re (js := [.g 0, .g 1, .g 2, .g 3, .g 4, .g 6, .g 7, .g 8, .g 9, .g 4]) tk (by kernel_rfl)
           · refine SC.skipThen ?_
             refine SC.cut (fun a w => ∃ (c_27 : T_api_Friend) (l_28 : (List T_api_Queued)), wirelesslaw51_pair_tick_j2 F x_1 e_2 now_3 c_14 x_15 c_27 l_28 = some r ∧ A 114 5 fx [(2, vi .i64 now_3), (3, vp 5 0), (4, vp 10 0), (6, vp 11 0), (7, vp 12 0), (9, vp 13 0), (10, vs 16)] [.gone, .gone, .gone, .gone, .own 1 31 (RInt .u32) x_1.got, .blk 52 (C_wirelesslaw51_pair ({ c_14 with l := x_15.1, got := x_1.got, ended := x_1.ended }) (.s 6) (.s 7) (.s 8) (.s 9) (.s 4)), .rd 18 R_T_api_Queued c_14.f.Queue, .rd 1 (RInt .u16) c_14.f.Subs, .rd 1 (RInt .u16) x_15.1.Subs, .own 1 31 (RInt .u32) c_14.kept, .blk 55 (C_wirelesslaw51_Event e_2), .blk 52 (C_wirelesslaw51_pair (T_wirelesslaw51_pair.mk (T_api_Friend.mk 0 [] [] 0 false 0 0 0) (T_api_LowPower.mk 0 0 0 0 0 0 [] 0 false 0) [] [] false) nl nl nl nl nl), .blk 47 (C_api_LowPower x_15.1 (.s 8)), .blk 28 (C_api_Friend c_27 (.s 14) (.s 15)), .rd 18 R_T_api_Queued c_27.Queue, .rd 1 (RInt .u16) c_27.Subs, .rd 18 R_T_api_Queued l_28] a w) ?_ ?_
             · obtain ⟨x_994, e_x_994, hp⟩ := bind_inv hp
               obtain ⟨x_995, e_x_995, hp⟩ := bind_inv hp
               refine SC.pre (pre_ix (i := 13) (iv := 0) (sz := 10) (R := R_T_api_Lower) (l := x_15.2) (by kernel_rfl) rfl e_x_994) ?_
               refine SC.pre (pre_ix (i := 15) (iv := 0) (sz := 1) (R := R8) (l := x_994.Bytes) (by kernel_rfl) rfl e_x_995) ?_
               refine SC.draw MO [O, O, O, O, I, I, I, I, I, I, I, I, I, I, I, I, I] (by kernel_rfl) fun kap_996 D_997 => ?_
               refine SD.takes tk D_997 [] kn0 [0, 1, 2, 3, 4, 5, 6, 7, 8, 9] [.el 14, .el 16] [0, 0] [I, I, I, I, I, I, I, I, I, I, O, O, O, O, O, O, O] [(2, vi .i64 now_3), (3, vp 5 0), (4, vp 10 0), (6, vp 11 0), (7, vp 12 0), (67, .g (C_api_Friend c_14.f (.s 6) (.s 7))), (74, vi .i64 (w64 x_995)), (75, vi .i64 now_3)] rfl (by kernel_rfl) (by kernel_rfl) (by kernel_rfl) ?_
               obtain ⟨x_1798, e_x_1798, hp⟩ := bind_inv hp
               refine SD.lay 0 [I, I, I, I, I, I, I, I, I, I, I, I, I, I, I, I, I] [(2, vi .i64 now_3), (3, vp 5 0), (4, vp 10 0), (6, vp 11 0), (7, vp 12 0), (9, vp 20 0), (10, vs 19)] [.gone, .gone, .gone, .gone, .own 1 31 (RInt .u32) x_1.got, .blk 52 (C_wirelesslaw51_pair ({ c_14 with l := x_15.1, got := x_1.got, ended := x_1.ended }) (.s 6) (.s 7) (.s 8) (.s 9) (.s 4)), .rd 18 R_T_api_Queued c_14.f.Queue, .rd 1 (RInt .u16) c_14.f.Subs, .rd 1 (RInt .u16) x_15.1.Subs, .own 1 31 (RInt .u32) c_14.kept, .blk 55 (C_wirelesslaw51_Event e_2), .blk 52 (C_wirelesslaw51_pair (T_wirelesslaw51_pair.mk (T_api_Friend.mk 0 [] [] 0 false 0 0 0) (T_api_LowPower.mk 0 0 0 0 0 0 [] 0 false 0) [] [] false) nl nl nl nl nl), .blk 47 (C_api_LowPower x_15.1 (.s 8)), .rd 10 R_T_api_Lower x_15.2, .elt (some (13, 0)) false (C_api_Lower x_994 (.s 15)), .rd 1 R8 x_994.Bytes, .elt (some (15, 0)) false [ci .u8 x_995], .rd 18 R_T_api_Queued x_1798.1.Queue, .rd 1 (RInt .u16) x_1798.1.Subs, .rd 18 R_T_api_Queued x_1798.2, .blk 28 (C_api_Friend x_1798.1 (.s 17) (.s 18))] ?_ (fun c_997_0 => ?_)
               · refine SD.done (by kernel_rfl) fun a w h => ?_
                 exact ⟨x_1798.1, x_1798.2, hp, h.at (js := [.g 0, .g 1, .g 2, .g 3, .g 4, .g 5, .g 6, .g 7, .g 8, .g 9, .g 10, .g 11, .g 12, .g 20, .g 17, .g 18, .g 19]) (by kernel_rfl)⟩
               · refine SD.lay 2 [I, I, I, I, I, I, I, I, I, I, I, I, I, I, I, O, O] [(2, vi .i64 now_3), (3, vp 5 0), (4, vp 10 0), (6, vp 11 0), (7, vp 12 0), (9, vp 20 0), (77, .g (C_api_Friend x_1798.1 (.s 17) (.s 18))), (78, vs 19)] [.gone, .gone, .gone, .gone, .own 1 31 (RInt .u32) x_1.got, .blk 52 (C_wirelesslaw51_pair ({ c_14 with l := x_15.1, got := x_1.got, ended := x_1.ended }) (.s 6) (.s 7) (.s 8) (.s 9) (.s 4)), .rd 18 R_T_api_Queued c_14.f.Queue, .rd 1 (RInt .u16) c_14.f.Subs, .rd 1 (RInt .u16) x_15.1.Subs, .own 1 31 (RInt .u32) c_14.kept, .blk 55 (C_wirelesslaw51_Event e_2), .blk 52 (C_wirelesslaw51_pair (T_wirelesslaw51_pair.mk (T_api_Friend.mk 0 [] [] 0 false 0 0 0) (T_api_LowPower.mk 0 0 0 0 0 0 [] 0 false 0) [] [] false) nl nl nl nl nl), .blk 47 (C_api_LowPower x_15.1 (.s 8)), .rd 10 R_T_api_Lower x_15.2, .elt (some (13, 0)) false (C_api_Lower x_994 (.s 15)), .rd 1 R8 x_994.Bytes, .elt (some (15, 0)) false [ci .u8 x_995], .rd 18 R_T_api_Queued x_1798.1.Queue, .rd 1 (RInt .u16) x_1798.1.Subs, .rd 18 R_T_api_Queued x_1798.2, .blk 28 (C_api_Friend (T_api_Friend.mk 0 [] [] 0 false 0 0 0) nl nl)] ?_ (fun c_997_1 => ?_)
                 · refine SD.all1 (i := 15) (by kernel_rfl) ?_
                   refine SW.store D_997 tk (i := 15) (q := 20) (T := 28) (cs := (C_api_Friend x_1798.1 (.s 17) (.s 18))) (bs' := [I, I, I, I, I, I, I, I, I, I, I, I, I, I, I, I, O]) rfl (by kernel_rfl) rfl rfl (by kernel_rfl) ?_
                   refine SD.takes tk D_997 [] kn0 [16] [] [] [I, I, I, I, I, I, I, I, I, I, I, I, I, I, I, I, I] [(2, vi .i64 now_3), (3, vp 5 0), (4, vp 10 0), (6, vp 11 0), (7, vp 12 0), (9, vp 20 0), (10, vs 19)] rfl (by kernel_rfl) (by kernel_rfl) (by kernel_rfl) ?_
                   exact SD.vie D_997 [.g 0, .g 1, .g 2, .g 3, .g 4, .g 5, .g 6, .g 7, .g 8, .g 9, .g 10, .g 11, .g 12, .g 13, .g 14, .g 15, .g 16, .g 17, .g 18, .g 19, .g 20] c_997_0 (by kernel_rfl)
                 · refine SD.lay 3 [I, I, I, I, I, I, I, I, I, I, I, I, I, I, O, O, O] [(2, vi .i64 now_3), (3, vp 5 0), (4, vp 10 0), (6, vp 11 0), (7, vp 12 0), (77, .g (C_api_Friend x_1798.1 (.s 17) (.s 18))), (78, vs 19)] [.gone, .gone, .gone, .gone, .own 1 31 (RInt .u32) x_1.got, .blk 52 (C_wirelesslaw51_pair ({ c_14 with l := x_15.1, got := x_1.got, ended := x_1.ended }) (.s 6) (.s 7) (.s 8) (.s 9) (.s 4)), .rd 18 R_T_api_Queued c_14.f.Queue, .rd 1 (RInt .u16) c_14.f.Subs, .rd 1 (RInt .u16) x_15.1.Subs, .own 1 31 (RInt .u32) c_14.kept, .blk 55 (C_wirelesslaw51_Event e_2), .blk 52 (C_wirelesslaw51_pair (T_wirelesslaw51_pair.mk (T_api_Friend.mk 0 [] [] 0 false 0 0 0) (T_api_LowPower.mk 0 0 0 0 0 0 [] 0 false 0) [] [] false) nl nl nl nl nl), .blk 47 (C_api_LowPower x_15.1 (.s 8)), .rd 10 R_T_api_Lower x_15.2, .elt (some (13, 0)) false (C_api_Lower x_994 (.s 15)), .rd 1 R8 x_994.Bytes, .elt (some (15, 0)) false [ci .u8 x_995], .rd 18 R_T_api_Queued x_1798.1.Queue, .rd 1 (RInt .u16) x_1798.1.Subs, .rd 18 R_T_api_Queued x_1798.2] ?_ (fun c_997_2 => ?_)
                   · refine SD.all1 (i := 14) (by kernel_rfl) ?_
                     refine SW.eff D_997 (i := 14) (bs' := [I, I, I, I, I, I, I, I, I, I, I, I, I, I, I, O, O]) rfl (.inl rfl) rfl (e_alloc (E := 28) tk (C_api_Friend (T_api_Friend.mk 0 [] [] 0 false 0 0 0) nl nl) (by kernel_rfl)) (by kernel_rfl) rfl (by kernel_rfl) ?_
                     exact SD.vie D_997 [.g 0, .g 1, .g 2, .g 3, .g 4, .g 5, .g 6, .g 7, .g 8, .g 9, .g 10, .g 11, .g 12, .g 13, .g 14, .g 15, .g 16, .g 17, .g 18, .g 19, .g 20] c_997_1 (by kernel_rfl)
                   · refine SD.lay 6 [I, I, I, I, I, I, I, I, I, I, O, O, O, O, I, O, O] [(2, vi .i64 now_3), (3, vp 5 0), (4, vp 10 0), (6, vp 11 0), (7, vp 12 0), (9, vp 17 0), (67, .g (C_api_Friend c_14.f (.s 6) (.s 7))), (74, vi .i64 (w64 x_995)), (75, vi .i64 now_3)] [.gone, .gone, .gone, .gone, .own 1 31 (RInt .u32) x_1.got, .blk 52 (C_wirelesslaw51_pair ({ c_14 with l := x_15.1, got := x_1.got, ended := x_1.ended }) (.s 6) (.s 7) (.s 8) (.s 9) (.s 4)), .rd 18 R_T_api_Queued c_14.f.Queue, .rd 1 (RInt .u16) c_14.f.Subs, .rd 1 (RInt .u16) x_15.1.Subs, .own 1 31 (RInt .u32) c_14.kept, .blk 55 (C_wirelesslaw51_Event e_2), .blk 52 (C_wirelesslaw51_pair (T_wirelesslaw51_pair.mk (T_api_Friend.mk 0 [] [] 0 false 0 0 0) (T_api_LowPower.mk 0 0 0 0 0 0 [] 0 false 0) [] [] false) nl nl nl nl nl), .blk 47 (C_api_LowPower x_15.1 (.s 8)), .rd 10 R_T_api_Lower x_15.2, .elt (some (13, 0)) false (C_api_Lower x_994 (.s 15)), .rd 1 R8 x_994.Bytes, .elt (some (15, 0)) false [ci .u8 x_995], .blk 28 (C_api_Friend (T_api_Friend.mk 0 [] [] 0 false 0 0 0) nl nl)] ?_ (fun c_997_3 => ?_)
                     · refine SD.all1 (i := 10) (by kernel_rfl) ?_
                       refine SW.eff D_997 (i := 10) (bs' := [I, I, I, I, I, I, I, I, I, I, I, O, O, O, I, O, O]) rfl (.inl rfl) rfl (e_c Try.call9 (ok_friend_Poll F c_14.f (w64 x_995) now_3 _ e_x_1798) [.g 6, .g 7] [.g (C_api_Friend c_14.f (.s 6) (.s 7)), vi .i64 (w64 x_995), vi .i64 now_3] (.u [.inr (C_api_Friend x_1798.1 (.s 18) (.s 19)), .inl (.s 20)]) (by kernel_rfl) (.inl rfl)) (by kernel_rfl) rfl (by kernel_rfl) ?_
                       refine SD.takes tk D_997 [] kn0 [11, 12, 13] [] [] [I, I, I, I, I, I, I, I, I, I, I, I, I, I, I, O, O] [(2, vi .i64 now_3), (3, vp 5 0), (4, vp 10 0), (6, vp 11 0), (7, vp 12 0), (9, vp 17 0), (77, .g (C_api_Friend x_1798.1 (.s 18) (.s 19))), (78, vs 20)] rfl (by kernel_rfl) (by kernel_rfl) (by kernel_rfl) ?_
                       exact SD.vie D_997 [.g 0, .g 1, .g 2, .g 3, .g 4, .g 5, .g 6, .g 7, .g 8, .g 9, .g 10, .g 11, .g 12, .g 13, .g 14, .g 15, .g 16, .g 18, .g 19, .g 20, .g 17] c_997_1 (by kernel_rfl)
                     · refine SD.all2 (i := 10) (j := 14) (by kernel_rfl) ?_ ?_
                       · refine SW.eff D_997 (i := 10) (bs' := [I, I, I, I, I, I, I, I, I, I, I, O, O, O, O, O, O]) rfl (.inl rfl) rfl (e_c Try.call9 (ok_friend_Poll F c_14.f (w64 x_995) now_3 _ e_x_1798) [.g 6, .g 7] [.g (C_api_Friend c_14.f (.s 6) (.s 7)), vi .i64 (w64 x_995), vi .i64 now_3] (.u [.inr (C_api_Friend x_1798.1 (.s 17) (.s 18)), .inl (.s 19)]) (by kernel_rfl) (.inl rfl)) (by kernel_rfl) rfl (by kernel_rfl) ?_
                         refine SD.takes tk D_997 [] kn0 [11, 12, 13] [] [] [I, I, I, I, I, I, I, I, I, I, I, I, I, I, O, O, O] [(2, vi .i64 now_3), (3, vp 5 0), (4, vp 10 0), (6, vp 11 0), (7, vp 12 0), (77, .g (C_api_Friend x_1798.1 (.s 17) (.s 18))), (78, vs 19)] rfl (by kernel_rfl) (by kernel_rfl) (by kernel_rfl) ?_
                         exact SD.vie D_997 [.g 0, .g 1, .g 2, .g 3, .g 4, .g 5, .g 6, .g 7, .g 8, .g 9, .g 10, .g 11, .g 12, .g 13, .g 14, .g 15, .g 16, .g 17, .g 18, .g 19] c_997_2 (by kernel_rfl)
                       · refine SW.eff D_997 (i := 14) (bs' := [I, I, I, I, I, I, I, I, I, I, O, O, O, O, I, O, O]) rfl (.inl rfl) rfl (e_alloc (E := 28) tk (C_api_Friend (T_api_Friend.mk 0 [] [] 0 false 0 0 0) nl nl) (by kernel_rfl)) (by kernel_rfl) rfl (by kernel_rfl) ?_
                         exact SD.vie D_997 [.g 0, .g 1, .g 2, .g 3, .g 4, .g 5, .g 6, .g 7, .g 8, .g 9, .g 10, .g 11, .g 12, .g 13, .g 14, .g 15, .g 16, .g 17] c_997_3 (by kernel_rfl)
             · rintro a w ⟨c_27, l_28, hp, h⟩
               refine h.go ?_
               refine SC.r tk [(2, vi .i64 now_3), (3, vp 5 0), (4, vp 10 0), (6, vp 11 0), (7, vp 12 0), (9, vp 13 0), (10, vs 16)] [(5, 52, (C_wirelesslaw51_pair ({ x_1 with f := c_27, l := x_15.1, kept := c_14.kept }) (.s 14) (.s 15) (.s 8) (.s 9) (.s 4)))] [] [] (by kernel_rfl) ?_
               refine SC.seq ?_
               refine SC.r tk [(2, vi .i64 now_3), (3, vp 5 0), (6, vp 11 0), (7, vp 12 0), (9, vp 13 0), (10, vs 16), (82, vb e_2.AnswerLost)] [] [] [] (by kernel_rfl) ?_
               refine SC.if' rfl hp (fun hp => ?_) (fun hp => ?_)
               · refine SC.r tk [(6, vp 11 0)] [(11, 52, (C_wirelesslaw51_pair ({ x_1 with f := c_27, l := x_15.1, kept := c_14.kept }) (.s 14) (.s 15) (.s 8) (.s 9) (.s 4)))] [] [] (by kernel_rfl) ?_
                 obtain rfl := some_inv' hp
                 exact SC.re (js := [.g 0, .g 1, .g 2, .g 3, .g 4, .g 14, .g 15, .g 8, .g 9, .g 4]) tk (by kernel_rfl)
               · refine SC.skipThen ?_
                 refine SC.seq ?_
                 refine SC.reg ?_
                 refine SL.sim tk 7 [(3, vp 5 0), (6, vp 11 0), (7, vp 12 0), (10, vs 16), (86, .g (C_api_LowPower x_15.1 (.s 8))), (90, vb (decide ((len c_27.Queue) > 1))), (91, vi .i64 now_3)] [] [] [] (by kernel_rfl) ?_
                 obtain ⟨x_29, e_x_29, hp⟩ := bind_inv hp
                 refine SL.eff (e_c Try.call34 (ok_friend_Got F x_15.1 9 (decide ((len c_27.Queue) > 1)) now_3 _ e_x_29) [.g 8] [.g (C_api_LowPower x_15.1 (.s 8)), vi .u16 9, vb (decide ((len c_27.Queue) > 1)), vi .i64 now_3] (.u [.inr (C_api_LowPower x_29.1 (.s 17)), .inl (cb x_29.2)]) (by kernel_rfl) (.inl rfl)) rfl (by kernel_rfl) ?_
                 refine SL.sim tk 5 [(3, vp 5 0), (6, vp 11 0), (7, vp 12 0), (10, vs 16), (11, vb x_29.2)] [(12, 47, (C_api_LowPower x_29.1 (.s 17)))] [] [] (by kernel_rfl) ?_
                 refine SL.nilThen ?_
                 refine SC.r tk [(3, vp 5 0), (6, vp 11 0), (10, vs 16), (11, vb x_29.2)] [(5, 52, (C_wirelesslaw51_pair ({ x_1 with f := c_27, l := x_29.1, kept := c_14.kept }) (.s 14) (.s 15) (.s 17) (.s 9) (.s 4)))] [] [] (by kernel_rfl) ?_
                 refine SC.cut (fun a w => ∃ (l_30 : (List Int)), wirelesslaw51_pair_tick_j3 F x_1 c_14 c_27 x_29 l_30 = some r ∧ A 114 5 fx [(3, vp 5 0), (6, vp 11 0)] [.gone, .gone, .gone, .gone, .gone, .blk 52 (C_wirelesslaw51_pair ({ c_14 with f := c_27, l := x_29.1, got := l_30, ended := x_1.ended }) (.s 6) (.s 7) (.s 8) (.s 9) (.s 10)), .rd 18 R_T_api_Queued c_27.Queue, .rd 1 (RInt .u16) c_27.Subs, .rd 1 (RInt .u16) x_29.1.Subs, .own 1 31 (RInt .u32) c_14.kept, .own 1 31 (RInt .u32) l_30, .blk 52 (C_wirelesslaw51_pair (T_wirelesslaw51_pair.mk (T_api_Friend.mk 0 [] [] 0 false 0 0 0) (T_api_LowPower.mk 0 0 0 0 0 0 [] 0 false 0) [] [] false) nl nl nl nl nl)] a w) ?_ ?_
                 · refine SC.r tk [(3, vp 5 0), (6, vp 11 0), (10, vs 16), (102, vb (x_29.2 && (decide ((len l_28) > 0))))] [] [] [] (by kernel_rfl) ?_
                   refine SC.if' rfl hp (fun hp => ?_) (fun hp => ?_)
                   · obtain ⟨x_31, e_x_31, hp⟩ := bind_inv hp
                     refine SC.pre (pre_ix (i := 16) (iv := 0) (sz := 18) (R := R_T_api_Queued) (l := l_28) (by kernel_rfl) rfl e_x_31) ?_
                     refine SC.draw MO [O, O, O, O, O, O, I, I, I, I, I, I, I, I, I, I, I, I, I, I, I] (by kernel_rfl) fun kap_32 D_33 => ?_
                     refine SD.takes tk D_33 [] kn0 [2, 3, 4, 5, 6] [.el 18] [0] [O, O, I, I, I, I, I, O, O, O, O] [(3, vp 5 0), (6, vp 11 0), (109, vi .u32 x_31.PDU.Seq)] rfl (by kernel_rfl) (by kernel_rfl) (by kernel_rfl) ?_
                     obtain ⟨l_674, e_l_674, hp⟩ := bind_inv hp
                     refine SD.lay 0 [I, I, I, I, I, I, I, I, I, I, I] [(3, vp 5 0), (6, vp 11 0)] [.gone, .gone, .gone, .gone, .gone, .blk 52 (C_wirelesslaw51_pair ({ c_14 with f := c_27, l := x_29.1, got := l_674, ended := x_1.ended }) (.s 14) (.s 15) (.s 17) (.s 9) (.s 22)), .rd 18 R_T_api_Queued c_14.f.Queue, .rd 1 (RInt .u16) c_14.f.Subs, .rd 1 (RInt .u16) x_15.1.Subs, .own 1 31 (RInt .u32) c_14.kept, .blk 55 (C_wirelesslaw51_Event e_2), .blk 52 (C_wirelesslaw51_pair (T_wirelesslaw51_pair.mk (T_api_Friend.mk 0 [] [] 0 false 0 0 0) (T_api_LowPower.mk 0 0 0 0 0 0 [] 0 false 0) [] [] false) nl nl nl nl nl), .blk 47 (C_api_LowPower x_29.1 (.s 17)), .blk 28 (C_api_Friend c_27 (.s 14) (.s 15)), .rd 18 R_T_api_Queued c_27.Queue, .rd 1 (RInt .u16) c_27.Subs, .rd 18 R_T_api_Queued l_28, .rd 1 (RInt .u16) x_29.1.Subs, .elt (some (16, 0)) false (C_api_Queued x_31 (.s 19) (.s 20)), .rd 1 R8 x_31.PDU.Payload, .rd 1 R8 x_31.Lower.Bytes, .gone, .own 1 31 (RInt .u32) l_674] ?_ (fun c_33_0 => ?_)
                     · refine SD.done (by kernel_rfl) fun a w h => ?_
                       exact ⟨l_674, hp, h.at (js := [.g 0, .g 1, .g 2, .g 3, .g 4, .g 5, .g 14, .g 15, .g 17, .g 9, .g 22, .g 11]) (by kernel_rfl)⟩
                     · refine SD.lay 1 [I, I, I, I, I, I, I, I, I, I, O] [(3, vp 5 0), (6, vp 11 0), (111, vs 22), (112, vp 5 19)] [.gone, .gone, .gone, .gone, .gone, .blk 52 [ci .u16 c_27.Low, .s 14, .s 15, ci .i64 c_27.Bit, cb c_27.Sent, ci .i64 c_27.Polled, ci .i64 c_27.Counter, ci .i64 c_27.Dropped, ci .i64 x_29.1.Phase, ci .u16 x_29.1.Friend, ci .i64 x_29.1.Bit, ci .i64 x_29.1.Counter, ci .i64 x_29.1.Due, ci .i64 x_29.1.Tries, .s 17, ci .i64 x_29.1.Told, cb x_29.1.More, ci .i64 x_29.1.Last, .s 9, .s 4, cb x_1.ended], .rd 18 R_T_api_Queued c_14.f.Queue, .rd 1 (RInt .u16) c_14.f.Subs, .rd 1 (RInt .u16) x_15.1.Subs, .own 1 31 (RInt .u32) c_14.kept, .blk 55 (C_wirelesslaw51_Event e_2), .blk 52 (C_wirelesslaw51_pair (T_wirelesslaw51_pair.mk (T_api_Friend.mk 0 [] [] 0 false 0 0 0) (T_api_LowPower.mk 0 0 0 0 0 0 [] 0 false 0) [] [] false) nl nl nl nl nl), .blk 47 (C_api_LowPower x_29.1 (.s 17)), .blk 28 (C_api_Friend c_27 (.s 14) (.s 15)), .rd 18 R_T_api_Queued c_27.Queue, .rd 1 (RInt .u16) c_27.Subs, .rd 18 R_T_api_Queued l_28, .rd 1 (RInt .u16) x_29.1.Subs, .elt (some (16, 0)) false (C_api_Queued x_31 (.s 19) (.s 20)), .rd 1 R8 x_31.PDU.Payload, .rd 1 R8 x_31.Lower.Bytes, .gone, .own 1 31 (RInt .u32) l_674] ?_ (fun c_33_1 => ?_)
                       · refine SD.all1 (i := 10) (by kernel_rfl) ?_
                         refine SW.store D_33 tk (i := 10) (q := 5) (T := 52) (cs := (C_wirelesslaw51_pair ({ c_14 with f := c_27, l := x_29.1, got := l_674, ended := x_1.ended }) (.s 14) (.s 15) (.s 17) (.s 9) (.s 22))) (bs' := [I, I, I, I, I, I, I, I, I, I, I]) rfl (by kernel_rfl) rfl rfl (by kernel_rfl) ?_
                         exact SD.vie D_33 [.g 0, .g 1, .g 2, .g 3, .g 4, .g 5, .g 6, .g 7, .g 8, .g 9, .g 10, .g 11, .g 12, .g 13, .g 14, .g 15, .g 16, .g 17, .g 18, .g 19, .g 20, .n, .g 22] c_33_0 (by kernel_rfl)
                       · refine SD.lay 2 [I, I, I, I, I, I, I, I, I, O, O] [(3, vp 5 0), (6, vp 11 0), (111, vs 22)] [.gone, .gone, .gone, .gone, .gone, .blk 52 [ci .u16 c_27.Low, .s 14, .s 15, ci .i64 c_27.Bit, cb c_27.Sent, ci .i64 c_27.Polled, ci .i64 c_27.Counter, ci .i64 c_27.Dropped, ci .i64 x_29.1.Phase, ci .u16 x_29.1.Friend, ci .i64 x_29.1.Bit, ci .i64 x_29.1.Counter, ci .i64 x_29.1.Due, ci .i64 x_29.1.Tries, .s 17, ci .i64 x_29.1.Told, cb x_29.1.More, ci .i64 x_29.1.Last, .s 9, .s 4, cb x_1.ended], .rd 18 R_T_api_Queued c_14.f.Queue, .rd 1 (RInt .u16) c_14.f.Subs, .rd 1 (RInt .u16) x_15.1.Subs, .own 1 31 (RInt .u32) c_14.kept, .blk 55 (C_wirelesslaw51_Event e_2), .blk 52 (C_wirelesslaw51_pair (T_wirelesslaw51_pair.mk (T_api_Friend.mk 0 [] [] 0 false 0 0 0) (T_api_LowPower.mk 0 0 0 0 0 0 [] 0 false 0) [] [] false) nl nl nl nl nl), .blk 47 (C_api_LowPower x_29.1 (.s 17)), .blk 28 (C_api_Friend c_27 (.s 14) (.s 15)), .rd 18 R_T_api_Queued c_27.Queue, .rd 1 (RInt .u16) c_27.Subs, .rd 18 R_T_api_Queued l_28, .rd 1 (RInt .u16) x_29.1.Subs, .elt (some (16, 0)) false (C_api_Queued x_31 (.s 19) (.s 20)), .rd 1 R8 x_31.PDU.Payload, .rd 1 R8 x_31.Lower.Bytes, .gone, .own 1 31 (RInt .u32) l_674] ?_ (fun c_33_2 => ?_)
                         · refine SD.all1 (i := 9) (by kernel_rfl) ?_
                           refine SW.eff D_33 (i := 9) (v := vp 5 19) (bs' := [I, I, I, I, I, I, I, I, I, I, O]) rfl (.inl rfl) rfl (e_val tk (by kernel_rfl)) (by kernel_rfl) rfl (by kernel_rfl) ?_
                           exact SD.vie D_33 [.g 0, .g 1, .g 2, .g 3, .g 4, .g 5, .g 6, .g 7, .g 8, .g 9, .g 10, .g 11, .g 12, .g 13, .g 14, .g 15, .g 16, .g 17, .g 18, .g 19, .g 20, .n, .g 22] c_33_1 (by kernel_rfl)
                         · refine SD.lay 3 [I, I, I, I, I, I, I, I, O, O, O] [(3, vp 5 0), (6, vp 11 0), (104, vs 4), (110, vs 21)] [.gone, .gone, .gone, .gone, .own 1 31 (RInt .u32) x_1.got, .blk 52 (C_wirelesslaw51_pair ({ x_1 with f := c_27, l := x_29.1, kept := c_14.kept }) (.s 14) (.s 15) (.s 17) (.s 9) (.s 4)), .rd 18 R_T_api_Queued c_14.f.Queue, .rd 1 (RInt .u16) c_14.f.Subs, .rd 1 (RInt .u16) x_15.1.Subs, .own 1 31 (RInt .u32) c_14.kept, .blk 55 (C_wirelesslaw51_Event e_2), .blk 52 (C_wirelesslaw51_pair (T_wirelesslaw51_pair.mk (T_api_Friend.mk 0 [] [] 0 false 0 0 0) (T_api_LowPower.mk 0 0 0 0 0 0 [] 0 false 0) [] [] false) nl nl nl nl nl), .blk 47 (C_api_LowPower x_29.1 (.s 17)), .blk 28 (C_api_Friend c_27 (.s 14) (.s 15)), .rd 18 R_T_api_Queued c_27.Queue, .rd 1 (RInt .u16) c_27.Subs, .rd 18 R_T_api_Queued l_28, .rd 1 (RInt .u16) x_29.1.Subs, .elt (some (16, 0)) false (C_api_Queued x_31 (.s 19) (.s 20)), .rd 1 R8 x_31.PDU.Payload, .rd 1 R8 x_31.Lower.Bytes, .own 1 31 (RInt .u32) [x_31.PDU.Seq]] ?_ (fun c_33_3 => ?_)
                           · refine SD.all1 (i := 8) (by kernel_rfl) ?_
                             refine SW.eff D_33 (i := 8) (bs' := [I, I, I, I, I, I, I, I, I, O, O]) rfl (.inl rfl) rfl (e_app (i := 4) (l := x_1.got) (sz := 1) (E := 31) (R := (RInt .u32)) (by_ := 4) (m := [x_31.PDU.Seq]) tk rfl (by kernel_rfl) rfl (.o 31 (by kernel_rfl)) e_l_674 (by kernel_rfl)) (by kernel_rfl) rfl (by kernel_rfl) ?_
                             exact SD.vie D_33 [.g 0, .g 1, .g 2, .g 3, .g 4, .g 5, .g 6, .g 7, .g 8, .g 9, .g 10, .g 11, .g 12, .g 13, .g 14, .g 15, .g 16, .g 17, .g 18, .g 19, .g 20, .n, .g 22] c_33_2 (by kernel_rfl)
                           · refine SD.lay 4 [I, I, I, I, I, I, I, O, O, O, O] [(3, vp 5 0), (6, vp 11 0), (104, vs 4), (109, vi .u32 x_31.PDU.Seq)] [.gone, .gone, .gone, .gone, .own 1 31 (RInt .u32) x_1.got, .blk 52 (C_wirelesslaw51_pair ({ x_1 with f := c_27, l := x_29.1, kept := c_14.kept }) (.s 14) (.s 15) (.s 17) (.s 9) (.s 4)), .rd 18 R_T_api_Queued c_14.f.Queue, .rd 1 (RInt .u16) c_14.f.Subs, .rd 1 (RInt .u16) x_15.1.Subs, .own 1 31 (RInt .u32) c_14.kept, .blk 55 (C_wirelesslaw51_Event e_2), .blk 52 (C_wirelesslaw51_pair (T_wirelesslaw51_pair.mk (T_api_Friend.mk 0 [] [] 0 false 0 0 0) (T_api_LowPower.mk 0 0 0 0 0 0 [] 0 false 0) [] [] false) nl nl nl nl nl), .blk 47 (C_api_LowPower x_29.1 (.s 17)), .blk 28 (C_api_Friend c_27 (.s 14) (.s 15)), .rd 18 R_T_api_Queued c_27.Queue, .rd 1 (RInt .u16) c_27.Subs, .rd 18 R_T_api_Queued l_28, .rd 1 (RInt .u16) x_29.1.Subs, .elt (some (16, 0)) false (C_api_Queued x_31 (.s 19) (.s 20)), .rd 1 R8 x_31.PDU.Payload, .rd 1 R8 x_31.Lower.Bytes] ?_ (fun c_33_4 => ?_)
                             · refine SD.all1 (i := 7) (by kernel_rfl) ?_
                               refine SW.eff D_33 (i := 7) (bs' := [I, I, I, I, I, I, I, I, O, O, O]) rfl (.inl rfl) rfl (e_lit (sz := 1) (E := 31) (R := (RInt .u32)) (by_ := 4) tk [[ci .u32 x_31.PDU.Seq]] [x_31.PDU.Seq] (by kernel_rfl) ⟨Clo.int, trivial⟩ rfl (by kernel_rfl) (by kernel_rfl)) (by kernel_rfl) rfl (by kernel_rfl) ?_
                               exact SD.vie D_33 [.g 0, .g 1, .g 2, .g 3, .g 4, .g 5, .g 6, .g 7, .g 8, .g 9, .g 10, .g 11, .g 12, .g 13, .g 14, .g 15, .g 16, .g 17, .g 18, .g 19, .g 20, .g 21] c_33_3 (by kernel_rfl)
                             · refine SD.lay 4 [I, O, I, I, I, I, I, I, O, O, O] [(3, vp 5 0), (6, vp 11 0), (103, vp 5 19), (110, vs 21)] [.gone, .gone, .gone, .gone, .own 1 31 (RInt .u32) x_1.got, .blk 52 (C_wirelesslaw51_pair ({ x_1 with f := c_27, l := x_29.1, kept := c_14.kept }) (.s 14) (.s 15) (.s 17) (.s 9) (.s 4)), .rd 18 R_T_api_Queued c_14.f.Queue, .rd 1 (RInt .u16) c_14.f.Subs, .rd 1 (RInt .u16) x_15.1.Subs, .own 1 31 (RInt .u32) c_14.kept, .blk 55 (C_wirelesslaw51_Event e_2), .blk 52 (C_wirelesslaw51_pair (T_wirelesslaw51_pair.mk (T_api_Friend.mk 0 [] [] 0 false 0 0 0) (T_api_LowPower.mk 0 0 0 0 0 0 [] 0 false 0) [] [] false) nl nl nl nl nl), .blk 47 (C_api_LowPower x_29.1 (.s 17)), .blk 28 (C_api_Friend c_27 (.s 14) (.s 15)), .rd 18 R_T_api_Queued c_27.Queue, .rd 1 (RInt .u16) c_27.Subs, .rd 18 R_T_api_Queued l_28, .rd 1 (RInt .u16) x_29.1.Subs, .elt (some (16, 0)) false (C_api_Queued x_31 (.s 19) (.s 20)), .rd 1 R8 x_31.PDU.Payload, .rd 1 R8 x_31.Lower.Bytes, .own 1 31 (RInt .u32) [x_31.PDU.Seq]] ?_ (fun c_33_5 => ?_)
                               · refine SD.all1 (i := 1) (by kernel_rfl) ?_
                                 refine SW.eff D_33 (i := 1) (v := vs 4) (bs' := [I, I, I, I, I, I, I, I, O, O, O]) rfl (.inl rfl) rfl (e_val tk (by kernel_rfl)) (by kernel_rfl) rfl (by kernel_rfl) ?_
                                 exact SD.vie D_33 [.g 0, .g 1, .g 2, .g 3, .g 4, .g 5, .g 6, .g 7, .g 8, .g 9, .g 10, .g 11, .g 12, .g 13, .g 14, .g 15, .g 16, .g 17, .g 18, .g 19, .g 20, .g 21] c_33_3 (by kernel_rfl)
                               · refine SD.lay 5 [I, O, I, I, I, I, I, O, O, O, O] [(3, vp 5 0), (6, vp 11 0), (103, vp 5 19), (109, vi .u32 x_31.PDU.Seq)] [.gone, .gone, .gone, .gone, .own 1 31 (RInt .u32) x_1.got, .blk 52 (C_wirelesslaw51_pair ({ x_1 with f := c_27, l := x_29.1, kept := c_14.kept }) (.s 14) (.s 15) (.s 17) (.s 9) (.s 4)), .rd 18 R_T_api_Queued c_14.f.Queue, .rd 1 (RInt .u16) c_14.f.Subs, .rd 1 (RInt .u16) x_15.1.Subs, .own 1 31 (RInt .u32) c_14.kept, .blk 55 (C_wirelesslaw51_Event e_2), .blk 52 (C_wirelesslaw51_pair (T_wirelesslaw51_pair.mk (T_api_Friend.mk 0 [] [] 0 false 0 0 0) (T_api_LowPower.mk 0 0 0 0 0 0 [] 0 false 0) [] [] false) nl nl nl nl nl), .blk 47 (C_api_LowPower x_29.1 (.s 17)), .blk 28 (C_api_Friend c_27 (.s 14) (.s 15)), .rd 18 R_T_api_Queued c_27.Queue, .rd 1 (RInt .u16) c_27.Subs, .rd 18 R_T_api_Queued l_28, .rd 1 (RInt .u16) x_29.1.Subs, .elt (some (16, 0)) false (C_api_Queued x_31 (.s 19) (.s 20)), .rd 1 R8 x_31.PDU.Payload, .rd 1 R8 x_31.Lower.Bytes] ?_ (fun c_33_6 => ?_)
                                 · refine SD.all2 (i := 1) (j := 7) (by kernel_rfl) ?_ ?_
                                   · refine SW.eff D_33 (i := 1) (v := vs 4) (bs' := [I, I, I, I, I, I, I, O, O, O, O]) rfl (.inl rfl) rfl (e_val tk (by kernel_rfl)) (by kernel_rfl) rfl (by kernel_rfl) ?_
                                     exact SD.vie D_33 [.g 0, .g 1, .g 2, .g 3, .g 4, .g 5, .g 6, .g 7, .g 8, .g 9, .g 10, .g 11, .g 12, .g 13, .g 14, .g 15, .g 16, .g 17, .g 18, .g 19, .g 20] c_33_4 (by kernel_rfl)
                                   · refine SW.eff D_33 (i := 7) (bs' := [I, O, I, I, I, I, I, I, O, O, O]) rfl (.inl rfl) rfl (e_lit (sz := 1) (E := 31) (R := (RInt .u32)) (by_ := 4) tk [[ci .u32 x_31.PDU.Seq]] [x_31.PDU.Seq] (by kernel_rfl) ⟨Clo.int, trivial⟩ rfl (by kernel_rfl) (by kernel_rfl)) (by kernel_rfl) rfl (by kernel_rfl) ?_
                                     exact SD.vie D_33 [.g 0, .g 1, .g 2, .g 3, .g 4, .g 5, .g 6, .g 7, .g 8, .g 9, .g 10, .g 11, .g 12, .g 13, .g 14, .g 15, .g 16, .g 17, .g 18, .g 19, .g 20, .g 21] c_33_5 (by kernel_rfl)
                                 · refine SD.lay 5 [O, O, I, I, I, I, I, I, O, O, O] [(3, vp 5 0), (6, vp 11 0), (110, vs 21)] [.gone, .gone, .gone, .gone, .own 1 31 (RInt .u32) x_1.got, .blk 52 (C_wirelesslaw51_pair ({ x_1 with f := c_27, l := x_29.1, kept := c_14.kept }) (.s 14) (.s 15) (.s 17) (.s 9) (.s 4)), .rd 18 R_T_api_Queued c_14.f.Queue, .rd 1 (RInt .u16) c_14.f.Subs, .rd 1 (RInt .u16) x_15.1.Subs, .own 1 31 (RInt .u32) c_14.kept, .blk 55 (C_wirelesslaw51_Event e_2), .blk 52 (C_wirelesslaw51_pair (T_wirelesslaw51_pair.mk (T_api_Friend.mk 0 [] [] 0 false 0 0 0) (T_api_LowPower.mk 0 0 0 0 0 0 [] 0 false 0) [] [] false) nl nl nl nl nl), .blk 47 (C_api_LowPower x_29.1 (.s 17)), .blk 28 (C_api_Friend c_27 (.s 14) (.s 15)), .rd 18 R_T_api_Queued c_27.Queue, .rd 1 (RInt .u16) c_27.Subs, .rd 18 R_T_api_Queued l_28, .rd 1 (RInt .u16) x_29.1.Subs, .elt (some (16, 0)) false (C_api_Queued x_31 (.s 19) (.s 20)), .rd 1 R8 x_31.PDU.Payload, .rd 1 R8 x_31.Lower.Bytes, .own 1 31 (RInt .u32) [x_31.PDU.Seq]] ?_ (fun c_33_7 => ?_)
                                   · refine SD.all1 (i := 0) (by kernel_rfl) ?_
                                     refine SW.eff D_33 (i := 0) (v := vp 5 19) (bs' := [I, O, I, I, I, I, I, I, O, O, O]) rfl (.inl rfl) rfl (e_val tk (by kernel_rfl)) (by kernel_rfl) rfl (by kernel_rfl) ?_
                                     exact SD.vie D_33 [.g 0, .g 1, .g 2, .g 3, .g 4, .g 5, .g 6, .g 7, .g 8, .g 9, .g 10, .g 11, .g 12, .g 13, .g 14, .g 15, .g 16, .g 17, .g 18, .g 19, .g 20, .g 21] c_33_5 (by kernel_rfl)
                                   · refine SD.all2 (i := 0) (j := 7) (by kernel_rfl) ?_ ?_
                                     · refine SW.eff D_33 (i := 0) (v := vp 5 19) (bs' := [I, O, I, I, I, I, I, O, O, O, O]) rfl (.inl rfl) rfl (e_val tk (by kernel_rfl)) (by kernel_rfl) rfl (by kernel_rfl) ?_
                                       refine SD.norm (itsN := [.gone, .gone, .gone, .gone, .own 1 31 (RInt .u32) x_1.got, .blk 52 (C_wirelesslaw51_pair ({ x_1 with f := c_27, l := x_29.1, kept := c_14.kept }) (.s 14) (.s 15) (.s 17) (.s 9) (.s 4)), .rd 18 R_T_api_Queued c_14.f.Queue, .rd 1 (RInt .u16) c_14.f.Subs, .rd 1 (RInt .u16) x_15.1.Subs, .own 1 31 (RInt .u32) c_14.kept, .blk 55 (C_wirelesslaw51_Event e_2), .blk 52 (C_wirelesslaw51_pair (T_wirelesslaw51_pair.mk (T_api_Friend.mk 0 [] [] 0 false 0 0 0) (T_api_LowPower.mk 0 0 0 0 0 0 [] 0 false 0) [] [] false) nl nl nl nl nl), .blk 47 (C_api_LowPower x_29.1 (.s 17)), .blk 28 (C_api_Friend c_27 (.s 14) (.s 15)), .rd 18 R_T_api_Queued c_27.Queue, .rd 1 (RInt .u16) c_27.Subs, .rd 18 R_T_api_Queued l_28, .rd 1 (RInt .u16) x_29.1.Subs, .elt (some (16, 0)) false (C_api_Queued x_31 (.s 19) (.s 20)), .rd 1 R8 x_31.PDU.Payload, .rd 1 R8 x_31.Lower.Bytes]) (by kernel_rfl) ?_
                                       exact SD.vie D_33 [.g 0, .g 1, .g 2, .g 3, .g 4, .g 5, .g 6, .g 7, .g 8, .g 9, .g 10, .g 11, .g 12, .g 13, .g 14, .g 15, .g 16, .g 17, .g 18, .g 19, .g 20] c_33_6 (by kernel_rfl)
                                     · refine SW.eff D_33 (i := 7) (bs' := [O, O, I, I, I, I, I, I, O, O, O]) rfl (.inl rfl) rfl (e_lit (sz := 1) (E := 31) (R := (RInt .u32)) (by_ := 4) tk [[ci .u32 x_31.PDU.Seq]] [x_31.PDU.Seq] (by kernel_rfl) ⟨Clo.int, trivial⟩ rfl (by kernel_rfl) (by kernel_rfl)) (by kernel_rfl) rfl (by kernel_rfl) ?_
                                       refine SD.norm (itsN := [.gone, .gone, .gone, .gone, .own 1 31 (RInt .u32) x_1.got, .blk 52 (C_wirelesslaw51_pair ({ x_1 with f := c_27, l := x_29.1, kept := c_14.kept }) (.s 14) (.s 15) (.s 17) (.s 9) (.s 4)), .rd 18 R_T_api_Queued c_14.f.Queue, .rd 1 (RInt .u16) c_14.f.Subs, .rd 1 (RInt .u16) x_15.1.Subs, .own 1 31 (RInt .u32) c_14.kept, .blk 55 (C_wirelesslaw51_Event e_2), .blk 52 (C_wirelesslaw51_pair (T_wirelesslaw51_pair.mk (T_api_Friend.mk 0 [] [] 0 false 0 0 0) (T_api_LowPower.mk 0 0 0 0 0 0 [] 0 false 0) [] [] false) nl nl nl nl nl), .blk 47 (C_api_LowPower x_29.1 (.s 17)), .blk 28 (C_api_Friend c_27 (.s 14) (.s 15)), .rd 18 R_T_api_Queued c_27.Queue, .rd 1 (RInt .u16) c_27.Subs, .rd 18 R_T_api_Queued l_28, .rd 1 (RInt .u16) x_29.1.Subs, .elt (some (16, 0)) false (C_api_Queued x_31 (.s 19) (.s 20)), .rd 1 R8 x_31.PDU.Payload, .rd 1 R8 x_31.Lower.Bytes, .own 1 31 (RInt .u32) [x_31.PDU.Seq]]) (by kernel_rfl) ?_
                                       exact SD.vie D_33 [.g 0, .g 1, .g 2, .g 3, .g 4, .g 5, .g 6, .g 7, .g 8, .g 9, .g 10, .g 11, .g 12, .g 13, .g 14, .g 15, .g 16, .g 17, .g 18, .g 19, .g 20, .g 21] c_33_7 (by kernel_rfl)
                   · refine SC.skipJ fun a w h => ?_
                     exact ⟨x_1.got, hp, h.at (js := [.g 0, .g 1, .g 2, .g 3, .g 4, .g 5, .g 14, .g 15, .g 17, .g 9, .g 4, .g 11]) (by kernel_rfl)⟩
                 · rintro a w ⟨l_30, hp, h⟩
                   refine h.go ?_
                   refine SC.r tk [(6, vp 11 0)] [(11, 52, (C_wirelesslaw51_pair ({ c_14 with f := c_27, l := x_29.1, got := l_30, ended := x_1.ended }) (.s 6) (.s 7) (.s 8) (.s 9) (.s 10)))] [] [] (by kernel_rfl) ?_
                   obtain rfl := some_inv' hp
                   exact SC.re (js := [.g 0, .g 1, .g 2, .g 3, .g 4, .g 6, .g 7, .g 8, .g 9, .g 10]) tk (by kernel_rfl)

theorem ok_wirelesslaw51_pair_begins (F : Nat) (x_1 : T_wirelesslaw51_pair) (r : Bool) (hp : wirelesslaw51_pair_begins F x_1 = some r) : Spec Try.prog 14 [.g (C_wirelesslaw51_pair x_1 (.s 0) (.s 1) (.s 2) (.s 3) (.s 4))] [.rd 18 R_T_api_Queued x_1.f.Queue, .rd 1 (RInt .u16) x_1.f.Subs, .rd 1 (RInt .u16) x_1.l.Subs, .rd 1 (RInt .u32) x_1.kept, .rd 1 (RInt .u32) x_1.got] (vb r) [.gone, .gone, .gone, .gone, .gone] := by
 refine Spec.enter Try.func14 rfl Try.ntmps14 rfl rfl fun fx => ?_
 refine SC.seq ?_
 refine SC.reg ?_
 refine SL.eff (e_box (E := 52) (C_wirelesslaw51_pair x_1 (.s 0) (.s 1) (.s 2) (.s 3) (.s 4)) (by kernel_rfl)) rfl (by kernel_rfl) ?_
 refine SL.sim tk 1 [(1, vp 5 0)] [] [] [] (by kernel_rfl) ?_
 refine SL.nilThen ?_
 refine SC.seq ?_
 refine SC.r tk [(1, vp 5 0), (10, vb (decide ((len x_1.got) > (len x_1.kept))))] [] [] [] (by kernel_rfl) ?_
 refine SC.if' rfl hp (fun hp => ?_) (fun hp => ?_)
 · refine SC.r tk [(2, vb false)] [] [] [] (by kernel_rfl) ?_
   obtain rfl := some_inv' hp
   exact SC.re (js := [.g 0, .g 1, .g 2, .g 3, .g 4]) tk (by kernel_rfl)
 · refine SC.skipThen ?_
   refine SC.cut (fun a w => wirelesslaw51_pair_begins_j1 F = some r ∧ A 29 5 fx [] [.gone, .gone, .gone, .gone, .gone] a w) ?_ ?_
   · refine SC.r tk [(1, vp 5 0), (3, vi .i64 0)] [] [] [] (by kernel_rfl) ?_
     refine SC.block ?_
     obtain ⟨o1, hi1, ho1⟩ := bind_inv hp
     clear hp
     refine SC.loop (fun n a w => ∃ (x_2 : Int), iter (fun s => wirelesslaw51_pair_begins_l1 F x_1 s) n (x_2) = some o1 ∧ A 29 5 fx [(1, vp 5 0), (3, vi .i64 x_2)] [.rd 18 R_T_api_Queued x_1.f.Queue, .rd 1 (RInt .u16) x_1.f.Subs, .rd 1 (RInt .u16) x_1.l.Subs, .rd 1 (RInt .u32) x_1.kept, .rd 1 (RInt .u32) x_1.got, .blk 52 (C_wirelesslaw51_pair x_1 (.s 0) (.s 1) (.s 2) (.s 3) (.s 4))] a w) F (fun a w h => ⟨0, hi1, h.at (js := [.g 0, .g 1, .g 2, .g 3, .g 4, .g 5]) (by kernel_rfl)⟩) ?_
     rintro n1 a w ⟨x_2, hi1, h⟩
     obtain ⟨n1, q1, rfl, hp, hs1⟩ := iter_inv hi1
     replace hp : wirelesslaw51_pair_begins_l1 F x_1 x_2 = some q1 := hp
     clear hi1
     refine h.go ?_
     refine SC.seq ?_
     refine SC.r tk [(1, vp 5 0), (3, vi .i64 x_2), (15, vb (decide (x_2 < (len x_1.got))))] [] [] [] (by kernel_rfl) ?_
     refine SC.if' rfl hp (fun hp => ?_) (fun hp => ?_)
     · refine SC.skipThen ?_
       refine SC.seq ?_
       refine SC.block ?_
       refine SC.cut (fun a w => ∃ (z_3 : Bool), wirelesslaw51_pair_begins_j2 F x_2 z_3 = some q1 ∧ A 29 5 fx [(1, vp 5 0), (3, vi .i64 x_2), (28, vb z_3)] [.rd 18 R_T_api_Queued x_1.f.Queue, .rd 1 (RInt .u16) x_1.f.Subs, .rd 1 (RInt .u16) x_1.l.Subs, .rd 1 (RInt .u32) x_1.kept, .rd 1 (RInt .u32) x_1.got, .blk 52 (C_wirelesslaw51_pair x_1 (.s 0) (.s 1) (.s 2) (.s 3) (.s 4))] a w) ?_ ?_
       · obtain ⟨x_4, e_x_4, hp⟩ := bind_inv hp
         obtain ⟨x_5, e_x_5, hp⟩ := bind_inv hp
         refine SC.pre (pre_ix (i := 4) (iv := x_2) (sz := 1) (R := (RInt .u32)) (l := x_1.got) (by kernel_rfl) rfl e_x_4) ?_
         refine SC.pre (pre_ix (i := 3) (iv := x_2) (sz := 1) (R := (RInt .u32)) (l := x_1.kept) (by kernel_rfl) rfl e_x_5) ?_
         refine SC.draw MO [I, I, I, I, I, I, I, I] (by kernel_rfl) fun kap_6 D_7 => ?_
         refine SD.takes tk D_7 [] kn0 [0, 1, 2, 3, 4, 5, 6, 7, 8, 9, 10] [.el 6, .el 7] [x_2, x_2] [I, I, I, I, I, I, I, I, I, I, I] [(1, vp 5 0), (3, vi .i64 x_2), (28, vb (x_4 != x_5))] rfl (by kernel_rfl) (by kernel_rfl) (by kernel_rfl) ?_
         refine SD.done (by kernel_rfl) fun a w h => ?_
         exact ⟨(x_4 != x_5), hp, h.at (js := [.g 0, .g 1, .g 2, .g 3, .g 4, .g 5]) (by kernel_rfl)⟩
       · rintro a w ⟨z_3, hp, h⟩
         refine h.go ?_
         refine SC.if' rfl hp (fun hp => ?_) (fun hp => ?_)
         · refine SC.r tk [(2, vb false)] [] [] [] (by kernel_rfl) ?_
           have ho := done_inv hp hs1
           replace hp := ho1
           try rw [ho] at hp
           obtain rfl := some_inv' hp
           exact SC.re (js := [.g 0, .g 1, .g 2, .g 3, .g 4]) tk (by kernel_rfl)
         · refine SC.skipThen ?_
           refine SC.reg ?_
           refine SL.sim tk 3 [(1, vp 5 0), (3, vi .i64 (w64 (x_2 + 1)))] [] [] [] (by kernel_rfl) ?_
           refine SL.nilJ fun a w h => ?_
           exact ⟨n1, Nat.lt_succ_self _, w64 (x_2 + 1), next_inv hp hs1, h.at (js := [.g 0, .g 1, .g 2, .g 3, .g 4, .g 5]) (by kernel_rfl)⟩
     · refine SC.exitJ rfl fun a w h => ?_
       have ho := done_inv hp hs1
       replace hp := ho1
       try rw [ho] at hp
       exact ⟨hp, h.at (js := [.g 0, .g 1, .g 2, .g 3, .g 4]) (by kernel_rfl)⟩
   · rintro a w ⟨hp, h⟩
     refine h.go ?_
     refine SC.r tk [(2, vb true)] [] [] [] (by kernel_rfl) ?_
     obtain rfl := some_inv' hp
     exact SC.re (js := [.g 0, .g 1, .g 2, .g 3, .g 4]) tk (by kernel_rfl)

theorem ok_wirelesslaw51_FriendKeeps (F : Nat) (l_1 : (List T_wirelesslaw51_Event)) (r : Bool) (hp : wirelesslaw51_FriendKeeps F l_1 = some r) : Spec Try.prog 4 [vs 0] [.rd 3 R_T_wirelesslaw51_Event l_1] (vb r) [.gone] := by
 refine Spec.enter Try.func4 rfl Try.ntmps4 rfl rfl fun fx => ?_
 refine SC.r tk [(0, vs 0)] [] [] [] (by kernel_rfl) ?_
 refine SC.seq ?_
 refine SC.r tk [(0, vs 0), (10, vb (decide ((len l_1) > 150)))] [] [] [] (by kernel_rfl) ?_
 refine SC.if' rfl hp (fun hp => ?_) (fun hp => ?_)
 · refine SC.seq ?_
   refine SC.reg ?_
   obtain ⟨x_2, e_x_2, hp⟩ := bind_inv hp
   refine SL.eff (e_c Try.call7 (ok_wirelesslaw51_lives F  _ e_x_2) [] [] (vb x_2) (by kernel_rfl) (.inl rfl)) rfl (by kernel_rfl) ?_
   refine SL.sim tk 1 [(2, vb x_2)] [] [] [] (by kernel_rfl) ?_
   refine SL.nilThen ?_
   obtain rfl := some_inv' hp
   exact SC.re (js := [.g 0]) tk (by kernel_rfl)
 · refine SC.skipThen ?_
   refine SC.seq ?_
   refine SC.reg ?_
   refine SL.sim tk 1 [(0, vs 0), (13, .g (C_api_Friend (T_api_Friend.mk 0 [] [] 0 false 0 0 0) nl nl))] [] [] [] (by kernel_rfl) ?_
   obtain ⟨x_3, e_x_3, hp⟩ := bind_inv hp
   refine SL.eff (e_c Try.call8 (ok_friend_Befriend F (T_api_Friend.mk 0 [] [] 0 false 0 0 0) 5 1 0 _ e_x_3) [.n, .n] [.g (C_api_Friend (T_api_Friend.mk 0 [] [] 0 false 0 0 0) nl nl), vi .u16 5, vi .i64 1, vi .i64 0] (.u [.inr (C_api_Friend x_3.1 (.s 1) (.s 2)), .inl (cb x_3.2)]) (by kernel_rfl) (.inl rfl)) rfl (by kernel_rfl) ?_
   refine SL.sim tk 3 [(0, vs 0), (15, .g (C_api_Friend x_3.1 (.s 1) (.s 2))), (16, vb x_3.2)] [] [] [] (by kernel_rfl) ?_
   refine SL.eff (e_alloc (E := 28) tk (C_api_Friend (T_api_Friend.mk 0 [] [] 0 false 0 0 0) nl nl) (by kernel_rfl)) rfl (by kernel_rfl) ?_
   refine SL.sim tk 2 [(0, vs 0), (3, vp 3 0), (4, vb x_3.2)] [(3, 28, (C_api_Friend x_3.1 (.s 1) (.s 2)))] [] [] (by kernel_rfl) ?_
   refine SL.nilThen ?_
   refine SC.cut (fun a w => ∃ (x_4 : Int) (x_5 : Int) (x_6 : Int) (x_7 : Int) (x_8 : Int) (x_9 : Int) (l_10 : (List Int)) (x_11 : Int) (z_12 : Bool) (x_13 : Int), wirelesslaw51_FriendKeeps_j1 F l_1 x_3 x_4 x_5 x_6 x_7 x_8 x_9 l_10 x_11 z_12 x_13 = some r ∧ A 93 1 fx [(0, vs 0), (4, vb x_3.2), (5, vp 1 0)] [.rd 3 R_T_wirelesslaw51_Event l_1, .blk 52 (C_wirelesslaw51_pair (T_wirelesslaw51_pair.mk x_3.1 (T_api_LowPower.mk x_4 x_5 x_6 x_7 x_8 x_9 l_10 x_11 z_12 x_13) [] [] false) (.s 2) (.s 3) (.s 4) nl nl), .rd 18 R_T_api_Queued x_3.1.Queue, .rd 1 (RInt .u16) x_3.1.Subs, .rd 1 (RInt .u16) l_10] a w) ?_ ?_
   · refine SC.draw MO [true, true, true, true] (by kernel_rfl) fun kap_136 D_137 => ?_
     refine SD.takes tk D_137 [] kn0 [0, 1] [] [] [I, I, O, O, O, O, O] [(0, vs 0), (4, vb x_3.2), (17, .g (C_api_Friend x_3.1 (.s 1) (.s 2))), (18, .g (C_api_LowPower (T_api_LowPower.mk 0 0 0 0 0 0 [] 0 false 0) nl))] rfl (by kernel_rfl) (by kernel_rfl) (by kernel_rfl) ?_
     obtain ⟨x_298, e_x_298, hp⟩ := bind_inv hp
     obtain ⟨x_378, e_x_378, hp⟩ := bind_inv hp
     refine SD.lay 0 [I, I, I, I, I, I, I] [(0, vs 0), (4, vb x_3.2), (5, vp 6 0)] [.rd 3 R_T_wirelesslaw51_Event l_1, .rd 18 R_T_api_Queued x_3.1.Queue, .rd 1 (RInt .u16) x_3.1.Subs, .blk 28 (C_api_Friend x_3.1 (.s 1) (.s 2)), .gone, .rd 1 (RInt .u16) x_378.Subs, .blk 52 (C_wirelesslaw51_pair (T_wirelesslaw51_pair.mk x_3.1 x_378 [] [] false) (.s 1) (.s 2) (.s 5) nl nl)] ?_ (fun c_137_0 => ?_)
     · refine SD.done (by kernel_rfl) fun a w h => ?_
       exact ⟨x_378.Phase, x_378.Friend, x_378.Bit, x_378.Counter, x_378.Due, x_378.Tries, x_378.Subs, x_378.Told, x_378.More, x_378.Last, hp, h.at (js := [.g 0, .g 6, .g 1, .g 2, .g 5]) (by kernel_rfl)⟩
     · refine SD.lay 1 [I, I, I, I, I, I, O] [(0, vs 0), (4, vb x_3.2), (5, vp 6 0), (21, .g (C_wirelesslaw51_pair (T_wirelesslaw51_pair.mk x_3.1 x_378 [] [] false) (.s 1) (.s 2) (.s 5) nl nl))] [.rd 3 R_T_wirelesslaw51_Event l_1, .rd 18 R_T_api_Queued x_3.1.Queue, .rd 1 (RInt .u16) x_3.1.Subs, .blk 28 (C_api_Friend x_3.1 (.s 1) (.s 2)), .gone, .rd 1 (RInt .u16) x_378.Subs, .blk 52 (C_wirelesslaw51_pair (T_wirelesslaw51_pair.mk (T_api_Friend.mk 0 [] [] 0 false 0 0 0) (T_api_LowPower.mk 0 0 0 0 0 0 [] 0 false 0) [] [] false) nl nl nl nl nl)] ?_ (fun c_137_1 => ?_)
       · refine SD.all1 (i := 6) (by kernel_rfl) ?_
         refine SW.store D_137 tk (i := 6) (q := 6) (T := 52) (cs := (C_wirelesslaw51_pair (T_wirelesslaw51_pair.mk x_3.1 x_378 [] [] false) (.s 1) (.s 2) (.s 5) nl nl)) (bs' := [I, I, I, I, I, I, I]) rfl (by kernel_rfl) rfl rfl (by kernel_rfl) ?_
         exact SD.vie D_137 [.g 0, .g 1, .g 2, .g 3, .n, .g 5, .g 6] c_137_0 (by kernel_rfl)
       · refine SD.lay 2 [I, I, I, I, I, O, O] [(0, vs 0), (4, vb x_3.2), (21, .g (C_wirelesslaw51_pair (T_wirelesslaw51_pair.mk x_3.1 x_378 [] [] false) (.s 1) (.s 2) (.s 5) nl nl))] [.rd 3 R_T_wirelesslaw51_Event l_1, .rd 18 R_T_api_Queued x_3.1.Queue, .rd 1 (RInt .u16) x_3.1.Subs, .blk 28 (C_api_Friend x_3.1 (.s 1) (.s 2)), .gone, .rd 1 (RInt .u16) x_378.Subs] ?_ (fun c_137_2 => ?_)
         · refine SD.all1 (i := 5) (by kernel_rfl) ?_
           refine SW.eff D_137 (i := 5) (bs' := [I, I, I, I, I, I, O]) rfl (.inl rfl) rfl (e_alloc (E := 52) tk (C_wirelesslaw51_pair (T_wirelesslaw51_pair.mk (T_api_Friend.mk 0 [] [] 0 false 0 0 0) (T_api_LowPower.mk 0 0 0 0 0 0 [] 0 false 0) [] [] false) nl nl nl nl nl) (by kernel_rfl)) (by kernel_rfl) rfl (by kernel_rfl) ?_
           exact SD.vie D_137 [.g 0, .g 1, .g 2, .g 3, .n, .g 5, .g 6] c_137_1 (by kernel_rfl)
         · refine SD.lay 2 [I, I, I, I, O, I, O] [(0, vs 0), (4, vb x_3.2), (5, vp 6 0), (17, .g (C_api_Friend x_3.1 (.s 1) (.s 2))), (20, .g (C_api_LowPower x_378 (.s 5)))] [.rd 3 R_T_wirelesslaw51_Event l_1, .rd 18 R_T_api_Queued x_3.1.Queue, .rd 1 (RInt .u16) x_3.1.Subs, .blk 28 (C_api_Friend x_3.1 (.s 1) (.s 2)), .gone, .rd 1 (RInt .u16) x_378.Subs, .blk 52 (C_wirelesslaw51_pair (T_wirelesslaw51_pair.mk (T_api_Friend.mk 0 [] [] 0 false 0 0 0) (T_api_LowPower.mk 0 0 0 0 0 0 [] 0 false 0) [] [] false) nl nl nl nl nl)] ?_ (fun c_137_3 => ?_)
           · refine SD.all1 (i := 4) (by kernel_rfl) ?_
             refine SW.eff D_137 (i := 4) (v := .g (C_wirelesslaw51_pair (T_wirelesslaw51_pair.mk x_3.1 x_378 [] [] false) (.s 1) (.s 2) (.s 5) nl nl)) (bs' := [I, I, I, I, I, I, O]) rfl (.inl rfl) rfl (e_val tk (by kernel_rfl)) (by kernel_rfl) rfl (by kernel_rfl) ?_
             exact SD.vie D_137 [.g 0, .g 1, .g 2, .g 3, .n, .g 5, .g 6] c_137_1 (by kernel_rfl)
           · refine SD.lay 3 [I, I, I, I, O, O, O] [(0, vs 0), (4, vb x_3.2), (17, .g (C_api_Friend x_3.1 (.s 1) (.s 2))), (20, .g (C_api_LowPower x_378 (.s 5)))] [.rd 3 R_T_wirelesslaw51_Event l_1, .rd 18 R_T_api_Queued x_3.1.Queue, .rd 1 (RInt .u16) x_3.1.Subs, .blk 28 (C_api_Friend x_3.1 (.s 1) (.s 2)), .gone, .rd 1 (RInt .u16) x_378.Subs] ?_ (fun c_137_4 => ?_)
             · refine SD.all2 (i := 4) (j := 5) (by kernel_rfl) ?_ ?_
               · refine SW.eff D_137 (i := 4) (v := .g (C_wirelesslaw51_pair (T_wirelesslaw51_pair.mk x_3.1 x_378 [] [] false) (.s 1) (.s 2) (.s 5) nl nl)) (bs' := [I, I, I, I, I, O, O]) rfl (.inl rfl) rfl (e_val tk (by kernel_rfl)) (by kernel_rfl) rfl (by kernel_rfl) ?_
                 exact SD.vie D_137 [.g 0, .g 1, .g 2, .g 3, .n, .g 5] c_137_2 (by kernel_rfl)
               · refine SW.eff D_137 (i := 5) (bs' := [I, I, I, I, O, I, O]) rfl (.inl rfl) rfl (e_alloc (E := 52) tk (C_wirelesslaw51_pair (T_wirelesslaw51_pair.mk (T_api_Friend.mk 0 [] [] 0 false 0 0 0) (T_api_LowPower.mk 0 0 0 0 0 0 [] 0 false 0) [] [] false) nl nl nl nl nl) (by kernel_rfl)) (by kernel_rfl) rfl (by kernel_rfl) ?_
                 exact SD.vie D_137 [.g 0, .g 1, .g 2, .g 3, .n, .g 5, .g 6] c_137_3 (by kernel_rfl)
             · refine SD.lay 3 [I, I, I, O, O, I, O] [(0, vs 0), (4, vb x_3.2), (5, vp 5 0), (17, .g (C_api_Friend x_3.1 (.s 1) (.s 2))), (19, .g (C_api_LowPower x_298 (.s 4)))] [.rd 3 R_T_wirelesslaw51_Event l_1, .rd 18 R_T_api_Queued x_3.1.Queue, .rd 1 (RInt .u16) x_3.1.Subs, .blk 28 (C_api_Friend x_3.1 (.s 1) (.s 2)), .rd 1 (RInt .u16) x_298.Subs, .blk 52 (C_wirelesslaw51_pair (T_wirelesslaw51_pair.mk (T_api_Friend.mk 0 [] [] 0 false 0 0 0) (T_api_LowPower.mk 0 0 0 0 0 0 [] 0 false 0) [] [] false) nl nl nl nl nl)] ?_ (fun c_137_5 => ?_)
               · refine SD.all1 (i := 3) (by kernel_rfl) ?_
                 refine SW.eff D_137 (i := 3) (bs' := [I, I, I, I, O, I, O]) rfl (.inl rfl) rfl (e_c Try.call11 (ok_friend_Offer F x_298 9 0 _ e_x_378) [.g 4] [.g (C_api_LowPower x_298 (.s 4)), vi .u16 9, vi .i64 0] (.g (C_api_LowPower x_378 (.s 6))) (by kernel_rfl) (.inl rfl)) (by kernel_rfl) rfl (by kernel_rfl) ?_
                 exact SD.vie D_137 [.g 0, .g 1, .g 2, .g 3, .n, .g 6, .g 5] c_137_3 (by kernel_rfl)
               · refine SD.lay 4 [I, I, I, O, O, O, O] [(0, vs 0), (4, vb x_3.2), (17, .g (C_api_Friend x_3.1 (.s 1) (.s 2))), (19, .g (C_api_LowPower x_298 (.s 4)))] [.rd 3 R_T_wirelesslaw51_Event l_1, .rd 18 R_T_api_Queued x_3.1.Queue, .rd 1 (RInt .u16) x_3.1.Subs, .blk 28 (C_api_Friend x_3.1 (.s 1) (.s 2)), .rd 1 (RInt .u16) x_298.Subs] ?_ (fun c_137_6 => ?_)
                 · refine SD.all2 (i := 3) (j := 5) (by kernel_rfl) ?_ ?_
                   · refine SW.eff D_137 (i := 3) (bs' := [I, I, I, I, O, O, O]) rfl (.inl rfl) rfl (e_c Try.call11 (ok_friend_Offer F x_298 9 0 _ e_x_378) [.g 4] [.g (C_api_LowPower x_298 (.s 4)), vi .u16 9, vi .i64 0] (.g (C_api_LowPower x_378 (.s 5))) (by kernel_rfl) (.inl rfl)) (by kernel_rfl) rfl (by kernel_rfl) ?_
                     exact SD.vie D_137 [.g 0, .g 1, .g 2, .g 3, .n, .g 5] c_137_4 (by kernel_rfl)
                   · refine SW.eff D_137 (i := 5) (bs' := [I, I, I, O, O, I, O]) rfl (.inl rfl) rfl (e_alloc (E := 52) tk (C_wirelesslaw51_pair (T_wirelesslaw51_pair.mk (T_api_Friend.mk 0 [] [] 0 false 0 0 0) (T_api_LowPower.mk 0 0 0 0 0 0 [] 0 false 0) [] [] false) nl nl nl nl nl) (by kernel_rfl)) (by kernel_rfl) rfl (by kernel_rfl) ?_
                     exact SD.vie D_137 [.g 0, .g 1, .g 2, .g 3, .g 4, .g 5] c_137_5 (by kernel_rfl)
                 · refine SD.lay 4 [I, I, O, O, O, I, O] [(0, vs 0), (4, vb x_3.2), (5, vp 4 0), (17, .g (C_api_Friend x_3.1 (.s 1) (.s 2))), (18, .g (C_api_LowPower (T_api_LowPower.mk 0 0 0 0 0 0 [] 0 false 0) nl))] [.rd 3 R_T_wirelesslaw51_Event l_1, .rd 18 R_T_api_Queued x_3.1.Queue, .rd 1 (RInt .u16) x_3.1.Subs, .blk 28 (C_api_Friend x_3.1 (.s 1) (.s 2)), .blk 52 (C_wirelesslaw51_pair (T_wirelesslaw51_pair.mk (T_api_Friend.mk 0 [] [] 0 false 0 0 0) (T_api_LowPower.mk 0 0 0 0 0 0 [] 0 false 0) [] [] false) nl nl nl nl nl)] ?_ (fun c_137_7 => ?_)
                   · refine SD.all1 (i := 2) (by kernel_rfl) ?_
                     refine SW.eff D_137 (i := 2) (bs' := [I, I, I, O, O, I, O]) rfl (.inl rfl) rfl (e_c Try.call12 (ok_friend_Seek F (T_api_LowPower.mk 0 0 0 0 0 0 [] 0 false 0) [] 0 _ e_x_298) [.n, .n] [.g (C_api_LowPower (T_api_LowPower.mk 0 0 0 0 0 0 [] 0 false 0) nl), vn, vi .i64 0] (.g (C_api_LowPower x_298 (.s 5))) (by kernel_rfl) (.inl rfl)) (by kernel_rfl) rfl (by kernel_rfl) ?_
                     exact SD.vie D_137 [.g 0, .g 1, .g 2, .g 3, .g 5, .g 4] c_137_5 (by kernel_rfl)
                   · refine SD.all2 (i := 2) (j := 5) (by kernel_rfl) ?_ ?_
                     · refine SW.eff D_137 (i := 2) (bs' := [I, I, I, O, O, O, O]) rfl (.inl rfl) rfl (e_c Try.call12 (ok_friend_Seek F (T_api_LowPower.mk 0 0 0 0 0 0 [] 0 false 0) [] 0 _ e_x_298) [.n, .n] [.g (C_api_LowPower (T_api_LowPower.mk 0 0 0 0 0 0 [] 0 false 0) nl), vn, vi .i64 0] (.g (C_api_LowPower x_298 (.s 4))) (by kernel_rfl) (.inl rfl)) (by kernel_rfl) rfl (by kernel_rfl) ?_
                       refine SD.norm (itsN := [.rd 3 R_T_wirelesslaw51_Event l_1, .rd 18 R_T_api_Queued x_3.1.Queue, .rd 1 (RInt .u16) x_3.1.Subs, .blk 28 (C_api_Friend x_3.1 (.s 1) (.s 2)), .rd 1 (RInt .u16) x_298.Subs]) (by kernel_rfl) ?_
                       exact SD.vie D_137 [.g 0, .g 1, .g 2, .g 3, .g 4] c_137_6 (by kernel_rfl)
                     · refine SW.eff D_137 (i := 5) (bs' := [I, I, O, O, O, I, O]) rfl (.inl rfl) rfl (e_alloc (E := 52) tk (C_wirelesslaw51_pair (T_wirelesslaw51_pair.mk (T_api_Friend.mk 0 [] [] 0 false 0 0 0) (T_api_LowPower.mk 0 0 0 0 0 0 [] 0 false 0) [] [] false) nl nl nl nl nl) (by kernel_rfl)) (by kernel_rfl) rfl (by kernel_rfl) ?_
                       refine SD.norm (itsN := [.rd 3 R_T_wirelesslaw51_Event l_1, .rd 18 R_T_api_Queued x_3.1.Queue, .rd 1 (RInt .u16) x_3.1.Subs, .blk 28 (C_api_Friend x_3.1 (.s 1) (.s 2)), .blk 52 (C_wirelesslaw51_pair (T_wirelesslaw51_pair.mk (T_api_Friend.mk 0 [] [] 0 false 0 0 0) (T_api_LowPower.mk 0 0 0 0 0 0 [] 0 false 0) [] [] false) nl nl nl nl nl)]) (by kernel_rfl) ?_
                       exact SD.vie D_137 [.g 0, .g 1, .g 2, .g 3, .g 4] c_137_7 (by kernel_rfl)
   · rintro a w ⟨x_4, x_5, x_6, x_7, x_8, x_9, l_10, x_11, z_12, x_13, hp, h⟩
     refine h.go ?_
     refine SC.seq ?_
     refine SC.r tk [(0, vs 0), (5, vp 1 0), (29, vb ((!x_3.2) || (x_4 != 2)))] [] [] [] (by kernel_rfl) ?_
     refine SC.if' rfl hp (fun hp => ?_) (fun hp => ?_)
     · refine SC.r tk [(2, vb false)] [] [] [] (by kernel_rfl) ?_
       obtain rfl := some_inv' hp
       exact SC.re (js := [.g 0]) tk (by kernel_rfl)
     · refine SC.skipThen ?_
       refine SC.cut (fun a w => ∃ (c_35 : T_wirelesslaw51_pair), wirelesslaw51_FriendKeeps_j2 F l_1 c_35 = some r ∧ A 93 1 fx [(0, vs 0), (5, vp 1 0)] [.rd 3 R_T_wirelesslaw51_Event l_1, .blk 52 (C_wirelesslaw51_pair c_35 (.s 2) (.s 3) (.s 4) (.s 5) (.s 6)), .rd 18 R_T_api_Queued c_35.f.Queue, .rd 1 (RInt .u16) c_35.f.Subs, .rd 1 (RInt .u16) c_35.l.Subs, .own 1 31 (RInt .u32) c_35.kept, .own 1 31 (RInt .u32) c_35.got] a w) ?_ ?_
       · refine SC.r tk [(0, vs 0), (5, vp 1 0), (6, vi .i64 0)] [] [] [] (by kernel_rfl) ?_
         refine SC.block ?_
         obtain ⟨o2, hi2, ho2⟩ := bind_inv hp
         clear hp
         refine SC.loop (fun n a w => ∃ (c_106 : T_wirelesslaw51_pair) (x_107 : Int), iter (fun s => wirelesslaw51_FriendKeeps_l2 F l_1 s.1 s.2) n (c_106, x_107) = some o2 ∧ A 93 1 fx [(0, vs 0), (5, vp 1 0), (6, vi .i64 x_107)] [.rd 3 R_T_wirelesslaw51_Event l_1, .blk 52 (C_wirelesslaw51_pair c_106 (.s 2) (.s 3) (.s 4) (.s 5) (.s 6)), .rd 18 R_T_api_Queued c_106.f.Queue, .rd 1 (RInt .u16) c_106.f.Subs, .rd 1 (RInt .u16) c_106.l.Subs, .own 1 31 (RInt .u32) c_106.kept, .own 1 31 (RInt .u32) c_106.got] a w) F (fun a w h => ⟨(T_wirelesslaw51_pair.mk x_3.1 (T_api_LowPower.mk x_4 x_5 x_6 x_7 x_8 x_9 l_10 x_11 z_12 x_13) [] [] false), 0, hi2, h.at (js := [.g 0, .g 1, .g 2, .g 3, .g 4, .n, .n]) (by kernel_rfl)⟩) ?_
         rintro n2 a w ⟨c_106, x_107, hi2, h⟩
         obtain ⟨n2, q2, rfl, hp, hs2⟩ := iter_inv hi2
         replace hp : wirelesslaw51_FriendKeeps_l2 F l_1 c_106 x_107 = some q2 := hp
         clear hi2
         refine h.go ?_
         refine SC.seq ?_
         refine SC.r tk [(0, vs 0), (5, vp 1 0), (6, vi .i64 x_107), (33, vb (decide (x_107 < (len l_1))))] [] [] [] (by kernel_rfl) ?_
         refine SC.if' rfl hp (fun hp => ?_) (fun hp => ?_)
         · refine SC.skipThen ?_
           refine SC.seq ?_
           refine SC.block ?_
           refine SC.cut (fun a w => ∃ (c_129 : T_wirelesslaw51_pair), wirelesslaw51_FriendKeeps_j4 F x_107 c_129 = some q2 ∧ A 93 1 fx [(0, vs 0), (5, vp 1 0), (6, vi .i64 x_107)] [.rd 3 R_T_wirelesslaw51_Event l_1, .blk 52 (C_wirelesslaw51_pair c_129 (.s 2) (.s 3) (.s 4) (.s 5) (.s 6)), .rd 18 R_T_api_Queued c_129.f.Queue, .rd 1 (RInt .u16) c_129.f.Subs, .rd 1 (RInt .u16) c_129.l.Subs, .own 1 31 (RInt .u32) c_129.kept, .own 1 31 (RInt .u32) c_129.got] a w) ?_ ?_
           · obtain ⟨x_132, e_x_132, hp⟩ := bind_inv hp
             refine SC.pre (pre_ix (i := 0) (iv := x_107) (sz := 3) (R := R_T_wirelesslaw51_Event) (l := l_1) (by kernel_rfl) rfl e_x_132) ?_
             refine SC.draw MO [I, O, I, I, I, O, O, I] (by kernel_rfl) fun kap_133 D_134 => ?_
             refine SD.takes tk D_134 [] kn0 [1, 2, 3, 4, 5, 6] [.el 7] [x_107] [O, I, I, I, I, I, I, O, O] [(0, vs 0), (5, vp 1 0), (6, vi .i64 x_107), (40, .g (C_wirelesslaw51_Event x_132)), (42, vi .i64 (w64 (10 * x_107)))] rfl (by kernel_rfl) (by kernel_rfl) (by kernel_rfl) ?_
             refine SD.all1 (i := 0) (by kernel_rfl) ?_
             refine SW.eff D_134 (i := 0) (v := .g (C_wirelesslaw51_pair c_106 (.s 2) (.s 3) (.s 4) (.s 5) (.s 6))) (bs' := [I, I, I, I, I, I, I, O, O]) rfl (.inl rfl) rfl (e_val tk (by kernel_rfl)) (by kernel_rfl) rfl (by kernel_rfl) ?_
             obtain ⟨x_135, e_x_135, hp⟩ := bind_inv hp
             refine SD.all1 (i := 7) (by kernel_rfl) ?_
             refine SW.eff D_134 (i := 7) (bs' := [I, I, I, I, I, I, I, I, O]) rfl (.inl rfl) rfl (e_c Try.call13 (ok_wirelesslaw51_pair_tick F c_106 x_132 (w64 (10 * x_107)) _ e_x_135) [.g 2, .g 3, .g 4, .g 5, .g 6] [.g (C_wirelesslaw51_pair c_106 (.s 2) (.s 3) (.s 4) (.s 5) (.s 6)), .g (C_wirelesslaw51_Event x_132), vi .i64 (w64 (10 * x_107))] (.g (C_wirelesslaw51_pair x_135 (.s 8) (.s 9) (.s 10) (.s 11) (.s 12))) (by kernel_rfl) (.inl rfl)) (by kernel_rfl) rfl (by kernel_rfl) ?_
             refine SD.norm (itsN := [.rd 3 R_T_wirelesslaw51_Event l_1, .blk 52 [ci .u16 c_106.f.Low, .s 2, .s 3, ci .i64 c_106.f.Bit, cb c_106.f.Sent, ci .i64 c_106.f.Polled, ci .i64 c_106.f.Counter, ci .i64 c_106.f.Dropped, ci .i64 c_106.l.Phase, ci .u16 c_106.l.Friend, ci .i64 c_106.l.Bit, ci .i64 c_106.l.Counter, ci .i64 c_106.l.Due, ci .i64 c_106.l.Tries, .s 4, ci .i64 c_106.l.Told, cb c_106.l.More, ci .i64 c_106.l.Last, .s 5, .s 6, cb c_106.ended], .rd 18 R_T_api_Queued c_106.f.Queue, .rd 1 (RInt .u16) c_106.f.Subs, .rd 1 (RInt .u16) c_106.l.Subs, .gone, .gone, .elt (some (0, x_107)) false (C_wirelesslaw51_Event x_132), .rd 18 R_T_api_Queued x_135.f.Queue, .rd 1 (RInt .u16) x_135.f.Subs, .rd 1 (RInt .u16) x_135.l.Subs, .own 1 31 (RInt .u32) x_135.kept, .own 1 31 (RInt .u32) x_135.got]) (by kernel_rfl) ?_
             refine SD.all1 (i := 8) (by kernel_rfl) ?_
             refine SW.store D_134 tk (i := 8) (q := 1) (T := 52) (cs := (C_wirelesslaw51_pair x_135 (.s 8) (.s 9) (.s 10) (.s 11) (.s 12))) (bs' := [I, I, I, I, I, I, I, I, I]) rfl (by kernel_rfl) rfl rfl (by kernel_rfl) ?_
             refine SD.done (by kernel_rfl) fun a w h => ?_
             exact ⟨x_135, hp, h.at (js := [.g 0, .g 1, .g 8, .g 9, .g 10, .g 11, .g 12]) (by kernel_rfl)⟩
           · rintro a w ⟨c_129, hp, h⟩
             refine h.go ?_
             refine SC.seq ?_
             refine SC.r tk [(0, vs 0), (5, vp 1 0), (6, vi .i64 x_107), (51, vb ((decide (c_129.f.Dropped > 0)) || c_129.ended))] [] [] [] (by kernel_rfl) ?_
             refine SC.if' rfl hp (fun hp => ?_) (fun hp => ?_)
             · refine SC.seq ?_
               refine SC.reg ?_
               obtain ⟨x_130, e_x_130, hp⟩ := bind_inv hp
               refine SL.eff (e_c Try.call7 (ok_wirelesslaw51_lives F  _ e_x_130) [] [] (vb x_130) (by kernel_rfl) (.inl rfl)) rfl (by kernel_rfl) ?_
               refine SL.sim tk 1 [(2, vb x_130)] [] [] [] (by kernel_rfl) ?_
               refine SL.nilThen ?_
               have ho := done_inv hp hs2
               replace hp := ho2
               try rw [ho] at hp
               obtain rfl := some_inv' hp
               exact SC.re (js := [.g 0]) tk (by kernel_rfl)
             · refine SC.skipThen ?_
               refine SC.seq ?_
               refine SC.reg ?_
               refine SL.sim tk 1 [(0, vs 0), (5, vp 1 0), (6, vi .i64 x_107), (53, .g (C_wirelesslaw51_pair c_129 (.s 2) (.s 3) (.s 4) (.s 5) (.s 6)))] [] [] [] (by kernel_rfl) ?_
               obtain ⟨x_131, e_x_131, hp⟩ := bind_inv hp
               refine SL.eff (e_c Try.call14 (ok_wirelesslaw51_pair_begins F c_129 _ e_x_131) [.g 2, .g 3, .g 4, .l 5, .l 6] [.g (C_wirelesslaw51_pair c_129 (.s 2) (.s 3) (.s 4) (.s 5) (.s 6))] (vb x_131) (by kernel_rfl) (.inr ⟨trivial, trivial, trivial, trivial, trivial, trivial⟩)) rfl (by kernel_rfl) ?_
               refine SL.sim tk 1 [(0, vs 0), (5, vp 1 0), (6, vi .i64 x_107), (55, vb (!x_131))] [] [] [] (by kernel_rfl) ?_
               refine SL.nilThen ?_
               refine SC.if' rfl hp (fun hp => ?_) (fun hp => ?_)
               · refine SC.r tk [(2, vb false)] [] [] [] (by kernel_rfl) ?_
                 have ho := done_inv hp hs2
                 replace hp := ho2
                 try rw [ho] at hp
                 obtain rfl := some_inv' hp
                 exact SC.re (js := [.g 0]) tk (by kernel_rfl)
               · refine SC.skipThen ?_
                 refine SC.reg ?_
                 refine SL.sim tk 3 [(0, vs 0), (5, vp 1 0), (6, vi .i64 (w64 (x_107 + 1)))] [] [] [] (by kernel_rfl) ?_
                 refine SL.nilJ fun a w h => ?_
                 exact ⟨n2, Nat.lt_succ_self _, c_129, w64 (x_107 + 1), next_inv hp hs2, h.at (js := [.g 0, .g 1, .g 2, .g 3, .g 4, .g 5, .g 6]) (by kernel_rfl)⟩
         · refine SC.exitJ rfl fun a w h => ?_
           have ho := done_inv hp hs2
           replace hp := ho2
           try rw [ho] at hp
           exact ⟨c_106, hp, h.at (js := [.g 0, .g 1, .g 2, .g 3, .g 4, .g 5, .g 6]) (by kernel_rfl)⟩
       · rintro a w ⟨c_35, hp, h⟩
         refine h.go ?_
         refine SC.cut (fun a w => ∃ (c_57 : T_wirelesslaw51_pair), wirelesslaw51_FriendKeeps_j3 F c_57 = some r ∧ A 93 1 fx [(5, vp 1 0)] [.gone, .blk 52 (C_wirelesslaw51_pair c_57 (.s 2) (.s 3) (.s 4) (.s 5) (.s 6)), .rd 18 R_T_api_Queued c_57.f.Queue, .rd 1 (RInt .u16) c_57.f.Subs, .rd 1 (RInt .u16) c_57.l.Subs, .own 1 31 (RInt .u32) c_57.kept, .own 1 31 (RInt .u32) c_57.got] a w) ?_ ?_
         · refine SC.r tk [(0, vs 0), (5, vp 1 0), (7, vi .i64 (len l_1))] [] [] [] (by kernel_rfl) ?_
           refine SC.block ?_
           obtain ⟨o1, hi1, ho1⟩ := bind_inv hp
           clear hp
           refine SC.loop (fun n a w => ∃ (c_80 : T_wirelesslaw51_pair) (x_81 : Int), iter (fun s => wirelesslaw51_FriendKeeps_l1 F l_1 s.1 s.2) n (c_80, x_81) = some o1 ∧ A 93 1 fx [(0, vs 0), (5, vp 1 0), (7, vi .i64 x_81)] [.rd 3 R_T_wirelesslaw51_Event l_1, .blk 52 (C_wirelesslaw51_pair c_80 (.s 2) (.s 3) (.s 4) (.s 5) (.s 6)), .rd 18 R_T_api_Queued c_80.f.Queue, .rd 1 (RInt .u16) c_80.f.Subs, .rd 1 (RInt .u16) c_80.l.Subs, .own 1 31 (RInt .u32) c_80.kept, .own 1 31 (RInt .u32) c_80.got] a w) F (fun a w h => ⟨c_35, len l_1, hi1, h.at (js := [.g 0, .g 1, .g 2, .g 3, .g 4, .g 5, .g 6]) (by kernel_rfl)⟩) ?_
           rintro n1 a w ⟨c_80, x_81, hi1, h⟩
           obtain ⟨n1, q1, rfl, hp, hs1⟩ := iter_inv hi1
           replace hp : wirelesslaw51_FriendKeeps_l1 F l_1 c_80 x_81 = some q1 := hp
           clear hi1
           refine h.go ?_
           refine SC.seq ?_
           refine SC.r tk [(0, vs 0), (5, vp 1 0), (7, vi .i64 x_81), (62, vb (decide (x_81 < (w64 ((len l_1) + 120)))))] [] [] [] (by kernel_rfl) ?_
           refine SC.if' rfl hp (fun hp => ?_) (fun hp => ?_)
           · refine SC.skipThen ?_
             refine SC.seq ?_
             refine SC.block ?_
             refine SC.seq ?_
             refine SC.reg ?_
             refine SL.sim tk 4 [(0, vs 0), (5, vp 1 0), (7, vi .i64 x_81), (65, .g (C_wirelesslaw51_pair c_80 (.s 2) (.s 3) (.s 4) (.s 5) (.s 6))), (66, .g [cb false, cb false, cb false]), (68, vi .i64 (w64 (10 * x_81)))] [] [] [] (by kernel_rfl) ?_
             obtain ⟨x_82, e_x_82, hp⟩ := bind_inv hp
             refine SL.eff (e_c Try.call13 (ok_wirelesslaw51_pair_tick F c_80 (T_wirelesslaw51_Event.mk false false false) (w64 (10 * x_81)) _ e_x_82) [.g 2, .g 3, .g 4, .g 5, .g 6] [.g (C_wirelesslaw51_pair c_80 (.s 2) (.s 3) (.s 4) (.s 5) (.s 6)), .g [cb false, cb false, cb false], vi .i64 (w64 (10 * x_81))] (.g (C_wirelesslaw51_pair x_82 (.s 7) (.s 8) (.s 9) (.s 10) (.s 11))) (by kernel_rfl) (.inl rfl)) rfl (by kernel_rfl) ?_
             refine SL.sim tk 1 [(0, vs 0), (5, vp 1 0), (7, vi .i64 x_81)] [(1, 52, (C_wirelesslaw51_pair x_82 (.s 7) (.s 8) (.s 9) (.s 10) (.s 11)))] [] [] (by kernel_rfl) ?_
             refine SL.nilThen ?_
             refine SC.seq ?_
             refine SC.seq ?_
             refine SC.reg ?_
             refine SL.sim tk 1 [(0, vs 0), (5, vp 1 0), (7, vi .i64 x_81), (70, .g (C_wirelesslaw51_pair x_82 (.s 7) (.s 8) (.s 9) (.s 10) (.s 11)))] [] [] [] (by kernel_rfl) ?_
             obtain ⟨x_83, e_x_83, hp⟩ := bind_inv hp
             refine SL.eff (e_c Try.call14 (ok_wirelesslaw51_pair_begins F x_82 _ e_x_83) [.g 7, .g 8, .g 9, .l 10, .l 11] [.g (C_wirelesslaw51_pair x_82 (.s 7) (.s 8) (.s 9) (.s 10) (.s 11))] (vb x_83) (by kernel_rfl) (.inr ⟨trivial, trivial, trivial, trivial, trivial, trivial⟩)) rfl (by kernel_rfl) ?_
             refine SL.norm (itsN := [.rd 3 R_T_wirelesslaw51_Event l_1, .blk 52 (C_wirelesslaw51_pair x_82 (.s 7) (.s 8) (.s 9) (.s 10) (.s 11)), .rd 18 R_T_api_Queued c_80.f.Queue, .rd 1 (RInt .u16) c_80.f.Subs, .rd 1 (RInt .u16) c_80.l.Subs, .gone, .gone, .rd 18 R_T_api_Queued x_82.f.Queue, .rd 1 (RInt .u16) x_82.f.Subs, .rd 1 (RInt .u16) x_82.l.Subs, .own 1 31 (RInt .u32) x_82.kept, .own 1 31 (RInt .u32) x_82.got]) (by kernel_rfl) ?_
             refine SL.sim tk 1 [(0, vs 0), (5, vp 1 0), (7, vi .i64 x_81), (72, vb (!x_83))] [] [] [] (by kernel_rfl) ?_
             refine SL.nilThen ?_
             refine SC.if' rfl hp (fun hp => ?_) (fun hp => ?_)
             · refine SC.r tk [(2, vb false)] [] [] [] (by kernel_rfl) ?_
               have ho := done_inv hp hs1
               replace hp := ho1
               try rw [ho] at hp
               obtain rfl := some_inv' hp
               exact SC.re (js := [.g 0]) tk (by kernel_rfl)
             · refine SC.skipThen ?_
               refine SC.r tk [(0, vs 0), (5, vp 1 0), (7, vi .i64 x_81), (74, vb x_82.ended)] [] [] [] (by kernel_rfl) ?_
               refine SC.if' rfl hp (fun hp => ?_) (fun hp => ?_)
               · refine SC.seq ?_
                 refine SC.reg ?_
                 obtain ⟨x_84, e_x_84, hp⟩ := bind_inv hp
                 refine SL.eff (e_c Try.call7 (ok_wirelesslaw51_lives F  _ e_x_84) [] [] (vb x_84) (by kernel_rfl) (.inl rfl)) rfl (by kernel_rfl) ?_
                 refine SL.sim tk 8 [(2, vb (x_84 && (decide (x_81 < (w64 ((len l_1) + 20))))))] [] [] [] (by kernel_rfl) ?_
                 refine SL.nilThen ?_
                 have ho := done_inv hp hs1
                 replace hp := ho1
                 try rw [ho] at hp
                 obtain rfl := some_inv' hp
                 exact SC.re (js := [.g 0]) tk (by kernel_rfl)
               · refine SC.skipThen ?_
                 refine SC.reg ?_
                 refine SL.sim tk 3 [(0, vs 0), (5, vp 1 0), (7, vi .i64 (w64 (x_81 + 1)))] [] [] [] (by kernel_rfl) ?_
                 refine SL.nilJ fun a w h => ?_
                 exact ⟨n1, Nat.lt_succ_self _, x_82, w64 (x_81 + 1), next_inv hp hs1, h.at (js := [.g 0, .g 1, .g 7, .g 8, .g 9, .g 10, .g 11]) (by kernel_rfl)⟩
           · refine SC.exitJ rfl fun a w h => ?_
             have ho := done_inv hp hs1
             replace hp := ho1
             try rw [ho] at hp
             exact ⟨c_80, hp, h.at (js := [.g 0, .g 1, .g 2, .g 3, .g 4, .g 5, .g 6]) (by kernel_rfl)⟩
         · rintro a w ⟨c_57, hp, h⟩
           refine h.go ?_
           refine SC.seq ?_
           refine SC.reg ?_
           obtain ⟨x_58, e_x_58, hp⟩ := bind_inv hp
           refine SL.eff (e_c Try.call7 (ok_wirelesslaw51_lives F  _ e_x_58) [] [] (vb x_58) (by kernel_rfl) (.inl rfl)) rfl (by kernel_rfl) ?_
           refine SL.sim tk 10 [(2, vb (x_58 && ((len c_57.got) == (len c_57.kept))))] [] [] [] (by kernel_rfl) ?_
           refine SL.nilThen ?_
           obtain rfl := some_inv' hp
           exact SC.re (js := [.g 0]) tk (by kernel_rfl)
end V
end Go.Proofs.Ytphigebccfoppaa
