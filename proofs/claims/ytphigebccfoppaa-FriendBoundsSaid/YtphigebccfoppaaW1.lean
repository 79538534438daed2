/-
  Walks, written by program: each Go function returns what its pure twin says.
-/
import Derived.Test.YtphigebccfoppaaW0
namespace Go.Proofs.Ytphigebccfoppaa
namespace V
theorem ok_wirelesslaw51_FriendBounds (F : Nat) (l_1 : (List T_wirelesslaw51_Op)) (r : Bool) (hp : wirelesslaw51_FriendBounds F l_1 = some r) : Spec Try.prog 3 [vs 0] [.rd 25 R_T_wirelesslaw51_Op l_1] (vb r) [.gone] := by
 refine Spec.enter Try.func3 rfl Try.ntmps3 rfl rfl fun fx => ?_
 refine SC.r tk [(0, vs 0)] [] [] [] (by kernel_rfl) ?_
 refine SC.seq ?_
 refine SC.r tk [(0, vs 0), (13, vb (decide ((len l_1) > 200)))] [] [] [] (by kernel_rfl) ?_
 refine SC.if' rfl hp (fun hp => ?_) (fun hp => ?_)
 · refine SC.seq ?_
   refine SC.reg ?_
   obtain ⟨x_2, e_x_2, hp⟩ := bind_inv hp
   refine SL.eff (e_c Try.call7 (ok_wirelesslaw51_lives F  _ e_x_2) [] [] (vb x_2) (by kernel_rfl) (.inl rfl)) rfl (by kernel_rfl) ?_
   refine SL.sim tk 1 [(2, vb x_2)] [] [] [] (by kernel_rfl) ?_
   refine SL.nilThen ?_
   obtain rfl := some_inv' hp
   exact SC.re (js := [.g 0]) tk (by kernel_rfl)
 · refine SC.skipThen ?_
   refine SC.seq ?_
   refine SC.reg ?_
   refine SL.sim tk 1 [(0, vs 0), (16, .g (C_api_Friend (T_api_Friend.mk 0 [] [] 0 false 0 0 0) nl nl))] [] [] [] (by kernel_rfl) ?_
   obtain ⟨x_3, e_x_3, hp⟩ := bind_inv hp
   refine SL.eff (e_c Try.call8 (ok_friend_Befriend F (T_api_Friend.mk 0 [] [] 0 false 0 0 0) 5 1 0 _ e_x_3) [.n, .n] [.g (C_api_Friend (T_api_Friend.mk 0 [] [] 0 false 0 0 0) nl nl), vi .u16 5, vi .i64 1, vi .i64 0] (.u [.inr (C_api_Friend x_3.1 (.s 1) (.s 2)), .inl (cb x_3.2)]) (by kernel_rfl) (.inl rfl)) rfl (by kernel_rfl) ?_
   refine SL.sim tk 3 [(0, vs 0), (18, .g (C_api_Friend x_3.1 (.s 1) (.s 2))), (19, vb x_3.2)] [] [] [] (by kernel_rfl) ?_
   refine SL.eff (e_alloc (E := 28) tk (C_api_Friend (T_api_Friend.mk 0 [] [] 0 false 0 0 0) nl nl) (by kernel_rfl)) rfl (by kernel_rfl) ?_
   refine SL.sim tk 2 [(0, vs 0), (3, vp 3 0), (4, vb x_3.2)] [(3, 28, (C_api_Friend x_3.1 (.s 1) (.s 2)))] [] [] (by kernel_rfl) ?_
   refine SL.nilThen ?_
   refine SC.seq ?_
   refine SC.r tk [(0, vs 0), (3, vp 3 0), (21, vb (!x_3.2))] [] [] [] (by kernel_rfl) ?_
   refine SC.if' rfl hp (fun hp => ?_) (fun hp => ?_)
   · refine SC.r tk [(2, vb false)] [] [] [] (by kernel_rfl) ?_
     obtain rfl := some_inv' hp
     exact SC.re (js := [.g 0]) tk (by kernel_rfl)
   · refine SC.skipThen ?_
     refine SC.cut (fun a w => wirelesslaw51_FriendBounds_j1 F = some r ∧ A 139 1 fx [] [.gone] a w) ?_ ?_
     · refine SC.r tk [(0, vs 0), (3, vp 3 0), (5, vi .i64 0)] [] [] [] (by kernel_rfl) ?_
       refine SC.block ?_
       obtain ⟨o1, hi1, ho1⟩ := bind_inv hp
       clear hp
       refine SC.loop (fun n a w => ∃ (c_13 : T_api_Friend) (x_14 : Int), iter (fun s => wirelesslaw51_FriendBounds_l1 F l_1 s.1 s.2) n (c_13, x_14) = some o1 ∧ A 139 1 fx [(0, vs 0), (3, vp 1 0), (5, vi .i64 x_14)] [.rd 25 R_T_wirelesslaw51_Op l_1, .blk 28 (C_api_Friend c_13 (.s 2) (.s 3)), .rd 18 R_T_api_Queued c_13.Queue, .rd 1 (RInt .u16) c_13.Subs] a w) F (fun a w h => ⟨x_3.1, 0, hi1, h.at (js := [.g 0, .g 3, .g 1, .g 2]) (by kernel_rfl)⟩) ?_
       rintro n1 a w ⟨c_13, x_14, hi1, h⟩
       obtain ⟨n1, q1, rfl, hp, hs1⟩ := iter_inv hi1
       replace hp : wirelesslaw51_FriendBounds_l1 F l_1 c_13 x_14 = some q1 := hp
       clear hi1
       refine h.go ?_
       refine SC.seq ?_
       refine SC.r tk [(0, vs 0), (3, vp 1 0), (5, vi .i64 x_14), (25, vb (decide (x_14 < (len l_1))))] [] [] [] (by kernel_rfl) ?_
       refine SC.if' rfl hp (fun hp => ?_) (fun hp => ?_)
       · refine SC.skipThen ?_
         refine SC.cut (fun a w => ∃ (c_23 : T_api_Friend), wirelesslaw51_FriendBounds_j2 F x_14 c_23 = some q1 ∧ A 139 1 fx [(0, vs 0), (3, vp 1 0), (5, vi .i64 x_14)] [.rd 25 R_T_wirelesslaw51_Op l_1, .blk 28 (C_api_Friend c_23 (.s 2) (.s 3)), .rd 18 R_T_api_Queued c_23.Queue, .rd 1 (RInt .u16) c_23.Subs] a w) ?_ ?_
         · refine SC.block ?_
           refine SC.seq ?_
           refine SC.reg ?_
           refine SL.sim tk 1 [(0, vs 0), (3, vp 1 0), (5, vi .i64 x_14), (28, .g (C_api_Friend c_13 (.s 2) (.s 3)))] [] [] [] (by kernel_rfl) ?_
           refine SL.eff (e_alloc (E := 28) tk (C_api_Friend (T_api_Friend.mk 0 [] [] 0 false 0 0 0) nl nl) (by kernel_rfl)) rfl (by kernel_rfl) ?_
           refine SL.sim tk 1 [(0, vs 0), (3, vp 1 0), (5, vi .i64 x_14), (6, vp 4 0)] [(4, 28, (C_api_Friend c_13 (.s 2) (.s 3)))] [] [] (by kernel_rfl) ?_
           refine SL.nilThen ?_
           refine SC.cut (fun a w => ∃ (c_32 : T_api_Friend), wirelesslaw51_FriendBounds_j3 F l_1 c_13 x_14 c_32 = some q1 ∧ A 139 1 fx [(0, vs 0), (3, vp 1 0), (5, vi .i64 x_14), (6, vp 4 0)] [.rd 25 R_T_wirelesslaw51_Op l_1, .blk 28 (C_api_Friend c_32 (.s 2) (.s 3)), .rd 18 R_T_api_Queued c_32.Queue, .rd 1 (RInt .u16) c_32.Subs, .blk 28 (C_api_Friend c_13 (.s 5) (.s 6)), .rd 18 R_T_api_Queued c_13.Queue, .rd 1 (RInt .u16) c_13.Subs] a w) ?_ ?_
           · obtain ⟨x_1424, e_x_1424, hp⟩ := bind_inv hp
             refine SC.pre (pre_ix (i := 0) (iv := x_14) (sz := 25) (R := R_T_wirelesslaw51_Op) (l := l_1) (by kernel_rfl) rfl e_x_1424) ?_
             refine SC.r tk [(0, vs 0), (3, vp 1 0), (5, vi .i64 x_14), (6, vp 4 0), (34, vb (x_1424.Kind == 2))] [] [.el 5] [x_14] (by kernel_rfl) ?_
             refine SC.if' rfl hp (fun hp => ?_) (fun hp => ?_)
             · obtain ⟨x_1425, e_x_1425, hp⟩ := bind_inv hp
               refine SC.pre (pre_ix (i := 0) (iv := x_14) (sz := 25) (R := R_T_wirelesslaw51_Op) (l := l_1) (by kernel_rfl) rfl e_x_1425) ?_
               refine SC.draw MO [I, O, I, I, I, I, I, I, I, I, I, I, I] (by kernel_rfl) fun kap_1426 D_1427 => ?_
               refine SD.takes tk D_1427 [] kn0 [1, 2, 3, 4, 5] [.el 9] [x_14] [O, I, I, I, I, I, O, O, O, O, O] [(0, vs 0), (3, vp 1 0), (5, vi .i64 x_14), (6, vp 4 0), (41, vi .i64 x_1425.Number)] rfl (by kernel_rfl) (by kernel_rfl) (by kernel_rfl) ?_
               refine SD.all1 (i := 0) (by kernel_rfl) ?_
               refine SW.eff D_1427 (i := 0) (v := .g (C_api_Friend c_13 (.s 2) (.s 3))) (bs' := [I, I, I, I, I, I, O, O, O, O, O]) rfl (.inl rfl) rfl (e_val tk (by kernel_rfl)) (by kernel_rfl) rfl (by kernel_rfl) ?_
               refine SD.norm (itsN := [.rd 25 R_T_wirelesslaw51_Op l_1, .blk 28 (C_api_Friend c_13 (.s 2) (.s 3)), .rd 18 R_T_api_Queued c_13.Queue, .rd 1 (RInt .u16) c_13.Subs, .blk 28 (C_api_Friend c_13 (.s 2) (.s 3)), .elt (some (0, x_14)) false (C_wirelesslaw51_Op x_1424 (.s 6) (.s 7) (.s 8)), .rd 1 R8 x_1424.Q.PDU.Payload, .rd 1 R8 x_1424.Q.Lower.Bytes, .rd 1 (RInt .u16) x_1424.Subs, .elt (some (0, x_14)) false (C_wirelesslaw51_Op x_1425 (.s 10) (.s 11) (.s 12)), .rd 1 R8 x_1425.Q.PDU.Payload, .rd 1 R8 x_1425.Q.Lower.Bytes, .rd 1 (RInt .u16) x_1425.Subs]) (by kernel_rfl) ?_
               obtain ⟨x_1428, e_x_1428, hp⟩ := bind_inv hp
               refine SD.all1 (i := 6) (by kernel_rfl) ?_
               refine SW.eff D_1427 (i := 6) (bs' := [I, I, I, I, I, I, I, O, O, O, O]) rfl (.inl rfl) rfl (e_c Try.call9 (ok_friend_Poll F c_13 x_1425.Number 0 _ e_x_1428) [.g 2, .g 3] [.g (C_api_Friend c_13 (.s 2) (.s 3)), vi .i64 x_1425.Number, vi .i64 0] (.u [.inr (C_api_Friend x_1428.1 (.s 13) (.s 14)), .inl (.s 15)]) (by kernel_rfl) (.inl rfl)) (by kernel_rfl) rfl (by kernel_rfl) ?_
               refine SD.takes tk D_1427 [] kn0 [7, 8, 9] [] [] [I, I, I, I, I, I, I, I, I, I, O] [(0, vs 0), (3, vp 1 0), (5, vi .i64 x_14), (6, vp 4 0), (43, .g (C_api_Friend x_1428.1 (.s 13) (.s 14)))] rfl (by kernel_rfl) (by kernel_rfl) (by kernel_rfl) ?_
               refine SD.all1 (i := 10) (by kernel_rfl) ?_
               refine SW.store D_1427 tk (i := 10) (q := 1) (T := 28) (cs := (C_api_Friend x_1428.1 (.s 13) (.s 14))) (bs' := [I, I, I, I, I, I, I, I, I, I, I]) rfl (by kernel_rfl) rfl rfl (by kernel_rfl) ?_
               refine SD.norm (itsN := [.rd 25 R_T_wirelesslaw51_Op l_1, .blk 28 (C_api_Friend x_1428.1 (.s 13) (.s 14)), .rd 18 R_T_api_Queued c_13.Queue, .rd 1 (RInt .u16) c_13.Subs, .blk 28 (C_api_Friend c_13 (.s 2) (.s 3)), .elt (some (0, x_14)) false (C_wirelesslaw51_Op x_1424 (.s 6) (.s 7) (.s 8)), .rd 1 R8 x_1424.Q.PDU.Payload, .rd 1 R8 x_1424.Q.Lower.Bytes, .rd 1 (RInt .u16) x_1424.Subs, .elt (some (0, x_14)) false (C_wirelesslaw51_Op x_1425 (.s 10) (.s 11) (.s 12)), .rd 1 R8 x_1425.Q.PDU.Payload, .rd 1 R8 x_1425.Q.Lower.Bytes, .rd 1 (RInt .u16) x_1425.Subs, .rd 18 R_T_api_Queued x_1428.1.Queue, .rd 1 (RInt .u16) x_1428.1.Subs, .rd 18 R_T_api_Queued x_1428.2]) (by kernel_rfl) ?_
               refine SD.done (by kernel_rfl) fun a w h => ?_
               exact ⟨x_1428.1, hp, h.at (js := [.g 0, .g 1, .g 13, .g 14, .g 4, .g 2, .g 3]) (by kernel_rfl)⟩
             · obtain ⟨x_1429, e_x_1429, hp⟩ := bind_inv hp
               refine SC.pre (pre_ix (i := 0) (iv := x_14) (sz := 25) (R := R_T_wirelesslaw51_Op) (l := l_1) (by kernel_rfl) rfl e_x_1429) ?_
               refine SC.draw MO [I, O, I, I, I, I, I, I, I, I, I, I, I] (by kernel_rfl) fun kap_1430 D_1431 => ?_
               refine SD.takes tk D_1431 [] kn0 [1, 2, 3, 4, 5] [.el 9] [x_14] [O, I, I, I, I, I, O, O] [(0, vs 0), (3, vp 1 0), (5, vi .i64 x_14), (6, vp 4 0), (50, .g (C_api_Queued x_1429.Q (.s 10) (.s 11)))] rfl (by kernel_rfl) (by kernel_rfl) (by kernel_rfl) ?_
               refine SD.all1 (i := 0) (by kernel_rfl) ?_
               refine SW.eff D_1431 (i := 0) (v := .g (C_api_Friend c_13 (.s 2) (.s 3))) (bs' := [I, I, I, I, I, I, O, O]) rfl (.inl rfl) rfl (e_val tk (by kernel_rfl)) (by kernel_rfl) rfl (by kernel_rfl) ?_
               refine SD.norm (itsN := [.rd 25 R_T_wirelesslaw51_Op l_1, .blk 28 (C_api_Friend c_13 (.s 2) (.s 3)), .rd 18 R_T_api_Queued c_13.Queue, .rd 1 (RInt .u16) c_13.Subs, .blk 28 (C_api_Friend c_13 (.s 2) (.s 3)), .elt (some (0, x_14)) false (C_wirelesslaw51_Op x_1424 (.s 6) (.s 7) (.s 8)), .rd 1 R8 x_1424.Q.PDU.Payload, .rd 1 R8 x_1424.Q.Lower.Bytes, .rd 1 (RInt .u16) x_1424.Subs, .elt (some (0, x_14)) false (C_wirelesslaw51_Op x_1429 (.s 10) (.s 11) (.s 12)), .rd 1 R8 x_1429.Q.PDU.Payload, .rd 1 R8 x_1429.Q.Lower.Bytes, .rd 1 (RInt .u16) x_1429.Subs]) (by kernel_rfl) ?_
               obtain ⟨x_1432, e_x_1432, hp⟩ := bind_inv hp
               refine SD.all1 (i := 6) (by kernel_rfl) ?_
               refine SW.eff D_1431 (i := 6) (bs' := [I, I, I, I, I, I, I, O]) rfl (.inl rfl) rfl (e_c Try.call10 (ok_friend_Keep F c_13 x_1429.Q _ e_x_1432) [.g 2, .g 3, .g 10, .g 11] [.g (C_api_Friend c_13 (.s 2) (.s 3)), .g (C_api_Queued x_1429.Q (.s 10) (.s 11))] (.g (C_api_Friend x_1432 (.s 13) (.s 14))) (by kernel_rfl) (.inl rfl)) (by kernel_rfl) rfl (by kernel_rfl) ?_
               refine SD.all1 (i := 7) (by kernel_rfl) ?_
               refine SW.store D_1431 tk (i := 7) (q := 1) (T := 28) (cs := (C_api_Friend x_1432 (.s 13) (.s 14))) (bs' := [I, I, I, I, I, I, I, I]) rfl (by kernel_rfl) rfl rfl (by kernel_rfl) ?_
               refine SD.norm (itsN := [.rd 25 R_T_wirelesslaw51_Op l_1, .blk 28 (C_api_Friend x_1432 (.s 13) (.s 14)), .rd 18 R_T_api_Queued c_13.Queue, .rd 1 (RInt .u16) c_13.Subs, .blk 28 (C_api_Friend c_13 (.s 2) (.s 3)), .elt (some (0, x_14)) false (C_wirelesslaw51_Op x_1424 (.s 6) (.s 7) (.s 8)), .rd 1 R8 x_1424.Q.PDU.Payload, .rd 1 R8 x_1424.Q.Lower.Bytes, .rd 1 (RInt .u16) x_1424.Subs, .elt (some (0, x_14)) false (C_wirelesslaw51_Op x_1429 (.s 10) (.s 11) (.s 12)), .rd 1 R8 x_1429.Q.PDU.Payload, .rd 1 R8 x_1429.Q.Lower.Bytes, .rd 1 (RInt .u16) x_1429.Subs, .rd 18 R_T_api_Queued x_1432.Queue, .rd 1 (RInt .u16) x_1432.Subs]) (by kernel_rfl) ?_
               refine SD.done (by kernel_rfl) fun a w h => ?_
               exact ⟨x_1432, hp, h.at (js := [.g 0, .g 1, .g 13, .g 14, .g 4, .g 2, .g 3]) (by kernel_rfl)⟩
           · rintro a w ⟨c_32, hp, h⟩
             refine h.go ?_
             refine SC.seq ?_
             refine SC.seq ?_
             refine SC.reg ?_
             refine SL.sim tk 5 [(0, vs 0), (3, vp 1 0), (5, vi .i64 x_14), (6, vp 4 0), (56, vb (decide ((len c_32.Queue) > 16)))] [] [] [] (by kernel_rfl) ?_
             obtain ⟨z_34, hz, hpr⟩ := bind_inv hp
             clear hp
             refine SL.cutAt 38 (fun a w => A 139 1 fx [(0, vs 0), (3, vp 1 0), (5, vi .i64 x_14), (94, vb z_34)] [.rd 25 R_T_wirelesslaw51_Op l_1, .blk 28 (C_api_Friend c_32 (.s 2) (.s 3)), .rd 18 R_T_api_Queued c_32.Queue, .rd 1 (RInt .u16) c_32.Subs] a w) ?_ ?_
             · have hp := hz
               rcases Bool.eq_false_or_eq_true (decide ((len c_32.Queue) > 16)) with hg_33 | hg_33
               · replace hp := if_t hp hg_33
                 refine SL.no rfl rfl hg_33 rfl ?_
                 refine SL.no rfl rfl hg_33 rfl ?_
                 refine SL.no rfl rfl hg_33 rfl ?_
                 refine SL.no rfl rfl hg_33 rfl ?_
                 refine SL.no rfl rfl hg_33 rfl ?_
                 refine SL.no rfl rfl hg_33 rfl ?_
                 refine SL.no rfl rfl hg_33 rfl ?_
                 refine SL.noU rfl rfl rfl ?_
                 refine SL.noU rfl rfl rfl ?_
                 refine SL.noU rfl rfl rfl ?_
                 refine SL.noU rfl rfl rfl ?_
                 refine SL.noU rfl rfl rfl ?_
                 refine SL.noU rfl rfl rfl ?_
                 refine SL.noU rfl rfl rfl ?_
                 refine SL.noU rfl rfl rfl ?_
                 refine SL.noU rfl rfl rfl ?_
                 refine SL.noU rfl rfl rfl ?_
                 refine SL.noU rfl rfl rfl ?_
                 refine SL.noU rfl rfl rfl ?_
                 refine SL.noU rfl rfl rfl ?_
                 refine SL.no rfl rfl hg_33 rfl ?_
                 refine SL.no rfl rfl hg_33 rfl ?_
                 refine SL.noU rfl rfl rfl ?_
                 refine SL.noU rfl rfl rfl ?_
                 refine SL.noU rfl rfl rfl ?_
                 refine SL.noU rfl rfl rfl ?_
                 refine SL.noU rfl rfl rfl ?_
                 refine SL.noU rfl rfl rfl ?_
                 refine SL.noU rfl rfl rfl ?_
                 refine SL.noU rfl rfl rfl ?_
                 refine SL.noU rfl rfl rfl ?_
                 refine SL.noU rfl rfl rfl ?_
                 refine SL.noU rfl rfl rfl ?_
                 refine SL.noU rfl rfl rfl ?_
                 refine SL.noU rfl rfl rfl ?_
                 refine SL.noU rfl rfl rfl ?_
                 refine SL.no rfl rfl hg_33 rfl ?_
                 refine SL.pickt rfl hg_33 rfl rfl ?_
                 refine SL.nilJ fun a w h => ?_
                 obtain rfl := some_inv' hp
                 exact h.at (js := [.g 0, .g 1, .g 2, .g 3]) (by kernel_rfl)
               · replace hp := if_f hp hg_33
                 refine SL.yes rfl rfl hg_33 ?_
                 refine SL.sim tk 1 [(0, vs 0), (3, vp 1 0), (5, vi .i64 x_14), (6, vp 4 0), (56, vb (decide ((len c_32.Queue) > 16))), (57, vs 0)] [] [] [] (by kernel_rfl) ?_
                 refine SL.yes rfl rfl hg_33 ?_
                 refine SL.sim tk 1 [(0, vs 0), (3, vp 1 0), (5, vi .i64 x_14), (6, vp 4 0), (56, vb (decide ((len c_32.Queue) > 16))), (57, vs 0), (58, vi .i64 x_14)] [] [] [] (by kernel_rfl) ?_
                 refine SL.yes rfl rfl hg_33 ?_
                 obtain ⟨x_1420, e_x_1420, hp⟩ := bind_inv hp
                 refine SL.pre (pre_ix (i := 0) (iv := x_14) (sz := 25) (R := R_T_wirelesslaw51_Op) (l := l_1) (by kernel_rfl) rfl e_x_1420) ?_
                 refine SL.sim tk 1 [(0, vs 0), (3, vp 1 0), (5, vi .i64 x_14), (6, vp 4 0), (56, vb (decide ((len c_32.Queue) > 16))), (57, vs 0), (58, vi .i64 x_14), (59, vp 7 0)] [] [.el 7] [x_14] (by kernel_rfl) ?_
                 refine SL.yes rfl rfl hg_33 ?_
                 refine SL.sim tk 1 [(0, vs 0), (3, vp 1 0), (5, vi .i64 x_14), (6, vp 4 0), (56, vb (decide ((len c_32.Queue) > 16))), (57, vs 0), (58, vi .i64 x_14), (59, vp 7 0), (60, vp 7 0)] [] [] [] (by kernel_rfl) ?_
                 refine SL.yes rfl rfl hg_33 ?_
                 refine SL.sim tk 1 [(0, vs 0), (3, vp 1 0), (5, vi .i64 x_14), (6, vp 4 0), (56, vb (decide ((len c_32.Queue) > 16))), (57, vs 0), (58, vi .i64 x_14), (59, vp 7 0), (60, vp 7 0), (61, vi .i64 x_1420.Kind)] [] [] [] (by kernel_rfl) ?_
                 refine SL.yes rfl rfl hg_33 ?_
                 refine SL.sim tk 1 [(0, vs 0), (3, vp 1 0), (5, vi .i64 x_14), (6, vp 4 0), (56, vb (decide ((len c_32.Queue) > 16))), (57, vs 0), (58, vi .i64 x_14), (59, vp 7 0), (60, vp 7 0), (61, vi .i64 x_1420.Kind), (62, vb (x_1420.Kind != 2))] [] [] [] (by kernel_rfl) ?_
                 refine SL.yes rfl rfl hg_33 ?_
                 refine SL.sim tk 1 [(0, vs 0), (3, vp 1 0), (5, vi .i64 x_14), (6, vp 4 0), (56, vb (decide ((len c_32.Queue) > 16))), (57, vs 0), (58, vi .i64 x_14), (59, vp 7 0), (60, vp 7 0), (61, vi .i64 x_1420.Kind), (62, vb (x_1420.Kind != 2)), (63, vb (x_1420.Kind != 2))] [] [] [] (by kernel_rfl) ?_
                 rcases Bool.eq_false_or_eq_true ((x_1420.Kind != 2)) with hg_1421 | hg_1421
                 · replace hp := if_t hp hg_1421
                   refine SL.yes rfl rfl hg_1421 ?_
                   refine SL.sim tk 1 [(0, vs 0), (3, vp 1 0), (5, vi .i64 x_14), (6, vp 4 0), (56, vb (decide ((len c_32.Queue) > 16))), (57, vs 0), (58, vi .i64 x_14), (59, vp 7 0), (60, vp 7 0), (61, vi .i64 x_1420.Kind), (62, vb (x_1420.Kind != 2)), (63, vb (x_1420.Kind != 2)), (64, vp 1 1)] [] [] [] (by kernel_rfl) ?_
                   refine SL.yes rfl rfl hg_1421 ?_
                   refine SL.sim tk 1 [(0, vs 0), (3, vp 1 0), (5, vi .i64 x_14), (6, vp 4 0), (56, vb (decide ((len c_32.Queue) > 16))), (57, vs 0), (58, vi .i64 x_14), (59, vp 7 0), (60, vp 7 0), (61, vi .i64 x_1420.Kind), (62, vb (x_1420.Kind != 2)), (63, vb (x_1420.Kind != 2)), (64, vp 1 1), (65, vs 2)] [] [] [] (by kernel_rfl) ?_
                   refine SL.yes rfl rfl hg_1421 ?_
                   refine SL.sim tk 1 [(0, vs 0), (3, vp 1 0), (5, vi .i64 x_14), (6, vp 4 0), (56, vb (decide ((len c_32.Queue) > 16))), (57, vs 0), (58, vi .i64 x_14), (59, vp 7 0), (60, vp 7 0), (61, vi .i64 x_1420.Kind), (62, vb (x_1420.Kind != 2)), (63, vb (x_1420.Kind != 2)), (64, vp 1 1), (65, vs 2), (66, vi .i64 (len c_32.Queue))] [] [] [] (by kernel_rfl) ?_
                   refine SL.yes rfl rfl hg_1421 ?_
                   refine SL.sim tk 1 [(0, vs 0), (3, vp 1 0), (5, vi .i64 x_14), (6, vp 4 0), (56, vb (decide ((len c_32.Queue) > 16))), (57, vs 0), (58, vi .i64 x_14), (59, vp 7 0), (60, vp 7 0), (61, vi .i64 x_1420.Kind), (62, vb (x_1420.Kind != 2)), (63, vb (x_1420.Kind != 2)), (64, vp 1 1), (65, vs 2), (66, vi .i64 (len c_32.Queue)), (67, vp 1 7)] [] [] [] (by kernel_rfl) ?_
                   refine SL.yes rfl rfl hg_1421 ?_
                   refine SL.sim tk 1 [(0, vs 0), (3, vp 1 0), (5, vi .i64 x_14), (6, vp 4 0), (56, vb (decide ((len c_32.Queue) > 16))), (57, vs 0), (58, vi .i64 x_14), (59, vp 7 0), (60, vp 7 0), (61, vi .i64 x_1420.Kind), (62, vb (x_1420.Kind != 2)), (63, vb (x_1420.Kind != 2)), (64, vp 1 1), (65, vs 2), (66, vi .i64 (len c_32.Queue)), (67, vp 1 7), (68, vi .i64 c_32.Dropped)] [] [] [] (by kernel_rfl) ?_
                   refine SL.yes rfl rfl hg_1421 ?_
                   refine SL.sim tk 1 [(0, vs 0), (3, vp 1 0), (5, vi .i64 x_14), (6, vp 4 0), (56, vb (decide ((len c_32.Queue) > 16))), (57, vs 0), (58, vi .i64 x_14), (59, vp 7 0), (60, vp 7 0), (61, vi .i64 x_1420.Kind), (62, vb (x_1420.Kind != 2)), (63, vb (x_1420.Kind != 2)), (64, vp 1 1), (65, vs 2), (66, vi .i64 (len c_32.Queue)), (67, vp 1 7), (68, vi .i64 c_32.Dropped), (69, vi .i64 (w64 ((len c_32.Queue) + c_32.Dropped)))] [] [] [] (by kernel_rfl) ?_
                   refine SL.yes rfl rfl hg_1421 ?_
                   refine SL.sim tk 1 [(0, vs 0), (3, vp 1 0), (5, vi .i64 x_14), (6, vp 4 0), (56, vb (decide ((len c_32.Queue) > 16))), (57, vs 0), (58, vi .i64 x_14), (59, vp 7 0), (60, vp 7 0), (61, vi .i64 x_1420.Kind), (62, vb (x_1420.Kind != 2)), (63, vb (x_1420.Kind != 2)), (64, vp 1 1), (65, vs 2), (66, vi .i64 (len c_32.Queue)), (67, vp 1 7), (68, vi .i64 c_32.Dropped), (69, vi .i64 (w64 ((len c_32.Queue) + c_32.Dropped))), (70, vp 4 1)] [] [] [] (by kernel_rfl) ?_
                   refine SL.yes rfl rfl hg_1421 ?_
                   refine SL.sim tk 1 [(0, vs 0), (3, vp 1 0), (5, vi .i64 x_14), (6, vp 4 0), (56, vb (decide ((len c_32.Queue) > 16))), (57, vs 0), (58, vi .i64 x_14), (59, vp 7 0), (60, vp 7 0), (61, vi .i64 x_1420.Kind), (62, vb (x_1420.Kind != 2)), (63, vb (x_1420.Kind != 2)), (64, vp 1 1), (65, vs 2), (66, vi .i64 (len c_32.Queue)), (67, vp 1 7), (68, vi .i64 c_32.Dropped), (69, vi .i64 (w64 ((len c_32.Queue) + c_32.Dropped))), (70, vp 4 1), (71, vs 5)] [] [] [] (by kernel_rfl) ?_
                   refine SL.yes rfl rfl hg_1421 ?_
                   refine SL.sim tk 1 [(0, vs 0), (3, vp 1 0), (5, vi .i64 x_14), (6, vp 4 0), (56, vb (decide ((len c_32.Queue) > 16))), (57, vs 0), (58, vi .i64 x_14), (59, vp 7 0), (60, vp 7 0), (61, vi .i64 x_1420.Kind), (62, vb (x_1420.Kind != 2)), (63, vb (x_1420.Kind != 2)), (64, vp 1 1), (65, vs 2), (66, vi .i64 (len c_32.Queue)), (67, vp 1 7), (68, vi .i64 c_32.Dropped), (69, vi .i64 (w64 ((len c_32.Queue) + c_32.Dropped))), (70, vp 4 1), (71, vs 5), (72, vi .i64 (len c_13.Queue))] [] [] [] (by kernel_rfl) ?_
                   refine SL.yes rfl rfl hg_1421 ?_
                   refine SL.sim tk 1 [(0, vs 0), (3, vp 1 0), (5, vi .i64 x_14), (6, vp 4 0), (56, vb (decide ((len c_32.Queue) > 16))), (57, vs 0), (58, vi .i64 x_14), (59, vp 7 0), (60, vp 7 0), (61, vi .i64 x_1420.Kind), (62, vb (x_1420.Kind != 2)), (63, vb (x_1420.Kind != 2)), (64, vp 1 1), (65, vs 2), (66, vi .i64 (len c_32.Queue)), (67, vp 1 7), (68, vi .i64 c_32.Dropped), (69, vi .i64 (w64 ((len c_32.Queue) + c_32.Dropped))), (70, vp 4 1), (71, vs 5), (72, vi .i64 (len c_13.Queue)), (73, vp 4 7)] [] [] [] (by kernel_rfl) ?_
                   refine SL.yes rfl rfl hg_1421 ?_
                   refine SL.sim tk 1 [(0, vs 0), (3, vp 1 0), (5, vi .i64 x_14), (6, vp 4 0), (56, vb (decide ((len c_32.Queue) > 16))), (57, vs 0), (58, vi .i64 x_14), (59, vp 7 0), (60, vp 7 0), (61, vi .i64 x_1420.Kind), (62, vb (x_1420.Kind != 2)), (63, vb (x_1420.Kind != 2)), (64, vp 1 1), (65, vs 2), (66, vi .i64 (len c_32.Queue)), (67, vp 1 7), (68, vi .i64 c_32.Dropped), (69, vi .i64 (w64 ((len c_32.Queue) + c_32.Dropped))), (70, vp 4 1), (71, vs 5), (72, vi .i64 (len c_13.Queue)), (73, vp 4 7), (74, vi .i64 c_13.Dropped)] [] [] [] (by kernel_rfl) ?_
                   refine SL.yes rfl rfl hg_1421 ?_
                   refine SL.sim tk 1 [(0, vs 0), (3, vp 1 0), (5, vi .i64 x_14), (6, vp 4 0), (56, vb (decide ((len c_32.Queue) > 16))), (57, vs 0), (58, vi .i64 x_14), (59, vp 7 0), (60, vp 7 0), (61, vi .i64 x_1420.Kind), (62, vb (x_1420.Kind != 2)), (63, vb (x_1420.Kind != 2)), (64, vp 1 1), (65, vs 2), (66, vi .i64 (len c_32.Queue)), (67, vp 1 7), (68, vi .i64 c_32.Dropped), (69, vi .i64 (w64 ((len c_32.Queue) + c_32.Dropped))), (70, vp 4 1), (71, vs 5), (72, vi .i64 (len c_13.Queue)), (73, vp 4 7), (74, vi .i64 c_13.Dropped), (75, vi .i64 (w64 ((len c_13.Queue) + c_13.Dropped)))] [] [] [] (by kernel_rfl) ?_
                   refine SL.yes rfl rfl hg_1421 ?_
                   refine SL.sim tk 1 [(0, vs 0), (3, vp 1 0), (5, vi .i64 x_14), (6, vp 4 0), (56, vb (decide ((len c_32.Queue) > 16))), (57, vs 0), (58, vi .i64 x_14), (59, vp 7 0), (60, vp 7 0), (61, vi .i64 x_1420.Kind), (62, vb (x_1420.Kind != 2)), (63, vb (x_1420.Kind != 2)), (64, vp 1 1), (65, vs 2), (66, vi .i64 (len c_32.Queue)), (67, vp 1 7), (68, vi .i64 c_32.Dropped), (69, vi .i64 (w64 ((len c_32.Queue) + c_32.Dropped))), (70, vp 4 1), (71, vs 5), (72, vi .i64 (len c_13.Queue)), (73, vp 4 7), (74, vi .i64 c_13.Dropped), (75, vi .i64 (w64 ((len c_13.Queue) + c_13.Dropped))), (76, vb ((w64 ((len c_32.Queue) + c_32.Dropped)) != (w64 ((len c_13.Queue) + c_13.Dropped))))] [] [] [] (by kernel_rfl) ?_
                   refine SL.yes rfl rfl hg_33 ?_
                   refine SL.pickt rfl hg_1421 rfl rfl ?_
                   refine SL.yes rfl rfl hg_33 ?_
                   refine SL.sim tk 1 [(0, vs 0), (3, vp 1 0), (5, vi .i64 x_14), (6, vp 4 0), (56, vb (decide ((len c_32.Queue) > 16))), (57, vs 0), (58, vi .i64 x_14), (59, vp 7 0), (60, vp 7 0), (61, vi .i64 x_1420.Kind), (62, vb (x_1420.Kind != 2)), (63, vb (x_1420.Kind != 2)), (64, vp 1 1), (65, vs 2), (66, vi .i64 (len c_32.Queue)), (67, vp 1 7), (68, vi .i64 c_32.Dropped), (69, vi .i64 (w64 ((len c_32.Queue) + c_32.Dropped))), (70, vp 4 1), (71, vs 5), (72, vi .i64 (len c_13.Queue)), (73, vp 4 7), (74, vi .i64 c_13.Dropped), (75, vi .i64 (w64 ((len c_13.Queue) + c_13.Dropped))), (76, vb ((w64 ((len c_32.Queue) + c_32.Dropped)) != (w64 ((len c_13.Queue) + c_13.Dropped)))), (77, vb ((w64 ((len c_32.Queue) + c_32.Dropped)) != (w64 ((len c_13.Queue) + c_13.Dropped)))), (78, vb ((w64 ((len c_32.Queue) + c_32.Dropped)) != (w64 ((len c_13.Queue) + c_13.Dropped))))] [] [] [] (by kernel_rfl) ?_
                   rcases Bool.eq_false_or_eq_true (((w64 ((len c_32.Queue) + c_32.Dropped)) != (w64 ((len c_13.Queue) + c_13.Dropped)))) with hg_1422 | hg_1422
                   · replace hp := if_t hp hg_1422
                     refine SL.yes rfl rfl hg_1422 ?_
                     refine SL.sim tk 1 [(0, vs 0), (3, vp 1 0), (5, vi .i64 x_14), (6, vp 4 0), (56, vb (decide ((len c_32.Queue) > 16))), (57, vs 0), (58, vi .i64 x_14), (59, vp 7 0), (60, vp 7 0), (61, vi .i64 x_1420.Kind), (62, vb (x_1420.Kind != 2)), (63, vb (x_1420.Kind != 2)), (64, vp 1 1), (65, vs 2), (66, vi .i64 (len c_32.Queue)), (67, vp 1 7), (68, vi .i64 c_32.Dropped), (69, vi .i64 (w64 ((len c_32.Queue) + c_32.Dropped))), (70, vp 4 1), (71, vs 5), (72, vi .i64 (len c_13.Queue)), (73, vp 4 7), (74, vi .i64 c_13.Dropped), (75, vi .i64 (w64 ((len c_13.Queue) + c_13.Dropped))), (76, vb ((w64 ((len c_32.Queue) + c_32.Dropped)) != (w64 ((len c_13.Queue) + c_13.Dropped)))), (77, vb ((w64 ((len c_32.Queue) + c_32.Dropped)) != (w64 ((len c_13.Queue) + c_13.Dropped)))), (78, vb ((w64 ((len c_32.Queue) + c_32.Dropped)) != (w64 ((len c_13.Queue) + c_13.Dropped)))), (79, vp 1 1)] [] [] [] (by kernel_rfl) ?_
                     refine SL.yes rfl rfl hg_1422 ?_
                     refine SL.sim tk 1 [(0, vs 0), (3, vp 1 0), (5, vi .i64 x_14), (6, vp 4 0), (56, vb (decide ((len c_32.Queue) > 16))), (57, vs 0), (58, vi .i64 x_14), (59, vp 7 0), (60, vp 7 0), (61, vi .i64 x_1420.Kind), (62, vb (x_1420.Kind != 2)), (63, vb (x_1420.Kind != 2)), (64, vp 1 1), (65, vs 2), (66, vi .i64 (len c_32.Queue)), (67, vp 1 7), (68, vi .i64 c_32.Dropped), (69, vi .i64 (w64 ((len c_32.Queue) + c_32.Dropped))), (70, vp 4 1), (71, vs 5), (72, vi .i64 (len c_13.Queue)), (73, vp 4 7), (74, vi .i64 c_13.Dropped), (75, vi .i64 (w64 ((len c_13.Queue) + c_13.Dropped))), (76, vb ((w64 ((len c_32.Queue) + c_32.Dropped)) != (w64 ((len c_13.Queue) + c_13.Dropped)))), (77, vb ((w64 ((len c_32.Queue) + c_32.Dropped)) != (w64 ((len c_13.Queue) + c_13.Dropped)))), (78, vb ((w64 ((len c_32.Queue) + c_32.Dropped)) != (w64 ((len c_13.Queue) + c_13.Dropped)))), (79, vp 1 1), (80, vs 2)] [] [] [] (by kernel_rfl) ?_
                     refine SL.yes rfl rfl hg_1422 ?_
                     refine SL.sim tk 1 [(0, vs 0), (3, vp 1 0), (5, vi .i64 x_14), (6, vp 4 0), (56, vb (decide ((len c_32.Queue) > 16))), (57, vs 0), (58, vi .i64 x_14), (59, vp 7 0), (60, vp 7 0), (61, vi .i64 x_1420.Kind), (62, vb (x_1420.Kind != 2)), (63, vb (x_1420.Kind != 2)), (64, vp 1 1), (65, vs 2), (66, vi .i64 (len c_32.Queue)), (67, vp 1 7), (68, vi .i64 c_32.Dropped), (69, vi .i64 (w64 ((len c_32.Queue) + c_32.Dropped))), (70, vp 4 1), (71, vs 5), (72, vi .i64 (len c_13.Queue)), (73, vp 4 7), (74, vi .i64 c_13.Dropped), (75, vi .i64 (w64 ((len c_13.Queue) + c_13.Dropped))), (76, vb ((w64 ((len c_32.Queue) + c_32.Dropped)) != (w64 ((len c_13.Queue) + c_13.Dropped)))), (77, vb ((w64 ((len c_32.Queue) + c_32.Dropped)) != (w64 ((len c_13.Queue) + c_13.Dropped)))), (78, vb ((w64 ((len c_32.Queue) + c_32.Dropped)) != (w64 ((len c_13.Queue) + c_13.Dropped)))), (79, vp 1 1), (80, vs 2), (81, vi .i64 (len c_32.Queue))] [] [] [] (by kernel_rfl) ?_
                     refine SL.yes rfl rfl hg_1422 ?_
                     refine SL.sim tk 1 [(0, vs 0), (3, vp 1 0), (5, vi .i64 x_14), (6, vp 4 0), (56, vb (decide ((len c_32.Queue) > 16))), (57, vs 0), (58, vi .i64 x_14), (59, vp 7 0), (60, vp 7 0), (61, vi .i64 x_1420.Kind), (62, vb (x_1420.Kind != 2)), (63, vb (x_1420.Kind != 2)), (64, vp 1 1), (65, vs 2), (66, vi .i64 (len c_32.Queue)), (67, vp 1 7), (68, vi .i64 c_32.Dropped), (69, vi .i64 (w64 ((len c_32.Queue) + c_32.Dropped))), (70, vp 4 1), (71, vs 5), (72, vi .i64 (len c_13.Queue)), (73, vp 4 7), (74, vi .i64 c_13.Dropped), (75, vi .i64 (w64 ((len c_13.Queue) + c_13.Dropped))), (76, vb ((w64 ((len c_32.Queue) + c_32.Dropped)) != (w64 ((len c_13.Queue) + c_13.Dropped)))), (77, vb ((w64 ((len c_32.Queue) + c_32.Dropped)) != (w64 ((len c_13.Queue) + c_13.Dropped)))), (78, vb ((w64 ((len c_32.Queue) + c_32.Dropped)) != (w64 ((len c_13.Queue) + c_13.Dropped)))), (79, vp 1 1), (80, vs 2), (81, vi .i64 (len c_32.Queue)), (82, vp 1 7)] [] [] [] (by kernel_rfl) ?_
                     refine SL.yes rfl rfl hg_1422 ?_
                     refine SL.sim tk 1 [(0, vs 0), (3, vp 1 0), (5, vi .i64 x_14), (6, vp 4 0), (56, vb (decide ((len c_32.Queue) > 16))), (57, vs 0), (58, vi .i64 x_14), (59, vp 7 0), (60, vp 7 0), (61, vi .i64 x_1420.Kind), (62, vb (x_1420.Kind != 2)), (63, vb (x_1420.Kind != 2)), (64, vp 1 1), (65, vs 2), (66, vi .i64 (len c_32.Queue)), (67, vp 1 7), (68, vi .i64 c_32.Dropped), (69, vi .i64 (w64 ((len c_32.Queue) + c_32.Dropped))), (70, vp 4 1), (71, vs 5), (72, vi .i64 (len c_13.Queue)), (73, vp 4 7), (74, vi .i64 c_13.Dropped), (75, vi .i64 (w64 ((len c_13.Queue) + c_13.Dropped))), (76, vb ((w64 ((len c_32.Queue) + c_32.Dropped)) != (w64 ((len c_13.Queue) + c_13.Dropped)))), (77, vb ((w64 ((len c_32.Queue) + c_32.Dropped)) != (w64 ((len c_13.Queue) + c_13.Dropped)))), (78, vb ((w64 ((len c_32.Queue) + c_32.Dropped)) != (w64 ((len c_13.Queue) + c_13.Dropped)))), (79, vp 1 1), (80, vs 2), (81, vi .i64 (len c_32.Queue)), (82, vp 1 7), (83, vi .i64 c_32.Dropped)] [] [] [] (by kernel_rfl) ?_
                     refine SL.yes rfl rfl hg_1422 ?_
                     refine SL.sim tk 1 [(0, vs 0), (3, vp 1 0), (5, vi .i64 x_14), (6, vp 4 0), (56, vb (decide ((len c_32.Queue) > 16))), (57, vs 0), (58, vi .i64 x_14), (59, vp 7 0), (60, vp 7 0), (61, vi .i64 x_1420.Kind), (62, vb (x_1420.Kind != 2)), (63, vb (x_1420.Kind != 2)), (64, vp 1 1), (65, vs 2), (66, vi .i64 (len c_32.Queue)), (67, vp 1 7), (68, vi .i64 c_32.Dropped), (69, vi .i64 (w64 ((len c_32.Queue) + c_32.Dropped))), (70, vp 4 1), (71, vs 5), (72, vi .i64 (len c_13.Queue)), (73, vp 4 7), (74, vi .i64 c_13.Dropped), (75, vi .i64 (w64 ((len c_13.Queue) + c_13.Dropped))), (76, vb ((w64 ((len c_32.Queue) + c_32.Dropped)) != (w64 ((len c_13.Queue) + c_13.Dropped)))), (77, vb ((w64 ((len c_32.Queue) + c_32.Dropped)) != (w64 ((len c_13.Queue) + c_13.Dropped)))), (78, vb ((w64 ((len c_32.Queue) + c_32.Dropped)) != (w64 ((len c_13.Queue) + c_13.Dropped)))), (79, vp 1 1), (80, vs 2), (81, vi .i64 (len c_32.Queue)), (82, vp 1 7), (83, vi .i64 c_32.Dropped), (84, vi .i64 (w64 ((len c_32.Queue) + c_32.Dropped)))] [] [] [] (by kernel_rfl) ?_
                     refine SL.yes rfl rfl hg_1422 ?_
                     refine SL.sim tk 1 [(0, vs 0), (3, vp 1 0), (5, vi .i64 x_14), (6, vp 4 0), (56, vb (decide ((len c_32.Queue) > 16))), (57, vs 0), (58, vi .i64 x_14), (59, vp 7 0), (60, vp 7 0), (61, vi .i64 x_1420.Kind), (62, vb (x_1420.Kind != 2)), (63, vb (x_1420.Kind != 2)), (64, vp 1 1), (65, vs 2), (66, vi .i64 (len c_32.Queue)), (67, vp 1 7), (68, vi .i64 c_32.Dropped), (69, vi .i64 (w64 ((len c_32.Queue) + c_32.Dropped))), (70, vp 4 1), (71, vs 5), (72, vi .i64 (len c_13.Queue)), (73, vp 4 7), (74, vi .i64 c_13.Dropped), (75, vi .i64 (w64 ((len c_13.Queue) + c_13.Dropped))), (76, vb ((w64 ((len c_32.Queue) + c_32.Dropped)) != (w64 ((len c_13.Queue) + c_13.Dropped)))), (77, vb ((w64 ((len c_32.Queue) + c_32.Dropped)) != (w64 ((len c_13.Queue) + c_13.Dropped)))), (78, vb ((w64 ((len c_32.Queue) + c_32.Dropped)) != (w64 ((len c_13.Queue) + c_13.Dropped)))), (79, vp 1 1), (80, vs 2), (81, vi .i64 (len c_32.Queue)), (82, vp 1 7), (83, vi .i64 c_32.Dropped), (84, vi .i64 (w64 ((len c_32.Queue) + c_32.Dropped))), (85, vp 4 1)] [] [] [] (by kernel_rfl) ?_
                     refine SL.yes rfl rfl hg_1422 ?_
                     refine SL.sim tk 1 [(0, vs 0), (3, vp 1 0), (5, vi .i64 x_14), (6, vp 4 0), (56, vb (decide ((len c_32.Queue) > 16))), (57, vs 0), (58, vi .i64 x_14), (59, vp 7 0), (60, vp 7 0), (61, vi .i64 x_1420.Kind), (62, vb (x_1420.Kind != 2)), (63, vb (x_1420.Kind != 2)), (64, vp 1 1), (65, vs 2), (66, vi .i64 (len c_32.Queue)), (67, vp 1 7), (68, vi .i64 c_32.Dropped), (69, vi .i64 (w64 ((len c_32.Queue) + c_32.Dropped))), (70, vp 4 1), (71, vs 5), (72, vi .i64 (len c_13.Queue)), (73, vp 4 7), (74, vi .i64 c_13.Dropped), (75, vi .i64 (w64 ((len c_13.Queue) + c_13.Dropped))), (76, vb ((w64 ((len c_32.Queue) + c_32.Dropped)) != (w64 ((len c_13.Queue) + c_13.Dropped)))), (77, vb ((w64 ((len c_32.Queue) + c_32.Dropped)) != (w64 ((len c_13.Queue) + c_13.Dropped)))), (78, vb ((w64 ((len c_32.Queue) + c_32.Dropped)) != (w64 ((len c_13.Queue) + c_13.Dropped)))), (79, vp 1 1), (80, vs 2), (81, vi .i64 (len c_32.Queue)), (82, vp 1 7), (83, vi .i64 c_32.Dropped), (84, vi .i64 (w64 ((len c_32.Queue) + c_32.Dropped))), (85, vp 4 1), (86, vs 5)] [] [] [] (by kernel_rfl) ?_
                     refine SL.yes rfl rfl hg_1422 ?_
                     refine SL.sim tk 1 [(0, vs 0), (3, vp 1 0), (5, vi .i64 x_14), (6, vp 4 0), (56, vb (decide ((len c_32.Queue) > 16))), (57, vs 0), (58, vi .i64 x_14), (59, vp 7 0), (60, vp 7 0), (61, vi .i64 x_1420.Kind), (62, vb (x_1420.Kind != 2)), (63, vb (x_1420.Kind != 2)), (64, vp 1 1), (65, vs 2), (66, vi .i64 (len c_32.Queue)), (67, vp 1 7), (68, vi .i64 c_32.Dropped), (69, vi .i64 (w64 ((len c_32.Queue) + c_32.Dropped))), (70, vp 4 1), (71, vs 5), (72, vi .i64 (len c_13.Queue)), (73, vp 4 7), (74, vi .i64 c_13.Dropped), (75, vi .i64 (w64 ((len c_13.Queue) + c_13.Dropped))), (76, vb ((w64 ((len c_32.Queue) + c_32.Dropped)) != (w64 ((len c_13.Queue) + c_13.Dropped)))), (77, vb ((w64 ((len c_32.Queue) + c_32.Dropped)) != (w64 ((len c_13.Queue) + c_13.Dropped)))), (78, vb ((w64 ((len c_32.Queue) + c_32.Dropped)) != (w64 ((len c_13.Queue) + c_13.Dropped)))), (79, vp 1 1), (80, vs 2), (81, vi .i64 (len c_32.Queue)), (82, vp 1 7), (83, vi .i64 c_32.Dropped), (84, vi .i64 (w64 ((len c_32.Queue) + c_32.Dropped))), (85, vp 4 1), (86, vs 5), (87, vi .i64 (len c_13.Queue))] [] [] [] (by kernel_rfl) ?_
                     refine SL.yes rfl rfl hg_1422 ?_
                     refine SL.sim tk 1 [(0, vs 0), (3, vp 1 0), (5, vi .i64 x_14), (56, vb (decide ((len c_32.Queue) > 16))), (57, vs 0), (58, vi .i64 x_14), (59, vp 7 0), (60, vp 7 0), (61, vi .i64 x_1420.Kind), (62, vb (x_1420.Kind != 2)), (63, vb (x_1420.Kind != 2)), (64, vp 1 1), (65, vs 2), (66, vi .i64 (len c_32.Queue)), (67, vp 1 7), (68, vi .i64 c_32.Dropped), (69, vi .i64 (w64 ((len c_32.Queue) + c_32.Dropped))), (70, vp 4 1), (71, vs 5), (72, vi .i64 (len c_13.Queue)), (73, vp 4 7), (74, vi .i64 c_13.Dropped), (75, vi .i64 (w64 ((len c_13.Queue) + c_13.Dropped))), (76, vb ((w64 ((len c_32.Queue) + c_32.Dropped)) != (w64 ((len c_13.Queue) + c_13.Dropped)))), (77, vb ((w64 ((len c_32.Queue) + c_32.Dropped)) != (w64 ((len c_13.Queue) + c_13.Dropped)))), (78, vb ((w64 ((len c_32.Queue) + c_32.Dropped)) != (w64 ((len c_13.Queue) + c_13.Dropped)))), (79, vp 1 1), (80, vs 2), (81, vi .i64 (len c_32.Queue)), (82, vp 1 7), (83, vi .i64 c_32.Dropped), (84, vi .i64 (w64 ((len c_32.Queue) + c_32.Dropped))), (85, vp 4 1), (86, vs 5), (87, vi .i64 (len c_13.Queue)), (88, vp 4 7)] [] [] [] (by kernel_rfl) ?_
                     refine SL.yes rfl rfl hg_1422 ?_
                     refine SL.sim tk 1 [(0, vs 0), (3, vp 1 0), (5, vi .i64 x_14), (56, vb (decide ((len c_32.Queue) > 16))), (57, vs 0), (58, vi .i64 x_14), (59, vp 7 0), (60, vp 7 0), (61, vi .i64 x_1420.Kind), (62, vb (x_1420.Kind != 2)), (63, vb (x_1420.Kind != 2)), (64, vp 1 1), (65, vs 2), (66, vi .i64 (len c_32.Queue)), (67, vp 1 7), (68, vi .i64 c_32.Dropped), (69, vi .i64 (w64 ((len c_32.Queue) + c_32.Dropped))), (70, vp 4 1), (71, vs 5), (72, vi .i64 (len c_13.Queue)), (73, vp 4 7), (74, vi .i64 c_13.Dropped), (75, vi .i64 (w64 ((len c_13.Queue) + c_13.Dropped))), (76, vb ((w64 ((len c_32.Queue) + c_32.Dropped)) != (w64 ((len c_13.Queue) + c_13.Dropped)))), (77, vb ((w64 ((len c_32.Queue) + c_32.Dropped)) != (w64 ((len c_13.Queue) + c_13.Dropped)))), (78, vb ((w64 ((len c_32.Queue) + c_32.Dropped)) != (w64 ((len c_13.Queue) + c_13.Dropped)))), (79, vp 1 1), (80, vs 2), (81, vi .i64 (len c_32.Queue)), (82, vp 1 7), (83, vi .i64 c_32.Dropped), (84, vi .i64 (w64 ((len c_32.Queue) + c_32.Dropped))), (85, vp 4 1), (86, vs 5), (87, vi .i64 (len c_13.Queue)), (88, vp 4 7), (89, vi .i64 c_13.Dropped)] [] [] [] (by kernel_rfl) ?_
                     refine SL.yes rfl rfl hg_1422 ?_
                     refine SL.sim tk 1 [(0, vs 0), (3, vp 1 0), (5, vi .i64 x_14), (56, vb (decide ((len c_32.Queue) > 16))), (57, vs 0), (58, vi .i64 x_14), (59, vp 7 0), (60, vp 7 0), (61, vi .i64 x_1420.Kind), (62, vb (x_1420.Kind != 2)), (63, vb (x_1420.Kind != 2)), (64, vp 1 1), (65, vs 2), (66, vi .i64 (len c_32.Queue)), (67, vp 1 7), (68, vi .i64 c_32.Dropped), (69, vi .i64 (w64 ((len c_32.Queue) + c_32.Dropped))), (70, vp 4 1), (71, vs 5), (72, vi .i64 (len c_13.Queue)), (73, vp 4 7), (74, vi .i64 c_13.Dropped), (75, vi .i64 (w64 ((len c_13.Queue) + c_13.Dropped))), (76, vb ((w64 ((len c_32.Queue) + c_32.Dropped)) != (w64 ((len c_13.Queue) + c_13.Dropped)))), (77, vb ((w64 ((len c_32.Queue) + c_32.Dropped)) != (w64 ((len c_13.Queue) + c_13.Dropped)))), (78, vb ((w64 ((len c_32.Queue) + c_32.Dropped)) != (w64 ((len c_13.Queue) + c_13.Dropped)))), (79, vp 1 1), (80, vs 2), (81, vi .i64 (len c_32.Queue)), (82, vp 1 7), (83, vi .i64 c_32.Dropped), (84, vi .i64 (w64 ((len c_32.Queue) + c_32.Dropped))), (85, vp 4 1), (86, vs 5), (87, vi .i64 (len c_13.Queue)), (88, vp 4 7), (89, vi .i64 c_13.Dropped), (90, vi .i64 (w64 ((len c_13.Queue) + c_13.Dropped)))] [] [] [] (by kernel_rfl) ?_
                     refine SL.yes rfl rfl hg_1422 ?_
                     refine SL.sim tk 1 [(0, vs 0), (3, vp 1 0), (5, vi .i64 x_14), (56, vb (decide ((len c_32.Queue) > 16))), (57, vs 0), (58, vi .i64 x_14), (59, vp 7 0), (60, vp 7 0), (61, vi .i64 x_1420.Kind), (62, vb (x_1420.Kind != 2)), (63, vb (x_1420.Kind != 2)), (64, vp 1 1), (65, vs 2), (66, vi .i64 (len c_32.Queue)), (67, vp 1 7), (68, vi .i64 c_32.Dropped), (69, vi .i64 (w64 ((len c_32.Queue) + c_32.Dropped))), (70, vp 4 1), (71, vs 5), (72, vi .i64 (len c_13.Queue)), (73, vp 4 7), (74, vi .i64 c_13.Dropped), (75, vi .i64 (w64 ((len c_13.Queue) + c_13.Dropped))), (76, vb ((w64 ((len c_32.Queue) + c_32.Dropped)) != (w64 ((len c_13.Queue) + c_13.Dropped)))), (77, vb ((w64 ((len c_32.Queue) + c_32.Dropped)) != (w64 ((len c_13.Queue) + c_13.Dropped)))), (78, vb ((w64 ((len c_32.Queue) + c_32.Dropped)) != (w64 ((len c_13.Queue) + c_13.Dropped)))), (79, vp 1 1), (80, vs 2), (81, vi .i64 (len c_32.Queue)), (82, vp 1 7), (83, vi .i64 c_32.Dropped), (84, vi .i64 (w64 ((len c_32.Queue) + c_32.Dropped))), (85, vp 4 1), (86, vs 5), (87, vi .i64 (len c_13.Queue)), (88, vp 4 7), (89, vi .i64 c_13.Dropped), (90, vi .i64 (w64 ((len c_13.Queue) + c_13.Dropped))), (91, vi .i64 (w64 ((w64 ((len c_13.Queue) + c_13.Dropped)) + 1)))] [] [] [] (by kernel_rfl) ?_
                     refine SL.yes rfl rfl hg_1422 ?_
                     refine SL.sim tk 1 [(0, vs 0), (3, vp 1 0), (5, vi .i64 x_14), (56, vb (decide ((len c_32.Queue) > 16))), (57, vs 0), (58, vi .i64 x_14), (59, vp 7 0), (60, vp 7 0), (61, vi .i64 x_1420.Kind), (62, vb (x_1420.Kind != 2)), (63, vb (x_1420.Kind != 2)), (64, vp 1 1), (65, vs 2), (66, vi .i64 (len c_32.Queue)), (67, vp 1 7), (68, vi .i64 c_32.Dropped), (69, vi .i64 (w64 ((len c_32.Queue) + c_32.Dropped))), (70, vp 4 1), (71, vs 5), (72, vi .i64 (len c_13.Queue)), (73, vp 4 7), (74, vi .i64 c_13.Dropped), (75, vi .i64 (w64 ((len c_13.Queue) + c_13.Dropped))), (76, vb ((w64 ((len c_32.Queue) + c_32.Dropped)) != (w64 ((len c_13.Queue) + c_13.Dropped)))), (77, vb ((w64 ((len c_32.Queue) + c_32.Dropped)) != (w64 ((len c_13.Queue) + c_13.Dropped)))), (78, vb ((w64 ((len c_32.Queue) + c_32.Dropped)) != (w64 ((len c_13.Queue) + c_13.Dropped)))), (79, vp 1 1), (80, vs 2), (81, vi .i64 (len c_32.Queue)), (82, vp 1 7), (83, vi .i64 c_32.Dropped), (84, vi .i64 (w64 ((len c_32.Queue) + c_32.Dropped))), (85, vp 4 1), (86, vs 5), (87, vi .i64 (len c_13.Queue)), (88, vp 4 7), (89, vi .i64 c_13.Dropped), (90, vi .i64 (w64 ((len c_13.Queue) + c_13.Dropped))), (91, vi .i64 (w64 ((w64 ((len c_13.Queue) + c_13.Dropped)) + 1))), (92, vb ((w64 ((len c_32.Queue) + c_32.Dropped)) != (w64 ((w64 ((len c_13.Queue) + c_13.Dropped)) + 1))))] [] [] [] (by kernel_rfl) ?_
                     refine SL.yes rfl rfl hg_33 ?_
                     refine SL.pickt rfl hg_1422 rfl rfl ?_
                     refine SL.pickf rfl hg_33 rfl rfl ?_
                     refine SL.nilJ fun a w h => ?_
                     obtain rfl := some_inv' hp
                     exact h.at (js := [.g 0, .g 1, .g 2, .g 3]) (by kernel_rfl)
                   · replace hp := if_f hp hg_1422
                     refine SL.no rfl rfl hg_1422 rfl ?_
                     refine SL.no rfl rfl hg_1422 rfl ?_
                     refine SL.no rfl rfl hg_1422 rfl ?_
                     refine SL.no rfl rfl hg_1422 rfl ?_
                     refine SL.no rfl rfl hg_1422 rfl ?_
                     refine SL.no rfl rfl hg_1422 rfl ?_
                     refine SL.no rfl rfl hg_1422 rfl ?_
                     refine SL.no rfl rfl hg_1422 rfl ?_
                     refine SL.no rfl rfl hg_1422 rfl ?_
                     refine SL.no rfl rfl hg_1422 rfl ?_
                     refine SL.no rfl rfl hg_1422 rfl ?_
                     refine SL.no rfl rfl hg_1422 rfl ?_
                     refine SL.no rfl rfl hg_1422 rfl ?_
                     refine SL.no rfl rfl hg_1422 rfl ?_
                     refine SL.yes rfl rfl hg_33 ?_
                     refine SL.pickf rfl hg_1422 rfl rfl ?_
                     refine SL.pickf rfl hg_33 rfl rfl ?_
                     refine SL.nilJ fun a w h => ?_
                     obtain rfl := some_inv' hp
                     exact h.at (js := [.g 0, .g 1, .g 2, .g 3]) (by kernel_rfl)
                 · replace hp := if_f hp hg_1421
                   refine SL.no rfl rfl hg_1421 rfl ?_
                   refine SL.no rfl rfl hg_1421 rfl ?_
                   refine SL.no rfl rfl hg_1421 rfl ?_
                   refine SL.no rfl rfl hg_1421 rfl ?_
                   refine SL.no rfl rfl hg_1421 rfl ?_
                   refine SL.no rfl rfl hg_1421 rfl ?_
                   refine SL.no rfl rfl hg_1421 rfl ?_
                   refine SL.no rfl rfl hg_1421 rfl ?_
                   refine SL.no rfl rfl hg_1421 rfl ?_
                   refine SL.no rfl rfl hg_1421 rfl ?_
                   refine SL.no rfl rfl hg_1421 rfl ?_
                   refine SL.no rfl rfl hg_1421 rfl ?_
                   refine SL.no rfl rfl hg_1421 rfl ?_
                   refine SL.yes rfl rfl hg_33 ?_
                   refine SL.pickf rfl hg_1421 rfl rfl ?_
                   refine SL.yes rfl rfl hg_33 ?_
                   refine SL.sim tk 1 [(0, vs 0), (3, vp 1 0), (5, vi .i64 x_14), (6, vp 4 0), (56, vb (decide ((len c_32.Queue) > 16))), (57, vs 0), (58, vi .i64 x_14), (59, vp 7 0), (60, vp 7 0), (61, vi .i64 x_1420.Kind), (62, vb (x_1420.Kind != 2)), (63, vb (x_1420.Kind != 2)), (64, .u []), (65, .u []), (66, .u []), (67, .u []), (68, .u []), (69, .u []), (70, .u []), (71, .u []), (72, .u []), (73, .u []), (74, .u []), (75, .u []), (76, .u []), (77, vb false), (78, vb false)] [] [] [] (by kernel_rfl) ?_
                   rcases Bool.eq_false_or_eq_true (false) with hg_1423 | hg_1423
                   · replace hp := if_t hp hg_1423
                     refine SL.yes rfl rfl hg_1423 ?_
                     refine SL.sim tk 1 [(0, vs 0), (3, vp 1 0), (5, vi .i64 x_14), (6, vp 4 0), (56, vb (decide ((len c_32.Queue) > 16))), (57, vs 0), (58, vi .i64 x_14), (59, vp 7 0), (60, vp 7 0), (61, vi .i64 x_1420.Kind), (62, vb (x_1420.Kind != 2)), (63, vb (x_1420.Kind != 2)), (64, .u []), (65, .u []), (66, .u []), (67, .u []), (68, .u []), (69, .u []), (70, .u []), (71, .u []), (72, .u []), (73, .u []), (74, .u []), (75, .u []), (76, .u []), (77, vb false), (78, vb false), (79, vp 1 1)] [] [] [] (by kernel_rfl) ?_
                     refine SL.yes rfl rfl hg_1423 ?_
                     refine SL.sim tk 1 [(0, vs 0), (3, vp 1 0), (5, vi .i64 x_14), (6, vp 4 0), (56, vb (decide ((len c_32.Queue) > 16))), (57, vs 0), (58, vi .i64 x_14), (59, vp 7 0), (60, vp 7 0), (61, vi .i64 x_1420.Kind), (62, vb (x_1420.Kind != 2)), (63, vb (x_1420.Kind != 2)), (64, .u []), (65, .u []), (66, .u []), (67, .u []), (68, .u []), (69, .u []), (70, .u []), (71, .u []), (72, .u []), (73, .u []), (74, .u []), (75, .u []), (76, .u []), (77, vb false), (78, vb false), (79, vp 1 1), (80, vs 2)] [] [] [] (by kernel_rfl) ?_
                     refine SL.yes rfl rfl hg_1423 ?_
                     refine SL.sim tk 1 [(0, vs 0), (3, vp 1 0), (5, vi .i64 x_14), (6, vp 4 0), (56, vb (decide ((len c_32.Queue) > 16))), (57, vs 0), (58, vi .i64 x_14), (59, vp 7 0), (60, vp 7 0), (61, vi .i64 x_1420.Kind), (62, vb (x_1420.Kind != 2)), (63, vb (x_1420.Kind != 2)), (64, .u []), (65, .u []), (66, .u []), (67, .u []), (68, .u []), (69, .u []), (70, .u []), (71, .u []), (72, .u []), (73, .u []), (74, .u []), (75, .u []), (76, .u []), (77, vb false), (78, vb false), (79, vp 1 1), (80, vs 2), (81, vi .i64 (len c_32.Queue))] [] [] [] (by kernel_rfl) ?_
                     refine SL.yes rfl rfl hg_1423 ?_
                     refine SL.sim tk 1 [(0, vs 0), (3, vp 1 0), (5, vi .i64 x_14), (6, vp 4 0), (56, vb (decide ((len c_32.Queue) > 16))), (57, vs 0), (58, vi .i64 x_14), (59, vp 7 0), (60, vp 7 0), (61, vi .i64 x_1420.Kind), (62, vb (x_1420.Kind != 2)), (63, vb (x_1420.Kind != 2)), (64, .u []), (65, .u []), (66, .u []), (67, .u []), (68, .u []), (69, .u []), (70, .u []), (71, .u []), (72, .u []), (73, .u []), (74, .u []), (75, .u []), (76, .u []), (77, vb false), (78, vb false), (79, vp 1 1), (80, vs 2), (81, vi .i64 (len c_32.Queue)), (82, vp 1 7)] [] [] [] (by kernel_rfl) ?_
                     refine SL.yes rfl rfl hg_1423 ?_
                     refine SL.sim tk 1 [(0, vs 0), (3, vp 1 0), (5, vi .i64 x_14), (6, vp 4 0), (56, vb (decide ((len c_32.Queue) > 16))), (57, vs 0), (58, vi .i64 x_14), (59, vp 7 0), (60, vp 7 0), (61, vi .i64 x_1420.Kind), (62, vb (x_1420.Kind != 2)), (63, vb (x_1420.Kind != 2)), (64, .u []), (65, .u []), (66, .u []), (67, .u []), (68, .u []), (69, .u []), (70, .u []), (71, .u []), (72, .u []), (73, .u []), (74, .u []), (75, .u []), (76, .u []), (77, vb false), (78, vb false), (79, vp 1 1), (80, vs 2), (81, vi .i64 (len c_32.Queue)), (82, vp 1 7), (83, vi .i64 c_32.Dropped)] [] [] [] (by kernel_rfl) ?_
                     refine SL.yes rfl rfl hg_1423 ?_
                     refine SL.sim tk 1 [(0, vs 0), (3, vp 1 0), (5, vi .i64 x_14), (6, vp 4 0), (56, vb (decide ((len c_32.Queue) > 16))), (57, vs 0), (58, vi .i64 x_14), (59, vp 7 0), (60, vp 7 0), (61, vi .i64 x_1420.Kind), (62, vb (x_1420.Kind != 2)), (63, vb (x_1420.Kind != 2)), (64, .u []), (65, .u []), (66, .u []), (67, .u []), (68, .u []), (69, .u []), (70, .u []), (71, .u []), (72, .u []), (73, .u []), (74, .u []), (75, .u []), (76, .u []), (77, vb false), (78, vb false), (79, vp 1 1), (80, vs 2), (81, vi .i64 (len c_32.Queue)), (82, vp 1 7), (83, vi .i64 c_32.Dropped), (84, vi .i64 (w64 ((len c_32.Queue) + c_32.Dropped)))] [] [] [] (by kernel_rfl) ?_
                     refine SL.yes rfl rfl hg_1423 ?_
                     refine SL.sim tk 1 [(0, vs 0), (3, vp 1 0), (5, vi .i64 x_14), (6, vp 4 0), (56, vb (decide ((len c_32.Queue) > 16))), (57, vs 0), (58, vi .i64 x_14), (59, vp 7 0), (60, vp 7 0), (61, vi .i64 x_1420.Kind), (62, vb (x_1420.Kind != 2)), (63, vb (x_1420.Kind != 2)), (64, .u []), (65, .u []), (66, .u []), (67, .u []), (68, .u []), (69, .u []), (70, .u []), (71, .u []), (72, .u []), (73, .u []), (74, .u []), (75, .u []), (76, .u []), (77, vb false), (78, vb false), (79, vp 1 1), (80, vs 2), (81, vi .i64 (len c_32.Queue)), (82, vp 1 7), (83, vi .i64 c_32.Dropped), (84, vi .i64 (w64 ((len c_32.Queue) + c_32.Dropped))), (85, vp 4 1)] [] [] [] (by kernel_rfl) ?_
                     refine SL.yes rfl rfl hg_1423 ?_
                     refine SL.sim tk 1 [(0, vs 0), (3, vp 1 0), (5, vi .i64 x_14), (6, vp 4 0), (56, vb (decide ((len c_32.Queue) > 16))), (57, vs 0), (58, vi .i64 x_14), (59, vp 7 0), (60, vp 7 0), (61, vi .i64 x_1420.Kind), (62, vb (x_1420.Kind != 2)), (63, vb (x_1420.Kind != 2)), (64, .u []), (65, .u []), (66, .u []), (67, .u []), (68, .u []), (69, .u []), (70, .u []), (71, .u []), (72, .u []), (73, .u []), (74, .u []), (75, .u []), (76, .u []), (77, vb false), (78, vb false), (79, vp 1 1), (80, vs 2), (81, vi .i64 (len c_32.Queue)), (82, vp 1 7), (83, vi .i64 c_32.Dropped), (84, vi .i64 (w64 ((len c_32.Queue) + c_32.Dropped))), (85, vp 4 1), (86, vs 5)] [] [] [] (by kernel_rfl) ?_
                     refine SL.yes rfl rfl hg_1423 ?_
                     refine SL.sim tk 1 [(0, vs 0), (3, vp 1 0), (5, vi .i64 x_14), (6, vp 4 0), (56, vb (decide ((len c_32.Queue) > 16))), (57, vs 0), (58, vi .i64 x_14), (59, vp 7 0), (60, vp 7 0), (61, vi .i64 x_1420.Kind), (62, vb (x_1420.Kind != 2)), (63, vb (x_1420.Kind != 2)), (64, .u []), (65, .u []), (66, .u []), (67, .u []), (68, .u []), (69, .u []), (70, .u []), (71, .u []), (72, .u []), (73, .u []), (74, .u []), (75, .u []), (76, .u []), (77, vb false), (78, vb false), (79, vp 1 1), (80, vs 2), (81, vi .i64 (len c_32.Queue)), (82, vp 1 7), (83, vi .i64 c_32.Dropped), (84, vi .i64 (w64 ((len c_32.Queue) + c_32.Dropped))), (85, vp 4 1), (86, vs 5), (87, vi .i64 (len c_13.Queue))] [] [] [] (by kernel_rfl) ?_
                     refine SL.yes rfl rfl hg_1423 ?_
                     refine SL.sim tk 1 [(0, vs 0), (3, vp 1 0), (5, vi .i64 x_14), (56, vb (decide ((len c_32.Queue) > 16))), (57, vs 0), (58, vi .i64 x_14), (59, vp 7 0), (60, vp 7 0), (61, vi .i64 x_1420.Kind), (62, vb (x_1420.Kind != 2)), (63, vb (x_1420.Kind != 2)), (64, .u []), (65, .u []), (66, .u []), (67, .u []), (68, .u []), (69, .u []), (70, .u []), (71, .u []), (72, .u []), (73, .u []), (74, .u []), (75, .u []), (76, .u []), (77, vb false), (78, vb false), (79, vp 1 1), (80, vs 2), (81, vi .i64 (len c_32.Queue)), (82, vp 1 7), (83, vi .i64 c_32.Dropped), (84, vi .i64 (w64 ((len c_32.Queue) + c_32.Dropped))), (85, vp 4 1), (86, vs 5), (87, vi .i64 (len c_13.Queue)), (88, vp 4 7)] [] [] [] (by kernel_rfl) ?_
                     refine SL.yes rfl rfl hg_1423 ?_
                     refine SL.sim tk 1 [(0, vs 0), (3, vp 1 0), (5, vi .i64 x_14), (56, vb (decide ((len c_32.Queue) > 16))), (57, vs 0), (58, vi .i64 x_14), (59, vp 7 0), (60, vp 7 0), (61, vi .i64 x_1420.Kind), (62, vb (x_1420.Kind != 2)), (63, vb (x_1420.Kind != 2)), (64, .u []), (65, .u []), (66, .u []), (67, .u []), (68, .u []), (69, .u []), (70, .u []), (71, .u []), (72, .u []), (73, .u []), (74, .u []), (75, .u []), (76, .u []), (77, vb false), (78, vb false), (79, vp 1 1), (80, vs 2), (81, vi .i64 (len c_32.Queue)), (82, vp 1 7), (83, vi .i64 c_32.Dropped), (84, vi .i64 (w64 ((len c_32.Queue) + c_32.Dropped))), (85, vp 4 1), (86, vs 5), (87, vi .i64 (len c_13.Queue)), (88, vp 4 7), (89, vi .i64 c_13.Dropped)] [] [] [] (by kernel_rfl) ?_
                     refine SL.yes rfl rfl hg_1423 ?_
                     refine SL.sim tk 1 [(0, vs 0), (3, vp 1 0), (5, vi .i64 x_14), (56, vb (decide ((len c_32.Queue) > 16))), (57, vs 0), (58, vi .i64 x_14), (59, vp 7 0), (60, vp 7 0), (61, vi .i64 x_1420.Kind), (62, vb (x_1420.Kind != 2)), (63, vb (x_1420.Kind != 2)), (64, .u []), (65, .u []), (66, .u []), (67, .u []), (68, .u []), (69, .u []), (70, .u []), (71, .u []), (72, .u []), (73, .u []), (74, .u []), (75, .u []), (76, .u []), (77, vb false), (78, vb false), (79, vp 1 1), (80, vs 2), (81, vi .i64 (len c_32.Queue)), (82, vp 1 7), (83, vi .i64 c_32.Dropped), (84, vi .i64 (w64 ((len c_32.Queue) + c_32.Dropped))), (85, vp 4 1), (86, vs 5), (87, vi .i64 (len c_13.Queue)), (88, vp 4 7), (89, vi .i64 c_13.Dropped), (90, vi .i64 (w64 ((len c_13.Queue) + c_13.Dropped)))] [] [] [] (by kernel_rfl) ?_
                     refine SL.yes rfl rfl hg_1423 ?_
                     refine SL.sim tk 1 [(0, vs 0), (3, vp 1 0), (5, vi .i64 x_14), (56, vb (decide ((len c_32.Queue) > 16))), (57, vs 0), (58, vi .i64 x_14), (59, vp 7 0), (60, vp 7 0), (61, vi .i64 x_1420.Kind), (62, vb (x_1420.Kind != 2)), (63, vb (x_1420.Kind != 2)), (64, .u []), (65, .u []), (66, .u []), (67, .u []), (68, .u []), (69, .u []), (70, .u []), (71, .u []), (72, .u []), (73, .u []), (74, .u []), (75, .u []), (76, .u []), (77, vb false), (78, vb false), (79, vp 1 1), (80, vs 2), (81, vi .i64 (len c_32.Queue)), (82, vp 1 7), (83, vi .i64 c_32.Dropped), (84, vi .i64 (w64 ((len c_32.Queue) + c_32.Dropped))), (85, vp 4 1), (86, vs 5), (87, vi .i64 (len c_13.Queue)), (88, vp 4 7), (89, vi .i64 c_13.Dropped), (90, vi .i64 (w64 ((len c_13.Queue) + c_13.Dropped))), (91, vi .i64 (w64 ((w64 ((len c_13.Queue) + c_13.Dropped)) + 1)))] [] [] [] (by kernel_rfl) ?_
                     refine SL.yes rfl rfl hg_1423 ?_
                     refine SL.sim tk 1 [(0, vs 0), (3, vp 1 0), (5, vi .i64 x_14), (56, vb (decide ((len c_32.Queue) > 16))), (57, vs 0), (58, vi .i64 x_14), (59, vp 7 0), (60, vp 7 0), (61, vi .i64 x_1420.Kind), (62, vb (x_1420.Kind != 2)), (63, vb (x_1420.Kind != 2)), (64, .u []), (65, .u []), (66, .u []), (67, .u []), (68, .u []), (69, .u []), (70, .u []), (71, .u []), (72, .u []), (73, .u []), (74, .u []), (75, .u []), (76, .u []), (77, vb false), (78, vb false), (79, vp 1 1), (80, vs 2), (81, vi .i64 (len c_32.Queue)), (82, vp 1 7), (83, vi .i64 c_32.Dropped), (84, vi .i64 (w64 ((len c_32.Queue) + c_32.Dropped))), (85, vp 4 1), (86, vs 5), (87, vi .i64 (len c_13.Queue)), (88, vp 4 7), (89, vi .i64 c_13.Dropped), (90, vi .i64 (w64 ((len c_13.Queue) + c_13.Dropped))), (91, vi .i64 (w64 ((w64 ((len c_13.Queue) + c_13.Dropped)) + 1))), (92, vb ((w64 ((len c_32.Queue) + c_32.Dropped)) != (w64 ((w64 ((len c_13.Queue) + c_13.Dropped)) + 1))))] [] [] [] (by kernel_rfl) ?_
                     refine SL.yes rfl rfl hg_33 ?_
                     refine SL.pickt rfl hg_1423 rfl rfl ?_
                     refine SL.pickf rfl hg_33 rfl rfl ?_
                     refine SL.nilJ fun a w h => ?_
                     obtain rfl := some_inv' hp
                     exact h.at (js := [.g 0, .g 1, .g 2, .g 3]) (by kernel_rfl)
                   · replace hp := if_f hp hg_1423
                     refine SL.no rfl rfl hg_1423 rfl ?_
                     refine SL.no rfl rfl hg_1423 rfl ?_
                     refine SL.no rfl rfl hg_1423 rfl ?_
                     refine SL.no rfl rfl hg_1423 rfl ?_
                     refine SL.no rfl rfl hg_1423 rfl ?_
                     refine SL.no rfl rfl hg_1423 rfl ?_
                     refine SL.no rfl rfl hg_1423 rfl ?_
                     refine SL.no rfl rfl hg_1423 rfl ?_
                     refine SL.no rfl rfl hg_1423 rfl ?_
                     refine SL.no rfl rfl hg_1423 rfl ?_
                     refine SL.no rfl rfl hg_1423 rfl ?_
                     refine SL.no rfl rfl hg_1423 rfl ?_
                     refine SL.no rfl rfl hg_1423 rfl ?_
                     refine SL.no rfl rfl hg_1423 rfl ?_
                     refine SL.yes rfl rfl hg_33 ?_
                     refine SL.pickf rfl hg_1423 rfl rfl ?_
                     refine SL.pickf rfl hg_33 rfl rfl ?_
                     refine SL.nilJ fun a w h => ?_
                     obtain rfl := some_inv' hp
                     exact h.at (js := [.g 0, .g 1, .g 2, .g 3]) (by kernel_rfl)
             · intro a w h
               have hp := hpr; clear hpr hz
               refine h.goL ?_
               refine SL.nilThen ?_
               refine SC.if' rfl hp (fun hp => ?_) (fun hp => ?_)
               · refine SC.r tk [(2, vb false)] [] [] [] (by kernel_rfl) ?_
                 have ho := done_inv hp hs1
                 replace hp := ho1
                 try rw [ho] at hp
                 obtain rfl := some_inv' hp
                 exact SC.re (js := [.g 0]) tk (by kernel_rfl)
               · refine SC.skipThen ?_
                 refine SC.r tk [(0, vs 0), (3, vp 1 0), (5, vi .i64 x_14), (7, vi .i64 0)] [] [] [] (by kernel_rfl) ?_
                 refine SC.block ?_
                 obtain ⟨o2, hi2, ho2⟩ := bind_inv hp
                 clear hp
                 refine SC.loop (fun n a w => ∃ (x_35 : Int), iter (fun s => wirelesslaw51_FriendBounds_l2 F c_32 s) n (x_35) = some o2 ∧ A 139 1 fx [(0, vs 0), (3, vp 1 0), (5, vi .i64 x_14), (7, vi .i64 x_35)] [.rd 25 R_T_wirelesslaw51_Op l_1, .blk 28 (C_api_Friend c_32 (.s 2) (.s 3)), .rd 18 R_T_api_Queued c_32.Queue, .rd 1 (RInt .u16) c_32.Subs] a w) F (fun a w h => ⟨0, hi2, h.at (js := [.g 0, .g 1, .g 2, .g 3]) (by kernel_rfl)⟩) ?_
                 rintro n2 a w ⟨x_35, hi2, h⟩
                 obtain ⟨n2, q2, rfl, hp, hs2⟩ := iter_inv hi2
                 replace hp : wirelesslaw51_FriendBounds_l2 F c_32 x_35 = some q2 := hp
                 clear hi2
                 refine h.go ?_
                 refine SC.seq ?_
                 refine SC.r tk [(0, vs 0), (3, vp 1 0), (5, vi .i64 x_14), (7, vi .i64 x_35), (99, vb (decide (x_35 < (len c_32.Queue))))] [] [] [] (by kernel_rfl) ?_
                 refine SC.if' rfl hp (fun hp => ?_) (fun hp => ?_)
                 · refine SC.skipThen ?_
                   refine SC.cut (fun a w => wirelesslaw51_FriendBounds_j4 F x_35 = some q2 ∧ A 139 1 fx [(0, vs 0), (3, vp 1 0), (5, vi .i64 x_14), (7, vi .i64 x_35)] [.rd 25 R_T_wirelesslaw51_Op l_1, .blk 28 (C_api_Friend c_32 (.s 2) (.s 3)), .rd 18 R_T_api_Queued c_32.Queue, .rd 1 (RInt .u16) c_32.Subs] a w) ?_ ?_
                   · refine SC.block ?_
                     refine SC.r tk [(0, vs 0), (3, vp 1 0), (5, vi .i64 x_14), (7, vi .i64 x_35), (8, vi .i64 0)] [] [] [] (by kernel_rfl) ?_
                     refine SC.block ?_
                     obtain ⟨o3, hi3, ho3⟩ := bind_inv hp
                     clear hp
                     refine SC.loop (fun n a w => ∃ (x_36 : Int), iter (fun s => wirelesslaw51_FriendBounds_l3 F c_32 x_35 s) n (x_36) = some o3 ∧ A 139 1 fx [(0, vs 0), (3, vp 1 0), (5, vi .i64 x_14), (7, vi .i64 x_35), (8, vi .i64 x_36)] [.rd 25 R_T_wirelesslaw51_Op l_1, .blk 28 (C_api_Friend c_32 (.s 2) (.s 3)), .rd 18 R_T_api_Queued c_32.Queue, .rd 1 (RInt .u16) c_32.Subs] a w) F (fun a w h => ⟨0, hi3, h.at (js := [.g 0, .g 1, .g 2, .g 3]) (by kernel_rfl)⟩) ?_
                     rintro n3 a w ⟨x_36, hi3, h⟩
                     obtain ⟨n3, q3, rfl, hp, hs3⟩ := iter_inv hi3
                     replace hp : wirelesslaw51_FriendBounds_l3 F c_32 x_35 x_36 = some q3 := hp
                     clear hi3
                     refine h.go ?_
                     refine SC.seq ?_
                     refine SC.r tk [(0, vs 0), (3, vp 1 0), (5, vi .i64 x_14), (7, vi .i64 x_35), (8, vi .i64 x_36), (104, vb (decide (x_36 < x_35)))] [] [] [] (by kernel_rfl) ?_
                     refine SC.if' rfl hp (fun hp => ?_) (fun hp => ?_)
                     · refine SC.skipThen ?_
                       refine SC.seq ?_
                       refine SC.block ?_
                       refine SC.cut (fun a w => ∃ (c_45 : T_api_NetPDU) (c_54 : T_api_NetPDU), wirelesslaw51_FriendBounds_j5 F x_36 c_45 c_54 = some q3 ∧ A 139 1 fx [(0, vs 0), (3, vp 1 0), (5, vi .i64 x_14), (7, vi .i64 x_35), (8, vi .i64 x_36), (9, vp 4 0), (10, vp 6 0)] [.rd 25 R_T_wirelesslaw51_Op l_1, .blk 28 (C_api_Friend c_32 (.s 2) (.s 3)), .rd 18 R_T_api_Queued c_32.Queue, .rd 1 (RInt .u16) c_32.Subs, .blk 34 (C_api_NetPDU c_45 (.s 5)), .rd 1 R8 c_45.Payload, .blk 34 (C_api_NetPDU c_54 (.s 7)), .rd 1 R8 c_54.Payload] a w) ?_ ?_
                       · obtain ⟨x_55, e_x_55, hp⟩ := bind_inv hp
                         obtain ⟨x_56, e_x_56, hp⟩ := bind_inv hp
                         refine SC.pre (pre_ix (i := 2) (iv := x_36) (sz := 18) (R := R_T_api_Queued) (l := c_32.Queue) (by kernel_rfl) rfl e_x_55) ?_
                         refine SC.pre (pre_ix (i := 2) (iv := x_35) (sz := 18) (R := R_T_api_Queued) (l := c_32.Queue) (by kernel_rfl) rfl e_x_56) ?_
                         refine SC.draw MO [I, I, I, I, I, I, I, I, I, I] (by kernel_rfl) fun kap_57 D_58 => ?_
                         refine SD.takes tk D_58 [] kn0 [0, 1, 2, 3, 4, 5, 6, 7, 8, 9, 10, 11] [.el 4, .el 7] [x_36, x_35] [I, I, I, I, I, I, I, I, I, I, I, I, O, O, O, O] [(0, vs 0), (3, vp 1 0), (5, vi .i64 x_14), (7, vi .i64 x_35), (8, vi .i64 x_36), (112, .g (C_api_NetPDU x_55.PDU (.s 5))), (118, .g (C_api_NetPDU x_56.PDU (.s 8)))] rfl (by kernel_rfl) (by kernel_rfl) (by kernel_rfl) ?_
                         refine SD.lay 0 [I, I, I, I, I, I, I, I, I, I, I, I, I, I, I, I] [(0, vs 0), (3, vp 1 0), (5, vi .i64 x_14), (7, vi .i64 x_35), (8, vi .i64 x_36), (9, vp 10 0), (10, vp 11 0)] [.rd 25 R_T_wirelesslaw51_Op l_1, .blk 28 (C_api_Friend c_32 (.s 2) (.s 3)), .rd 18 R_T_api_Queued c_32.Queue, .rd 1 (RInt .u16) c_32.Subs, .elt (some (2, x_36)) false (C_api_Queued x_55 (.s 5) (.s 6)), .rd 1 R8 x_55.PDU.Payload, .rd 1 R8 x_55.Lower.Bytes, .elt (some (2, x_35)) false (C_api_Queued x_56 (.s 8) (.s 9)), .rd 1 R8 x_56.PDU.Payload, .rd 1 R8 x_56.Lower.Bytes, .blk 34 (C_api_NetPDU x_55.PDU (.s 5)), .blk 34 (C_api_NetPDU x_56.PDU (.s 8))] ?_ (fun c_58_0 => ?_)
                         · refine SD.done (by kernel_rfl) fun a w h => ?_
                           exact ⟨x_55.PDU, x_56.PDU, hp, h.at (js := [.g 0, .g 1, .g 2, .g 3, .g 10, .g 5, .g 11, .g 8]) (by kernel_rfl)⟩
                         · refine SD.lay 1 [I, I, I, I, I, I, I, I, I, I, I, I, I, I, I, O] [(0, vs 0), (3, vp 1 0), (5, vi .i64 x_14), (7, vi .i64 x_35), (8, vi .i64 x_36), (9, vp 10 0), (10, vp 11 0), (118, .g (C_api_NetPDU x_56.PDU (.s 8)))] [.rd 25 R_T_wirelesslaw51_Op l_1, .blk 28 (C_api_Friend c_32 (.s 2) (.s 3)), .rd 18 R_T_api_Queued c_32.Queue, .rd 1 (RInt .u16) c_32.Subs, .elt (some (2, x_36)) false (C_api_Queued x_55 (.s 5) (.s 6)), .rd 1 R8 x_55.PDU.Payload, .rd 1 R8 x_55.Lower.Bytes, .elt (some (2, x_35)) false (C_api_Queued x_56 (.s 8) (.s 9)), .rd 1 R8 x_56.PDU.Payload, .rd 1 R8 x_56.Lower.Bytes, .blk 34 (C_api_NetPDU x_55.PDU (.s 5)), .blk 34 (C_api_NetPDU (T_api_NetPDU.mk 0 0 false 0 0 0 0 []) nl)] ?_ (fun c_58_1 => ?_)
                           · refine SD.all1 (i := 15) (by kernel_rfl) ?_
                             refine SW.store D_58 tk (i := 15) (q := 11) (T := 34) (cs := (C_api_NetPDU x_56.PDU (.s 8))) (bs' := [I, I, I, I, I, I, I, I, I, I, I, I, I, I, I, I]) rfl (by kernel_rfl) rfl rfl (by kernel_rfl) ?_
                             exact SD.vie D_58 [.g 0, .g 1, .g 2, .g 3, .g 4, .g 5, .g 6, .g 7, .g 8, .g 9, .g 10, .g 11] c_58_0 (by kernel_rfl)
                           · refine SD.lay 2 [I, I, I, I, I, I, I, I, I, I, I, I, I, I, O, O] [(0, vs 0), (3, vp 1 0), (5, vi .i64 x_14), (7, vi .i64 x_35), (8, vi .i64 x_36), (9, vp 10 0), (10, vp 11 0), (112, .g (C_api_NetPDU x_55.PDU (.s 5))), (118, .g (C_api_NetPDU x_56.PDU (.s 8)))] [.rd 25 R_T_wirelesslaw51_Op l_1, .blk 28 (C_api_Friend c_32 (.s 2) (.s 3)), .rd 18 R_T_api_Queued c_32.Queue, .rd 1 (RInt .u16) c_32.Subs, .elt (some (2, x_36)) false (C_api_Queued x_55 (.s 5) (.s 6)), .rd 1 R8 x_55.PDU.Payload, .rd 1 R8 x_55.Lower.Bytes, .elt (some (2, x_35)) false (C_api_Queued x_56 (.s 8) (.s 9)), .rd 1 R8 x_56.PDU.Payload, .rd 1 R8 x_56.Lower.Bytes, .blk 34 (C_api_NetPDU (T_api_NetPDU.mk 0 0 false 0 0 0 0 []) nl), .blk 34 (C_api_NetPDU (T_api_NetPDU.mk 0 0 false 0 0 0 0 []) nl)] ?_ (fun c_58_2 => ?_)
                             · refine SD.all1 (i := 14) (by kernel_rfl) ?_
                               refine SW.store D_58 tk (i := 14) (q := 10) (T := 34) (cs := (C_api_NetPDU x_55.PDU (.s 5))) (bs' := [I, I, I, I, I, I, I, I, I, I, I, I, I, I, I, O]) rfl (by kernel_rfl) rfl rfl (by kernel_rfl) ?_
                               exact SD.vie D_58 [.g 0, .g 1, .g 2, .g 3, .g 4, .g 5, .g 6, .g 7, .g 8, .g 9, .g 10, .g 11] c_58_1 (by kernel_rfl)
                             · refine SD.lay 3 [I, I, I, I, I, I, I, I, I, I, I, I, I, O, O, O] [(0, vs 0), (3, vp 1 0), (5, vi .i64 x_14), (7, vi .i64 x_35), (8, vi .i64 x_36), (9, vp 10 0), (112, .g (C_api_NetPDU x_55.PDU (.s 5))), (118, .g (C_api_NetPDU x_56.PDU (.s 8)))] [.rd 25 R_T_wirelesslaw51_Op l_1, .blk 28 (C_api_Friend c_32 (.s 2) (.s 3)), .rd 18 R_T_api_Queued c_32.Queue, .rd 1 (RInt .u16) c_32.Subs, .elt (some (2, x_36)) false (C_api_Queued x_55 (.s 5) (.s 6)), .rd 1 R8 x_55.PDU.Payload, .rd 1 R8 x_55.Lower.Bytes, .elt (some (2, x_35)) false (C_api_Queued x_56 (.s 8) (.s 9)), .rd 1 R8 x_56.PDU.Payload, .rd 1 R8 x_56.Lower.Bytes, .blk 34 (C_api_NetPDU (T_api_NetPDU.mk 0 0 false 0 0 0 0 []) nl)] ?_ (fun c_58_3 => ?_)
                               · refine SD.all1 (i := 13) (by kernel_rfl) ?_
                                 refine SW.eff D_58 (i := 13) (bs' := [I, I, I, I, I, I, I, I, I, I, I, I, I, I, O, O]) rfl (.inl rfl) rfl (e_alloc (E := 34) tk (C_api_NetPDU (T_api_NetPDU.mk 0 0 false 0 0 0 0 []) nl) (by kernel_rfl)) (by kernel_rfl) rfl (by kernel_rfl) ?_
                                 exact SD.vie D_58 [.g 0, .g 1, .g 2, .g 3, .g 4, .g 5, .g 6, .g 7, .g 8, .g 9, .g 10, .g 11] c_58_2 (by kernel_rfl)
                               · refine SD.lay 3 [I, I, I, I, I, I, I, I, I, I, I, I, O, I, O, O] [(0, vs 0), (3, vp 1 0), (5, vi .i64 x_14), (7, vi .i64 x_35), (8, vi .i64 x_36), (10, vp 10 0), (112, .g (C_api_NetPDU x_55.PDU (.s 5))), (118, .g (C_api_NetPDU x_56.PDU (.s 8)))] [.rd 25 R_T_wirelesslaw51_Op l_1, .blk 28 (C_api_Friend c_32 (.s 2) (.s 3)), .rd 18 R_T_api_Queued c_32.Queue, .rd 1 (RInt .u16) c_32.Subs, .elt (some (2, x_36)) false (C_api_Queued x_55 (.s 5) (.s 6)), .rd 1 R8 x_55.PDU.Payload, .rd 1 R8 x_55.Lower.Bytes, .elt (some (2, x_35)) false (C_api_Queued x_56 (.s 8) (.s 9)), .rd 1 R8 x_56.PDU.Payload, .rd 1 R8 x_56.Lower.Bytes, .blk 34 (C_api_NetPDU (T_api_NetPDU.mk 0 0 false 0 0 0 0 []) nl)] ?_ (fun c_58_4 => ?_)
                                 · refine SD.all1 (i := 12) (by kernel_rfl) ?_
                                   refine SW.eff D_58 (i := 12) (bs' := [I, I, I, I, I, I, I, I, I, I, I, I, I, I, O, O]) rfl (.inl rfl) rfl (e_alloc (E := 34) tk (C_api_NetPDU (T_api_NetPDU.mk 0 0 false 0 0 0 0 []) nl) (by kernel_rfl)) (by kernel_rfl) rfl (by kernel_rfl) ?_
                                   exact SD.vie D_58 [.g 0, .g 1, .g 2, .g 3, .g 4, .g 5, .g 6, .g 7, .g 8, .g 9, .g 11, .g 10] c_58_2 (by kernel_rfl)
                                 · refine SD.all2 (i := 12) (j := 13) (by kernel_rfl) ?_ ?_
                                   · refine SW.eff D_58 (i := 12) (bs' := [I, I, I, I, I, I, I, I, I, I, I, I, I, O, O, O]) rfl (.inl rfl) rfl (e_alloc (E := 34) tk (C_api_NetPDU (T_api_NetPDU.mk 0 0 false 0 0 0 0 []) nl) (by kernel_rfl)) (by kernel_rfl) rfl (by kernel_rfl) ?_
                                     exact SD.vie D_58 [.g 0, .g 1, .g 2, .g 3, .g 4, .g 5, .g 6, .g 7, .g 8, .g 9, .g 10] c_58_3 (by kernel_rfl)
                                   · refine SW.eff D_58 (i := 13) (bs' := [I, I, I, I, I, I, I, I, I, I, I, I, O, I, O, O]) rfl (.inl rfl) rfl (e_alloc (E := 34) tk (C_api_NetPDU (T_api_NetPDU.mk 0 0 false 0 0 0 0 []) nl) (by kernel_rfl)) (by kernel_rfl) rfl (by kernel_rfl) ?_
                                     exact SD.vie D_58 [.g 0, .g 1, .g 2, .g 3, .g 4, .g 5, .g 6, .g 7, .g 8, .g 9, .g 10] c_58_4 (by kernel_rfl)
                       · rintro a w ⟨c_45, c_54, hp, h⟩
                         refine h.go ?_
                         refine SC.r tk [(0, vs 0), (3, vp 1 0), (5, vi .i64 x_14), (7, vi .i64 x_35), (8, vi .i64 x_36), (137, vb (((c_45.Src == c_54.Src) && (c_45.IV == c_54.IV)) && (c_45.Seq == c_54.Seq)))] [] [] [] (by kernel_rfl) ?_
                         refine SC.if' rfl hp (fun hp => ?_) (fun hp => ?_)
                         · refine SC.r tk [(2, vb false)] [] [] [] (by kernel_rfl) ?_
                           have ho := done_inv hp hs3
                           replace hp := ho3
                           try rw [ho] at hp
                           have ho := done_inv hp hs2
                           replace hp := ho2
                           try rw [ho] at hp
                           have ho := done_inv hp hs1
                           replace hp := ho1
                           try rw [ho] at hp
                           obtain rfl := some_inv' hp
                           exact SC.re (js := [.g 0]) tk (by kernel_rfl)
                         · refine SC.skipThen ?_
                           refine SC.reg ?_
                           refine SL.sim tk 3 [(0, vs 0), (3, vp 1 0), (5, vi .i64 x_14), (7, vi .i64 x_35), (8, vi .i64 (w64 (x_36 + 1)))] [] [] [] (by kernel_rfl) ?_
                           refine SL.nilJ fun a w h => ?_
                           exact ⟨n3, Nat.lt_succ_self _, w64 (x_36 + 1), next_inv hp hs3, h.at (js := [.g 0, .g 1, .g 2, .g 3]) (by kernel_rfl)⟩
                     · refine SC.exitJ rfl fun a w h => ?_
                       have ho := done_inv hp hs3
                       replace hp := ho3
                       try rw [ho] at hp
                       exact ⟨hp, h.at (js := [.g 0, .g 1, .g 2, .g 3]) (by kernel_rfl)⟩
                   · rintro a w ⟨hp, h⟩
                     refine h.go ?_
                     refine SC.reg ?_
                     refine SL.sim tk 3 [(0, vs 0), (3, vp 1 0), (5, vi .i64 x_14), (7, vi .i64 (w64 (x_35 + 1)))] [] [] [] (by kernel_rfl) ?_
                     refine SL.nilJ fun a w h => ?_
                     exact ⟨n2, Nat.lt_succ_self _, w64 (x_35 + 1), next_inv hp hs2, h.at (js := [.g 0, .g 1, .g 2, .g 3]) (by kernel_rfl)⟩
                 · refine SC.exitJ rfl fun a w h => ?_
                   have ho := done_inv hp hs2
                   replace hp := ho2
                   try rw [ho] at hp
                   exact ⟨c_32, hp, h.at (js := [.g 0, .g 1, .g 2, .g 3]) (by kernel_rfl)⟩
         · rintro a w ⟨c_23, hp, h⟩
           refine h.go ?_
           refine SC.reg ?_
           refine SL.sim tk 3 [(0, vs 0), (3, vp 1 0), (5, vi .i64 (w64 (x_14 + 1)))] [] [] [] (by kernel_rfl) ?_
           refine SL.nilJ fun a w h => ?_
           exact ⟨n1, Nat.lt_succ_self _, c_23, w64 (x_14 + 1), next_inv hp hs1, h.at (js := [.g 0, .g 1, .g 2, .g 3]) (by kernel_rfl)⟩
       · refine SC.exitJ rfl fun a w h => ?_
         have ho := done_inv hp hs1
         replace hp := ho1
         try rw [ho] at hp
         exact ⟨hp, h.at (js := [.g 0]) (by kernel_rfl)⟩
     · rintro a w ⟨hp, h⟩
       refine h.go ?_
       refine SC.seq ?_
       refine SC.reg ?_
       obtain ⟨x_4, e_x_4, hp⟩ := bind_inv hp
       refine SL.eff (e_c Try.call7 (ok_wirelesslaw51_lives F  _ e_x_4) [] [] (vb x_4) (by kernel_rfl) (.inl rfl)) rfl (by kernel_rfl) ?_
       refine SL.sim tk 1 [(2, vb x_4)] [] [] [] (by kernel_rfl) ?_
       refine SL.nilThen ?_
       obtain rfl := some_inv' hp
       exact SC.re (js := [.g 0]) tk (by kernel_rfl)
end V
end Go.Proofs.Ytphigebccfoppaa
