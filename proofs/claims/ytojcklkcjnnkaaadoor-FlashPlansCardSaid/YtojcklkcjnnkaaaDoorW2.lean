/-
  Walks, written by program: each Go function returns what its pure twin says.
-/
import Derived.Test.YtojcklkcjnnkaaaDoorW1
namespace Go.Proofs.YtojcklkcjnnkaaaDoor
namespace V
theorem ok_wirelessref39_SameWrites (F : Nat) (a_1 : (List T_api_Write)) (b_2 : (List T_api_Write)) (r : Bool) (hp : wirelessref39_SameWrites F a_1 b_2 = some r) : Spec Tryd.prog 24 [vs 0, vs 1] [.rd 4 R_T_api_Write a_1, .rd 4 R_T_api_Write b_2] (vb r) [.gone, .gone] := by
 refine Spec.enter Tryd.func24 rfl Tryd.ntmps24 rfl rfl fun fx => ?_
 refine SC.r tk [(0, vs 0), (1, vs 1)] [] [] [] (by kernel_rfl) ?_
 refine SC.seq ?_
 refine SC.r tk [(0, vs 0), (1, vs 1), (10, vb ((len a_1) != (len b_2)))] [] [] [] (by kernel_rfl) ?_
 refine SC.if' rfl hp (fun hp => ?_) (fun hp => ?_)
 · refine SC.r tk [(4, vb false)] [] [] [] (by kernel_rfl) ?_
   obtain rfl := some_inv' hp
   exact SC.re (js := [.g 0, .g 1]) tk (by kernel_rfl)
 refine SC.skipThen ?_
 refine SC.cut (fun a w => wirelessref39_SameWrites_j1 F = some r ∧ A 69 2 fx [] [.gone, .gone] a w) ?_ ?_
 · refine SC.r tk [(0, vs 0), (1, vs 1), (5, vi .i64 0)] [] [] [] (by kernel_rfl) ?_
   refine SC.block ?_
   obtain ⟨o1, hi1, ho1⟩ := bind_inv hp
   clear hp
   refine SC.loop (fun n a w => ∃ (x_3 : Int), iter (fun s => wirelessref39_SameWrites_l1 F a_1 b_2 s) n (x_3) = some o1 ∧ A 69 2 fx [(0, vs 0), (1, vs 1), (5, vi .i64 x_3)] [.rd 4 R_T_api_Write a_1, .rd 4 R_T_api_Write b_2] a w) F (fun a w h => ⟨0, hi1, h.at (js := [.g 0, .g 1]) (by kernel_rfl)⟩) ?_
   rintro n1 a w ⟨x_3, hi1, h⟩
   obtain ⟨n1, q1, rfl, hp, hs1⟩ := iter_inv hi1
   replace hp : wirelessref39_SameWrites_l1 F a_1 b_2 x_3 = some q1 := hp
   clear hi1
   refine h.go ?_
   refine SC.seq ?_
   refine SC.r tk [(0, vs 0), (1, vs 1), (5, vi .i64 x_3), (14, vb (decide (x_3 < (len a_1))))] [] [] [] (by kernel_rfl) ?_
   refine SC.if' rfl hp (fun hp => ?_) (fun hp => ?_)
   · refine SC.skipThen ?_
     refine SC.seq ?_
     refine SC.block ?_
     refine SC.cut (fun a w => ∃ (z_4 : Bool), wirelessref39_SameWrites_j2 F x_3 z_4 = some q1 ∧ A 69 2 fx [(0, vs 0), (1, vs 1), (5, vi .i64 x_3), (68, vb z_4)] [.rd 4 R_T_api_Write a_1, .rd 4 R_T_api_Write b_2] a w) ?_ ?_
     · obtain ⟨x_5, e_x_5, hp⟩ := bind_inv hp
       obtain ⟨x_6, e_x_6, hp⟩ := bind_inv hp
       refine SC.pre (pre_ix (i := 0) (iv := x_3) (sz := 4) (R := R_T_api_Write) (l := a_1) (by kernel_rfl) rfl e_x_5) ?_
       refine SC.pre (pre_ix (i := 1) (iv := x_3) (sz := 4) (R := R_T_api_Write) (l := b_2) (by kernel_rfl) rfl e_x_6) ?_
       refine SC.draw MO [I, I, I, I, I, I] (by kernel_rfl) fun kap_7 D_8 => ?_
       refine SD.takes tk D_8 [] kn0 [0, 1, 2, 3, 4, 5, 6, 7, 8, 9, 10, 11] [.el 2, .el 4] [x_3, x_3] (bm 52 4095) [(0, vs 0), (1, vs 1), (5, vi .i64 x_3), (28, vb (x_5.Bank != x_6.Bank))] rfl (by kernel_rfl) (by kernel_rfl) (by kernel_rfl) ?_
       rcases Bool.eq_false_or_eq_true ((x_5.Bank != x_6.Bank)) with hg_9 | hg_9
       · replace hp := if_t hp hg_9
         refine SD.takes tk D_8 [(28, true)] (knS rfl hg_9 kn0) [12, 13, 14, 15, 16, 17, 18, 19, 20, 21, 22, 23, 24] [] [] (bm 52 33554431) [(0, vs 0), (1, vs 1), (5, vi .i64 x_3), (29, .u []), (30, .u []), (31, .u []), (32, .u []), (33, .u []), (34, .u []), (35, .u []), (36, .u []), (37, .u []), (38, .u []), (39, .u []), (41, vb true)] rfl (by kernel_rfl) (by kernel_rfl) (by kernel_rfl) ?_
         refine SD.takes tk D_8 [(41, true)] (knS rfl rfl kn0) [25, 26, 27, 28, 29, 30, 31, 32, 33, 34, 35, 36, 37] [] [] (bm 52 274877906943) [(0, vs 0), (1, vs 1), (5, vi .i64 x_3), (29, .u []), (30, .u []), (31, .u []), (32, .u []), (33, .u []), (34, .u []), (35, .u []), (36, .u []), (37, .u []), (38, .u []), (39, .u []), (42, .u []), (43, .u []), (44, .u []), (45, .u []), (46, .u []), (47, .u []), (48, .u []), (49, .u []), (50, .u []), (51, .u []), (52, .u []), (54, vb true)] rfl (by kernel_rfl) (by kernel_rfl) (by kernel_rfl) ?_
         refine SD.takes tk D_8 [(54, true)] (knS rfl rfl kn0) [38, 39, 40, 41, 42, 43, 44, 45, 46, 47, 48, 49, 50, 51] [] [] (bm 52 4503599627370495) [(0, vs 0), (1, vs 1), (5, vi .i64 x_3), (29, .u []), (30, .u []), (31, .u []), (32, .u []), (33, .u []), (34, .u []), (35, .u []), (36, .u []), (37, .u []), (38, .u []), (39, .u []), (42, .u []), (43, .u []), (44, .u []), (45, .u []), (46, .u []), (47, .u []), (48, .u []), (49, .u []), (50, .u []), (51, .u []), (52, .u []), (55, .u []), (56, .u []), (57, .u []), (58, .u []), (59, .u []), (60, .u []), (61, .u []), (62, .u []), (63, .u []), (64, .u []), (65, .u []), (66, .u []), (67, .u []), (68, vb true)] rfl (by kernel_rfl) (by kernel_rfl) (by kernel_rfl) ?_
         refine SD.done (by kernel_rfl) fun a w h => ?_
         exact ⟨true, hp, h.at (js := [.g 0, .g 1]) (by kernel_rfl)⟩
       replace hp := if_f hp hg_9
       refine SD.takes tk D_8 [(28, false)] (knS rfl hg_9 kn0) [12, 13, 17, 18] [] [] (bm 52 409599) [(0, vs 0), (1, vs 1), (5, vi .i64 x_3), (28, vb (x_5.Bank != x_6.Bank)), (29, vs 0), (30, vi .i64 x_3), (34, vs 1), (35, vi .i64 x_3)] rfl (by kernel_rfl) (by kernel_rfl) (by kernel_rfl) ?_
       obtain ⟨x_1130, e_x_1130, hp⟩ := bind_inv hp
       obtain ⟨x_1530, e_x_1530, hp⟩ := bind_inv hp
       refine SD.lay 27 (bm 52 33554431) [(0, vs 0), (1, vs 1), (5, vi .i64 x_3), (29, vs 0), (30, vi .i64 x_3), (31, vp 6 0), (32, vp 6 1), (33, vb x_1130.Erase), (34, vs 1), (35, vi .i64 x_3), (36, vp 8 0), (37, vp 8 1), (38, vb x_1530.Erase), (39, vb (x_1130.Erase != x_1530.Erase)), (41, vb (x_1130.Erase != x_1530.Erase))] [.rd 4 R_T_api_Write a_1, .rd 4 R_T_api_Write b_2, .elt (some (0, x_3)) false (C_api_Write x_5 (.s 3)), .rd 1 R8 x_5.Bytes, .elt (some (1, x_3)) false (C_api_Write x_6 (.s 5)), .rd 1 R8 x_6.Bytes, .elt none false (C_api_Write x_1130 (.s 7)), .rd 1 R8 x_1130.Bytes, .elt none false (C_api_Write x_1530 (.s 9)), .rd 1 R8 x_1530.Bytes] ?_ (fun c_9_0 => ?_)
       · rcases Bool.eq_false_or_eq_true ((x_1130.Erase != x_1530.Erase)) with hg_4250 | hg_4250
         · replace hp := if_t hp hg_4250
           refine SD.takes tk D_8 [(41, true)] (knS rfl hg_4250 kn0) [25, 26, 27, 28, 29, 30, 31, 32, 33, 34, 35, 36, 37] [] [] (bm 52 274877906943) [(0, vs 0), (1, vs 1), (5, vi .i64 x_3), (29, vs 0), (30, vi .i64 x_3), (31, vp 6 0), (32, vp 6 1), (33, vb x_1130.Erase), (34, vs 1), (35, vi .i64 x_3), (36, vp 8 0), (37, vp 8 1), (38, vb x_1530.Erase), (39, vb (x_1130.Erase != x_1530.Erase)), (42, .u []), (43, .u []), (44, .u []), (45, .u []), (46, .u []), (47, .u []), (48, .u []), (49, .u []), (50, .u []), (51, .u []), (52, .u []), (54, vb true)] rfl (by kernel_rfl) (by kernel_rfl) (by kernel_rfl) ?_
           refine SD.takes tk D_8 [(54, true)] (knS rfl rfl kn0) [38, 39, 40, 41, 42, 43, 44, 45, 46, 47, 48, 49, 50, 51] [] [] (bm 52 4503599627370495) [(0, vs 0), (1, vs 1), (5, vi .i64 x_3), (29, vs 0), (30, vi .i64 x_3), (31, vp 6 0), (32, vp 6 1), (33, vb x_1130.Erase), (34, vs 1), (35, vi .i64 x_3), (36, vp 8 0), (37, vp 8 1), (38, vb x_1530.Erase), (39, vb (x_1130.Erase != x_1530.Erase)), (42, .u []), (43, .u []), (44, .u []), (45, .u []), (46, .u []), (47, .u []), (48, .u []), (49, .u []), (50, .u []), (51, .u []), (52, .u []), (55, .u []), (56, .u []), (57, .u []), (58, .u []), (59, .u []), (60, .u []), (61, .u []), (62, .u []), (63, .u []), (64, .u []), (65, .u []), (66, .u []), (67, .u []), (68, vb true)] rfl (by kernel_rfl) (by kernel_rfl) (by kernel_rfl) ?_
           refine SD.done (by kernel_rfl) fun a w h => ?_
           exact ⟨true, hp, h.at (js := [.g 0, .g 1]) (by kernel_rfl)⟩
         replace hp := if_f hp hg_4250
         refine SD.takes tk D_8 [(41, false)] (knS rfl hg_4250 kn0) [25, 26, 30, 31] [] [] (bm 52 3355443199) [(0, vs 0), (1, vs 1), (5, vi .i64 x_3), (29, vs 0), (30, vi .i64 x_3), (31, vp 6 0), (32, vp 6 1), (33, vb x_1130.Erase), (34, vs 1), (35, vi .i64 x_3), (36, vp 8 0), (37, vp 8 1), (38, vb x_1530.Erase), (39, vb (x_1130.Erase != x_1530.Erase)), (41, vb (x_1130.Erase != x_1530.Erase)), (42, vs 0), (43, vi .i64 x_3), (47, vs 1), (48, vi .i64 x_3)] rfl (by kernel_rfl) (by kernel_rfl) (by kernel_rfl) ?_
         obtain ⟨x_6411, e_x_6411, hp⟩ := bind_inv hp
         obtain ⟨x_6811, e_x_6811, hp⟩ := bind_inv hp
         refine SD.lay 14 (bm 52 274877906943) [(0, vs 0), (1, vs 1), (5, vi .i64 x_3), (29, vs 0), (30, vi .i64 x_3), (31, vp 6 0), (32, vp 6 1), (33, vb x_1130.Erase), (34, vs 1), (35, vi .i64 x_3), (36, vp 8 0), (37, vp 8 1), (38, vb x_1530.Erase), (39, vb (x_1130.Erase != x_1530.Erase)), (42, vs 0), (43, vi .i64 x_3), (44, vp 10 0), (45, vp 10 2), (46, vi .i64 x_6411.Offset), (47, vs 1), (48, vi .i64 x_3), (49, vp 12 0), (50, vp 12 2), (51, vi .i64 x_6811.Offset), (52, vb (x_6411.Offset != x_6811.Offset)), (54, vb (x_6411.Offset != x_6811.Offset))] [.rd 4 R_T_api_Write a_1, .rd 4 R_T_api_Write b_2, .elt (some (0, x_3)) false (C_api_Write x_5 (.s 3)), .rd 1 R8 x_5.Bytes, .elt (some (1, x_3)) false (C_api_Write x_6 (.s 5)), .rd 1 R8 x_6.Bytes, .elt none false (C_api_Write x_1130 (.s 7)), .rd 1 R8 x_1130.Bytes, .elt none false (C_api_Write x_1530 (.s 9)), .rd 1 R8 x_1530.Bytes, .elt none false (C_api_Write x_6411 (.s 11)), .rd 1 R8 x_6411.Bytes, .elt none false (C_api_Write x_6811 (.s 13)), .rd 1 R8 x_6811.Bytes] ?_ (fun c_4250_0 => ?_)
         · rcases Bool.eq_false_or_eq_true ((x_6411.Offset != x_6811.Offset)) with hg_8491 | hg_8491
           · replace hp := if_t hp hg_8491
             refine SD.takes tk D_8 [(54, true)] (knS rfl hg_8491 kn0) [38, 39, 40, 41, 42, 43, 44, 45, 46, 47, 48, 49, 50, 51] [] [] (bm 52 4503599627370495) [(0, vs 0), (1, vs 1), (5, vi .i64 x_3), (29, vs 0), (30, vi .i64 x_3), (31, vp 6 0), (32, vp 6 1), (33, vb x_1130.Erase), (34, vs 1), (35, vi .i64 x_3), (36, vp 8 0), (37, vp 8 1), (38, vb x_1530.Erase), (39, vb (x_1130.Erase != x_1530.Erase)), (42, vs 0), (43, vi .i64 x_3), (44, vp 10 0), (45, vp 10 2), (46, vi .i64 x_6411.Offset), (47, vs 1), (48, vi .i64 x_3), (49, vp 12 0), (50, vp 12 2), (51, vi .i64 x_6811.Offset), (52, vb (x_6411.Offset != x_6811.Offset)), (55, .u []), (56, .u []), (57, .u []), (58, .u []), (59, .u []), (60, .u []), (61, .u []), (62, .u []), (63, .u []), (64, .u []), (65, .u []), (66, .u []), (67, .u []), (68, vb true)] rfl (by kernel_rfl) (by kernel_rfl) (by kernel_rfl) ?_
             refine SD.done (by kernel_rfl) fun a w h => ?_
             exact ⟨true, hp, h.at (js := [.g 0, .g 1]) (by kernel_rfl)⟩
           replace hp := if_f hp hg_8491
           refine SD.takes tk D_8 [(54, false)] (knS rfl hg_8491 kn0) [38, 39, 44, 45] [] [] (bm 52 53876069761023) [(0, vs 0), (1, vs 1), (5, vi .i64 x_3), (29, vs 0), (30, vi .i64 x_3), (31, vp 6 0), (32, vp 6 1), (33, vb x_1130.Erase), (34, vs 1), (35, vi .i64 x_3), (36, vp 8 0), (37, vp 8 1), (38, vb x_1530.Erase), (39, vb (x_1130.Erase != x_1530.Erase)), (42, vs 0), (43, vi .i64 x_3), (44, vp 10 0), (45, vp 10 2), (46, vi .i64 x_6411.Offset), (47, vs 1), (48, vi .i64 x_3), (49, vp 12 0), (50, vp 12 2), (51, vi .i64 x_6811.Offset), (52, vb (x_6411.Offset != x_6811.Offset)), (54, vb (x_6411.Offset != x_6811.Offset)), (55, vs 0), (56, vi .i64 x_3), (61, vs 1), (62, vi .i64 x_3)] rfl (by kernel_rfl) (by kernel_rfl) (by kernel_rfl) ?_
           obtain ⟨x_11692, e_x_11692, hp⟩ := bind_inv hp
           obtain ⟨x_12172, e_x_12172, hp⟩ := bind_inv hp
           refine SD.lay 0 (bm 52 4503599627370495) [(0, vs 0), (1, vs 1), (5, vi .i64 x_3), (29, vs 0), (30, vi .i64 x_3), (31, vp 6 0), (32, vp 6 1), (33, vb x_1130.Erase), (34, vs 1), (35, vi .i64 x_3), (36, vp 8 0), (37, vp 8 1), (38, vb x_1530.Erase), (39, vb (x_1130.Erase != x_1530.Erase)), (42, vs 0), (43, vi .i64 x_3), (44, vp 10 0), (45, vp 10 2), (46, vi .i64 x_6411.Offset), (47, vs 1), (48, vi .i64 x_3), (49, vp 12 0), (50, vp 12 2), (51, vi .i64 x_6811.Offset), (52, vb (x_6411.Offset != x_6811.Offset)), (55, vs 0), (56, vi .i64 x_3), (57, vp 14 0), (58, vp 14 3), (59, vs 15), (60, vt 16), (61, vs 1), (62, vi .i64 x_3), (63, vp 17 0), (64, vp 17 3), (65, vs 18), (66, vt 19), (67, vb ((str x_11692.Bytes) != (str x_12172.Bytes))), (68, vb ((str x_11692.Bytes) != (str x_12172.Bytes)))] [.rd 4 R_T_api_Write a_1, .rd 4 R_T_api_Write b_2, .elt (some (0, x_3)) false (C_api_Write x_5 (.s 3)), .rd 1 R8 x_5.Bytes, .elt (some (1, x_3)) false (C_api_Write x_6 (.s 5)), .rd 1 R8 x_6.Bytes, .elt none false (C_api_Write x_1130 (.s 7)), .rd 1 R8 x_1130.Bytes, .elt none false (C_api_Write x_1530 (.s 9)), .rd 1 R8 x_1530.Bytes, .elt none false (C_api_Write x_6411 (.s 11)), .rd 1 R8 x_6411.Bytes, .elt none false (C_api_Write x_6811 (.s 13)), .rd 1 R8 x_6811.Bytes, .elt none false (C_api_Write x_11692 (.s 15)), .rd 1 R8 x_11692.Bytes, .str (str x_11692.Bytes), .elt none false (C_api_Write x_12172 (.s 18)), .rd 1 R8 x_12172.Bytes, .str (str x_12172.Bytes)] ?_ (fun c_8491_0 => ?_)
           · refine SD.done (by kernel_rfl) fun a w h => ?_
             exact ⟨((str x_11692.Bytes) != (str x_12172.Bytes)), hp, h.at (js := [.g 0, .g 1]) (by kernel_rfl)⟩
           refine SD.lay 2 (bm 52 1125899906842623) [(0, vs 0), (1, vs 1), (5, vi .i64 x_3), (29, vs 0), (30, vi .i64 x_3), (31, vp 6 0), (32, vp 6 1), (33, vb x_1130.Erase), (34, vs 1), (35, vi .i64 x_3), (36, vp 8 0), (37, vp 8 1), (38, vb x_1530.Erase), (39, vb (x_1130.Erase != x_1530.Erase)), (42, vs 0), (43, vi .i64 x_3), (44, vp 10 0), (45, vp 10 2), (46, vi .i64 x_6411.Offset), (47, vs 1), (48, vi .i64 x_3), (49, vp 12 0), (50, vp 12 2), (51, vi .i64 x_6811.Offset), (52, vb (x_6411.Offset != x_6811.Offset)), (54, vb (x_6411.Offset != x_6811.Offset)), (55, vs 0), (56, vi .i64 x_3), (57, vp 14 0), (58, vp 14 3), (59, vs 15), (60, vt 16), (61, vs 1), (62, vi .i64 x_3), (63, vp 17 0), (64, vp 17 3), (65, vs 18), (66, vt 19)] [.rd 4 R_T_api_Write a_1, .rd 4 R_T_api_Write b_2, .elt (some (0, x_3)) false (C_api_Write x_5 (.s 3)), .rd 1 R8 x_5.Bytes, .elt (some (1, x_3)) false (C_api_Write x_6 (.s 5)), .rd 1 R8 x_6.Bytes, .elt none false (C_api_Write x_1130 (.s 7)), .rd 1 R8 x_1130.Bytes, .elt none false (C_api_Write x_1530 (.s 9)), .rd 1 R8 x_1530.Bytes, .elt none false (C_api_Write x_6411 (.s 11)), .rd 1 R8 x_6411.Bytes, .elt none false (C_api_Write x_6811 (.s 13)), .rd 1 R8 x_6811.Bytes, .elt none false (C_api_Write x_11692 (.s 15)), .rd 1 R8 x_11692.Bytes, .str (str x_11692.Bytes), .elt none false (C_api_Write x_12172 (.s 18)), .rd 1 R8 x_12172.Bytes, .str (str x_12172.Bytes)] ?_ (fun c_8491_1 => ?_)
           · refine SD.all1 (i := 50) (by kernel_rfl) ?_
             refine SW.eff D_8 (i := 50) (v := vb ((str x_11692.Bytes) != (str x_12172.Bytes))) (bs' := (bm 52 2251799813685247)) rfl (.inr ⟨_, _, _, _, rfl, rfl, rfl, hg_8491⟩) rfl (e_val tk (by kernel_rfl)) (by kernel_rfl) rfl (by kernel_rfl) ?_
             refine SD.takes tk D_8 [(54, false)] (knS rfl hg_8491 kn0) [51] [] [] (bm 52 4503599627370495) [(0, vs 0), (1, vs 1), (5, vi .i64 x_3), (29, vs 0), (30, vi .i64 x_3), (31, vp 6 0), (32, vp 6 1), (33, vb x_1130.Erase), (34, vs 1), (35, vi .i64 x_3), (36, vp 8 0), (37, vp 8 1), (38, vb x_1530.Erase), (39, vb (x_1130.Erase != x_1530.Erase)), (42, vs 0), (43, vi .i64 x_3), (44, vp 10 0), (45, vp 10 2), (46, vi .i64 x_6411.Offset), (47, vs 1), (48, vi .i64 x_3), (49, vp 12 0), (50, vp 12 2), (51, vi .i64 x_6811.Offset), (52, vb (x_6411.Offset != x_6811.Offset)), (55, vs 0), (56, vi .i64 x_3), (57, vp 14 0), (58, vp 14 3), (59, vs 15), (60, vt 16), (61, vs 1), (62, vi .i64 x_3), (63, vp 17 0), (64, vp 17 3), (65, vs 18), (66, vt 19), (67, vb ((str x_11692.Bytes) != (str x_12172.Bytes))), (68, vb ((str x_11692.Bytes) != (str x_12172.Bytes)))] rfl (by kernel_rfl) (by kernel_rfl) (by kernel_rfl) ?_
             exact SD.vie D_8 [.g 0, .g 1, .g 2, .g 3, .g 4, .g 5, .g 6, .g 7, .g 8, .g 9, .g 10, .g 11, .g 12, .g 13, .g 14, .g 15, .g 16, .g 17, .g 18, .g 19] c_8491_0 (by kernel_rfl)
           refine SD.lay 3 (bm 52 562949953421311) [(0, vs 0), (1, vs 1), (5, vi .i64 x_3), (29, vs 0), (30, vi .i64 x_3), (31, vp 6 0), (32, vp 6 1), (33, vb x_1130.Erase), (34, vs 1), (35, vi .i64 x_3), (36, vp 8 0), (37, vp 8 1), (38, vb x_1530.Erase), (39, vb (x_1130.Erase != x_1530.Erase)), (42, vs 0), (43, vi .i64 x_3), (44, vp 10 0), (45, vp 10 2), (46, vi .i64 x_6411.Offset), (47, vs 1), (48, vi .i64 x_3), (49, vp 12 0), (50, vp 12 2), (51, vi .i64 x_6811.Offset), (52, vb (x_6411.Offset != x_6811.Offset)), (54, vb (x_6411.Offset != x_6811.Offset)), (55, vs 0), (56, vi .i64 x_3), (57, vp 14 0), (58, vp 14 3), (59, vs 15), (60, vt 16), (61, vs 1), (62, vi .i64 x_3), (63, vp 17 0), (64, vp 17 3), (65, vs 18)] [.rd 4 R_T_api_Write a_1, .rd 4 R_T_api_Write b_2, .elt (some (0, x_3)) false (C_api_Write x_5 (.s 3)), .rd 1 R8 x_5.Bytes, .elt (some (1, x_3)) false (C_api_Write x_6 (.s 5)), .rd 1 R8 x_6.Bytes, .elt none false (C_api_Write x_1130 (.s 7)), .rd 1 R8 x_1130.Bytes, .elt none false (C_api_Write x_1530 (.s 9)), .rd 1 R8 x_1530.Bytes, .elt none false (C_api_Write x_6411 (.s 11)), .rd 1 R8 x_6411.Bytes, .elt none false (C_api_Write x_6811 (.s 13)), .rd 1 R8 x_6811.Bytes, .elt none false (C_api_Write x_11692 (.s 15)), .rd 1 R8 x_11692.Bytes, .str (str x_11692.Bytes), .elt none false (C_api_Write x_12172 (.s 18)), .rd 1 R8 x_12172.Bytes] ?_ (fun c_8491_2 => ?_)
           · refine SD.all1 (i := 49) (by kernel_rfl) ?_
             refine SW.eff D_8 (i := 49) (bs' := (bm 52 1125899906842623)) rfl (.inr ⟨_, _, _, _, rfl, rfl, rfl, hg_8491⟩) rfl (e_b2s (l := x_12172.Bytes) tk rfl (.r (by kernel_rfl)) (by kernel_rfl)) (by kernel_rfl) rfl (by kernel_rfl) ?_
             exact SD.vie D_8 [.g 0, .g 1, .g 2, .g 3, .g 4, .g 5, .g 6, .g 7, .g 8, .g 9, .g 10, .g 11, .g 12, .g 13, .g 14, .g 15, .g 16, .g 17, .g 18, .g 19] c_8491_1 (by kernel_rfl)
           refine SD.lay 4 (bm 52 281474976710655) [(0, vs 0), (1, vs 1), (5, vi .i64 x_3), (29, vs 0), (30, vi .i64 x_3), (31, vp 6 0), (32, vp 6 1), (33, vb x_1130.Erase), (34, vs 1), (35, vi .i64 x_3), (36, vp 8 0), (37, vp 8 1), (38, vb x_1530.Erase), (39, vb (x_1130.Erase != x_1530.Erase)), (42, vs 0), (43, vi .i64 x_3), (44, vp 10 0), (45, vp 10 2), (46, vi .i64 x_6411.Offset), (47, vs 1), (48, vi .i64 x_3), (49, vp 12 0), (50, vp 12 2), (51, vi .i64 x_6811.Offset), (52, vb (x_6411.Offset != x_6811.Offset)), (54, vb (x_6411.Offset != x_6811.Offset)), (55, vs 0), (56, vi .i64 x_3), (57, vp 14 0), (58, vp 14 3), (59, vs 15), (60, vt 16), (61, vs 1), (62, vi .i64 x_3), (63, vp 17 0), (64, vp 17 3)] [.rd 4 R_T_api_Write a_1, .rd 4 R_T_api_Write b_2, .elt (some (0, x_3)) false (C_api_Write x_5 (.s 3)), .rd 1 R8 x_5.Bytes, .elt (some (1, x_3)) false (C_api_Write x_6 (.s 5)), .rd 1 R8 x_6.Bytes, .elt none false (C_api_Write x_1130 (.s 7)), .rd 1 R8 x_1130.Bytes, .elt none false (C_api_Write x_1530 (.s 9)), .rd 1 R8 x_1530.Bytes, .elt none false (C_api_Write x_6411 (.s 11)), .rd 1 R8 x_6411.Bytes, .elt none false (C_api_Write x_6811 (.s 13)), .rd 1 R8 x_6811.Bytes, .elt none false (C_api_Write x_11692 (.s 15)), .rd 1 R8 x_11692.Bytes, .str (str x_11692.Bytes), .elt none false (C_api_Write x_12172 (.s 18)), .rd 1 R8 x_12172.Bytes] ?_ (fun c_8491_3 => ?_)
           · refine SD.all1 (i := 48) (by kernel_rfl) ?_
             refine SW.eff D_8 (i := 48) (v := vs 18) (bs' := (bm 52 562949953421311)) rfl (.inr ⟨_, _, _, _, rfl, rfl, rfl, hg_8491⟩) rfl (e_val tk (by kernel_rfl)) (by kernel_rfl) rfl (by kernel_rfl) ?_
             exact SD.vie D_8 [.g 0, .g 1, .g 2, .g 3, .g 4, .g 5, .g 6, .g 7, .g 8, .g 9, .g 10, .g 11, .g 12, .g 13, .g 14, .g 15, .g 16, .g 17, .g 18] c_8491_2 (by kernel_rfl)
           refine SD.lay 5 (bm 52 140737488355327) [(0, vs 0), (1, vs 1), (5, vi .i64 x_3), (29, vs 0), (30, vi .i64 x_3), (31, vp 6 0), (32, vp 6 1), (33, vb x_1130.Erase), (34, vs 1), (35, vi .i64 x_3), (36, vp 8 0), (37, vp 8 1), (38, vb x_1530.Erase), (39, vb (x_1130.Erase != x_1530.Erase)), (42, vs 0), (43, vi .i64 x_3), (44, vp 10 0), (45, vp 10 2), (46, vi .i64 x_6411.Offset), (47, vs 1), (48, vi .i64 x_3), (49, vp 12 0), (50, vp 12 2), (51, vi .i64 x_6811.Offset), (52, vb (x_6411.Offset != x_6811.Offset)), (54, vb (x_6411.Offset != x_6811.Offset)), (55, vs 0), (56, vi .i64 x_3), (57, vp 14 0), (58, vp 14 3), (59, vs 15), (60, vt 16), (61, vs 1), (62, vi .i64 x_3), (63, vp 17 0)] [.rd 4 R_T_api_Write a_1, .rd 4 R_T_api_Write b_2, .elt (some (0, x_3)) false (C_api_Write x_5 (.s 3)), .rd 1 R8 x_5.Bytes, .elt (some (1, x_3)) false (C_api_Write x_6 (.s 5)), .rd 1 R8 x_6.Bytes, .elt none false (C_api_Write x_1130 (.s 7)), .rd 1 R8 x_1130.Bytes, .elt none false (C_api_Write x_1530 (.s 9)), .rd 1 R8 x_1530.Bytes, .elt none false (C_api_Write x_6411 (.s 11)), .rd 1 R8 x_6411.Bytes, .elt none false (C_api_Write x_6811 (.s 13)), .rd 1 R8 x_6811.Bytes, .elt none false (C_api_Write x_11692 (.s 15)), .rd 1 R8 x_11692.Bytes, .str (str x_11692.Bytes), .elt none false (C_api_Write x_12172 (.s 18)), .rd 1 R8 x_12172.Bytes] ?_ (fun c_8491_4 => ?_)
           · refine SD.all1 (i := 47) (by kernel_rfl) ?_
             refine SW.eff D_8 (i := 47) (v := vp 17 3) (bs' := (bm 52 281474976710655)) rfl (.inr ⟨_, _, _, _, rfl, rfl, rfl, hg_8491⟩) rfl (e_val tk (by kernel_rfl)) (by kernel_rfl) rfl (by kernel_rfl) ?_
             exact SD.vie D_8 [.g 0, .g 1, .g 2, .g 3, .g 4, .g 5, .g 6, .g 7, .g 8, .g 9, .g 10, .g 11, .g 12, .g 13, .g 14, .g 15, .g 16, .g 17, .g 18] c_8491_3 (by kernel_rfl)
           refine SD.lay 6 (bm 52 70368744177663) [(0, vs 0), (1, vs 1), (5, vi .i64 x_3), (29, vs 0), (30, vi .i64 x_3), (31, vp 6 0), (32, vp 6 1), (33, vb x_1130.Erase), (34, vs 1), (35, vi .i64 x_3), (36, vp 8 0), (37, vp 8 1), (38, vb x_1530.Erase), (39, vb (x_1130.Erase != x_1530.Erase)), (42, vs 0), (43, vi .i64 x_3), (44, vp 10 0), (45, vp 10 2), (46, vi .i64 x_6411.Offset), (47, vs 1), (48, vi .i64 x_3), (49, vp 12 0), (50, vp 12 2), (51, vi .i64 x_6811.Offset), (52, vb (x_6411.Offset != x_6811.Offset)), (54, vb (x_6411.Offset != x_6811.Offset)), (55, vs 0), (56, vi .i64 x_3), (57, vp 14 0), (58, vp 14 3), (59, vs 15), (60, vt 16), (61, vs 1), (62, vi .i64 x_3)] [.rd 4 R_T_api_Write a_1, .rd 4 R_T_api_Write b_2, .elt (some (0, x_3)) false (C_api_Write x_5 (.s 3)), .rd 1 R8 x_5.Bytes, .elt (some (1, x_3)) false (C_api_Write x_6 (.s 5)), .rd 1 R8 x_6.Bytes, .elt none false (C_api_Write x_1130 (.s 7)), .rd 1 R8 x_1130.Bytes, .elt none false (C_api_Write x_1530 (.s 9)), .rd 1 R8 x_1530.Bytes, .elt none false (C_api_Write x_6411 (.s 11)), .rd 1 R8 x_6411.Bytes, .elt none false (C_api_Write x_6811 (.s 13)), .rd 1 R8 x_6811.Bytes, .elt none false (C_api_Write x_11692 (.s 15)), .rd 1 R8 x_11692.Bytes, .str (str x_11692.Bytes)] ?_ (fun c_8491_5 => ?_)
           · refine SD.pre (pre_ix (i := 1) (iv := x_3) (sz := 4) (R := R_T_api_Write) (l := b_2) (by kernel_rfl) rfl e_x_12172) ?_
             refine SD.all1 (i := 46) (by kernel_rfl) ?_
             refine SW.eff D_8 (i := 46) (v := vp 17 0) (bs' := (bm 52 140737488355327)) rfl (.inr ⟨_, _, _, _, rfl, rfl, rfl, hg_8491⟩) rfl (e_valE tk (.el 17) [x_3] (by kernel_rfl)) (by kernel_rfl) rfl (by kernel_rfl) ?_
             exact SD.vie D_8 [.g 0, .g 1, .g 2, .g 3, .g 4, .g 5, .g 6, .g 7, .g 8, .g 9, .g 10, .g 11, .g 12, .g 13, .g 14, .g 15, .g 16, .g 17, .g 18] c_8491_4 (by kernel_rfl)
           refine SD.lay 3 (bm 52 1117103813820415) [(0, vs 0), (1, vs 1), (5, vi .i64 x_3), (29, vs 0), (30, vi .i64 x_3), (31, vp 6 0), (32, vp 6 1), (33, vb x_1130.Erase), (34, vs 1), (35, vi .i64 x_3), (36, vp 8 0), (37, vp 8 1), (38, vb x_1530.Erase), (39, vb (x_1130.Erase != x_1530.Erase)), (42, vs 0), (43, vi .i64 x_3), (44, vp 10 0), (45, vp 10 2), (46, vi .i64 x_6411.Offset), (47, vs 1), (48, vi .i64 x_3), (49, vp 12 0), (50, vp 12 2), (51, vi .i64 x_6811.Offset), (52, vb (x_6411.Offset != x_6811.Offset)), (54, vb (x_6411.Offset != x_6811.Offset)), (55, vs 0), (56, vi .i64 x_3), (57, vp 14 0), (58, vp 14 3), (59, vs 15), (61, vs 1), (62, vi .i64 x_3), (63, vp 16 0), (64, vp 16 3), (65, vs 17), (66, vt 18)] [.rd 4 R_T_api_Write a_1, .rd 4 R_T_api_Write b_2, .elt (some (0, x_3)) false (C_api_Write x_5 (.s 3)), .rd 1 R8 x_5.Bytes, .elt (some (1, x_3)) false (C_api_Write x_6 (.s 5)), .rd 1 R8 x_6.Bytes, .elt none false (C_api_Write x_1130 (.s 7)), .rd 1 R8 x_1130.Bytes, .elt none false (C_api_Write x_1530 (.s 9)), .rd 1 R8 x_1530.Bytes, .elt none false (C_api_Write x_6411 (.s 11)), .rd 1 R8 x_6411.Bytes, .elt none false (C_api_Write x_6811 (.s 13)), .rd 1 R8 x_6811.Bytes, .elt none false (C_api_Write x_11692 (.s 15)), .rd 1 R8 x_11692.Bytes, .elt none false (C_api_Write x_12172 (.s 17)), .rd 1 R8 x_12172.Bytes, .str (str x_12172.Bytes)] ?_ (fun c_8491_6 => ?_)
           · refine SD.all1 (i := 43) (by kernel_rfl) ?_
             refine SW.eff D_8 (i := 43) (bs' := (bm 52 1125899906842623)) rfl (.inr ⟨_, _, _, _, rfl, rfl, rfl, hg_8491⟩) rfl (e_b2s (l := x_11692.Bytes) tk rfl (.r (by kernel_rfl)) (by kernel_rfl)) (by kernel_rfl) rfl (by kernel_rfl) ?_
             exact SD.vie D_8 [.g 0, .g 1, .g 2, .g 3, .g 4, .g 5, .g 6, .g 7, .g 8, .g 9, .g 10, .g 11, .g 12, .g 13, .g 14, .g 15, .g 19, .g 16, .g 17, .g 18] c_8491_1 (by kernel_rfl)
           refine SD.lay 4 (bm 52 554153860399103) [(0, vs 0), (1, vs 1), (5, vi .i64 x_3), (29, vs 0), (30, vi .i64 x_3), (31, vp 6 0), (32, vp 6 1), (33, vb x_1130.Erase), (34, vs 1), (35, vi .i64 x_3), (36, vp 8 0), (37, vp 8 1), (38, vb x_1530.Erase), (39, vb (x_1130.Erase != x_1530.Erase)), (42, vs 0), (43, vi .i64 x_3), (44, vp 10 0), (45, vp 10 2), (46, vi .i64 x_6411.Offset), (47, vs 1), (48, vi .i64 x_3), (49, vp 12 0), (50, vp 12 2), (51, vi .i64 x_6811.Offset), (52, vb (x_6411.Offset != x_6811.Offset)), (54, vb (x_6411.Offset != x_6811.Offset)), (55, vs 0), (56, vi .i64 x_3), (57, vp 14 0), (58, vp 14 3), (59, vs 15), (61, vs 1), (62, vi .i64 x_3), (63, vp 16 0), (64, vp 16 3), (65, vs 17)] [.rd 4 R_T_api_Write a_1, .rd 4 R_T_api_Write b_2, .elt (some (0, x_3)) false (C_api_Write x_5 (.s 3)), .rd 1 R8 x_5.Bytes, .elt (some (1, x_3)) false (C_api_Write x_6 (.s 5)), .rd 1 R8 x_6.Bytes, .elt none false (C_api_Write x_1130 (.s 7)), .rd 1 R8 x_1130.Bytes, .elt none false (C_api_Write x_1530 (.s 9)), .rd 1 R8 x_1530.Bytes, .elt none false (C_api_Write x_6411 (.s 11)), .rd 1 R8 x_6411.Bytes, .elt none false (C_api_Write x_6811 (.s 13)), .rd 1 R8 x_6811.Bytes, .elt none false (C_api_Write x_11692 (.s 15)), .rd 1 R8 x_11692.Bytes, .elt none false (C_api_Write x_12172 (.s 17)), .rd 1 R8 x_12172.Bytes] ?_ (fun c_8491_7 => ?_)
           · refine SD.all2 (i := 43) (j := 49) (by kernel_rfl) ?_ ?_
             · refine SW.eff D_8 (i := 43) (bs' := (bm 52 562949953421311)) rfl (.inr ⟨_, _, _, _, rfl, rfl, rfl, hg_8491⟩) rfl (e_b2s (l := x_11692.Bytes) tk rfl (.r (by kernel_rfl)) (by kernel_rfl)) (by kernel_rfl) rfl (by kernel_rfl) ?_
               exact SD.vie D_8 [.g 0, .g 1, .g 2, .g 3, .g 4, .g 5, .g 6, .g 7, .g 8, .g 9, .g 10, .g 11, .g 12, .g 13, .g 14, .g 15, .g 18, .g 16, .g 17] c_8491_2 (by kernel_rfl)
             refine SW.eff D_8 (i := 49) (bs' := (bm 52 1117103813820415)) rfl (.inr ⟨_, _, _, _, rfl, rfl, rfl, hg_8491⟩) rfl (e_b2s (l := x_12172.Bytes) tk rfl (.r (by kernel_rfl)) (by kernel_rfl)) (by kernel_rfl) rfl (by kernel_rfl) ?_
             exact SD.vie D_8 [.g 0, .g 1, .g 2, .g 3, .g 4, .g 5, .g 6, .g 7, .g 8, .g 9, .g 10, .g 11, .g 12, .g 13, .g 14, .g 15, .g 16, .g 17, .g 18] c_8491_6 (by kernel_rfl)
           refine SD.lay 5 (bm 52 272678883688447) [(0, vs 0), (1, vs 1), (5, vi .i64 x_3), (29, vs 0), (30, vi .i64 x_3), (31, vp 6 0), (32, vp 6 1), (33, vb x_1130.Erase), (34, vs 1), (35, vi .i64 x_3), (36, vp 8 0), (37, vp 8 1), (38, vb x_1530.Erase), (39, vb (x_1130.Erase != x_1530.Erase)), (42, vs 0), (43, vi .i64 x_3), (44, vp 10 0), (45, vp 10 2), (46, vi .i64 x_6411.Offset), (47, vs 1), (48, vi .i64 x_3), (49, vp 12 0), (50, vp 12 2), (51, vi .i64 x_6811.Offset), (52, vb (x_6411.Offset != x_6811.Offset)), (54, vb (x_6411.Offset != x_6811.Offset)), (55, vs 0), (56, vi .i64 x_3), (57, vp 14 0), (58, vp 14 3), (59, vs 15), (61, vs 1), (62, vi .i64 x_3), (63, vp 16 0), (64, vp 16 3)] [.rd 4 R_T_api_Write a_1, .rd 4 R_T_api_Write b_2, .elt (some (0, x_3)) false (C_api_Write x_5 (.s 3)), .rd 1 R8 x_5.Bytes, .elt (some (1, x_3)) false (C_api_Write x_6 (.s 5)), .rd 1 R8 x_6.Bytes, .elt none false (C_api_Write x_1130 (.s 7)), .rd 1 R8 x_1130.Bytes, .elt none false (C_api_Write x_1530 (.s 9)), .rd 1 R8 x_1530.Bytes, .elt none false (C_api_Write x_6411 (.s 11)), .rd 1 R8 x_6411.Bytes, .elt none false (C_api_Write x_6811 (.s 13)), .rd 1 R8 x_6811.Bytes, .elt none false (C_api_Write x_11692 (.s 15)), .rd 1 R8 x_11692.Bytes, .elt none false (C_api_Write x_12172 (.s 17)), .rd 1 R8 x_12172.Bytes] ?_ (fun c_8491_8 => ?_)
           · refine SD.all2 (i := 43) (j := 48) (by kernel_rfl) ?_ ?_
             · refine SW.eff D_8 (i := 43) (bs' := (bm 52 281474976710655)) rfl (.inr ⟨_, _, _, _, rfl, rfl, rfl, hg_8491⟩) rfl (e_b2s (l := x_11692.Bytes) tk rfl (.r (by kernel_rfl)) (by kernel_rfl)) (by kernel_rfl) rfl (by kernel_rfl) ?_
               exact SD.vie D_8 [.g 0, .g 1, .g 2, .g 3, .g 4, .g 5, .g 6, .g 7, .g 8, .g 9, .g 10, .g 11, .g 12, .g 13, .g 14, .g 15, .g 18, .g 16, .g 17] c_8491_3 (by kernel_rfl)
             refine SW.eff D_8 (i := 48) (v := vs 17) (bs' := (bm 52 554153860399103)) rfl (.inr ⟨_, _, _, _, rfl, rfl, rfl, hg_8491⟩) rfl (e_val tk (by kernel_rfl)) (by kernel_rfl) rfl (by kernel_rfl) ?_
             exact SD.vie D_8 [.g 0, .g 1, .g 2, .g 3, .g 4, .g 5, .g 6, .g 7, .g 8, .g 9, .g 10, .g 11, .g 12, .g 13, .g 14, .g 15, .g 16, .g 17] c_8491_7 (by kernel_rfl)
           refine SD.lay 6 (bm 52 131941395333119) [(0, vs 0), (1, vs 1), (5, vi .i64 x_3), (29, vs 0), (30, vi .i64 x_3), (31, vp 6 0), (32, vp 6 1), (33, vb x_1130.Erase), (34, vs 1), (35, vi .i64 x_3), (36, vp 8 0), (37, vp 8 1), (38, vb x_1530.Erase), (39, vb (x_1130.Erase != x_1530.Erase)), (42, vs 0), (43, vi .i64 x_3), (44, vp 10 0), (45, vp 10 2), (46, vi .i64 x_6411.Offset), (47, vs 1), (48, vi .i64 x_3), (49, vp 12 0), (50, vp 12 2), (51, vi .i64 x_6811.Offset), (52, vb (x_6411.Offset != x_6811.Offset)), (54, vb (x_6411.Offset != x_6811.Offset)), (55, vs 0), (56, vi .i64 x_3), (57, vp 14 0), (58, vp 14 3), (59, vs 15), (61, vs 1), (62, vi .i64 x_3), (63, vp 16 0)] [.rd 4 R_T_api_Write a_1, .rd 4 R_T_api_Write b_2, .elt (some (0, x_3)) false (C_api_Write x_5 (.s 3)), .rd 1 R8 x_5.Bytes, .elt (some (1, x_3)) false (C_api_Write x_6 (.s 5)), .rd 1 R8 x_6.Bytes, .elt none false (C_api_Write x_1130 (.s 7)), .rd 1 R8 x_1130.Bytes, .elt none false (C_api_Write x_1530 (.s 9)), .rd 1 R8 x_1530.Bytes, .elt none false (C_api_Write x_6411 (.s 11)), .rd 1 R8 x_6411.Bytes, .elt none false (C_api_Write x_6811 (.s 13)), .rd 1 R8 x_6811.Bytes, .elt none false (C_api_Write x_11692 (.s 15)), .rd 1 R8 x_11692.Bytes, .elt none false (C_api_Write x_12172 (.s 17)), .rd 1 R8 x_12172.Bytes] ?_ (fun c_8491_9 => ?_)
           · refine SD.all2 (i := 43) (j := 47) (by kernel_rfl) ?_ ?_
             · refine SW.eff D_8 (i := 43) (bs' := (bm 52 140737488355327)) rfl (.inr ⟨_, _, _, _, rfl, rfl, rfl, hg_8491⟩) rfl (e_b2s (l := x_11692.Bytes) tk rfl (.r (by kernel_rfl)) (by kernel_rfl)) (by kernel_rfl) rfl (by kernel_rfl) ?_
               exact SD.vie D_8 [.g 0, .g 1, .g 2, .g 3, .g 4, .g 5, .g 6, .g 7, .g 8, .g 9, .g 10, .g 11, .g 12, .g 13, .g 14, .g 15, .g 18, .g 16, .g 17] c_8491_4 (by kernel_rfl)
             refine SW.eff D_8 (i := 47) (v := vp 16 3) (bs' := (bm 52 272678883688447)) rfl (.inr ⟨_, _, _, _, rfl, rfl, rfl, hg_8491⟩) rfl (e_val tk (by kernel_rfl)) (by kernel_rfl) rfl (by kernel_rfl) ?_
             exact SD.vie D_8 [.g 0, .g 1, .g 2, .g 3, .g 4, .g 5, .g 6, .g 7, .g 8, .g 9, .g 10, .g 11, .g 12, .g 13, .g 14, .g 15, .g 16, .g 17] c_8491_8 (by kernel_rfl)
           refine SD.lay 7 (bm 52 61572651155455) [(0, vs 0), (1, vs 1), (5, vi .i64 x_3), (29, vs 0), (30, vi .i64 x_3), (31, vp 6 0), (32, vp 6 1), (33, vb x_1130.Erase), (34, vs 1), (35, vi .i64 x_3), (36, vp 8 0), (37, vp 8 1), (38, vb x_1530.Erase), (39, vb (x_1130.Erase != x_1530.Erase)), (42, vs 0), (43, vi .i64 x_3), (44, vp 10 0), (45, vp 10 2), (46, vi .i64 x_6411.Offset), (47, vs 1), (48, vi .i64 x_3), (49, vp 12 0), (50, vp 12 2), (51, vi .i64 x_6811.Offset), (52, vb (x_6411.Offset != x_6811.Offset)), (54, vb (x_6411.Offset != x_6811.Offset)), (55, vs 0), (56, vi .i64 x_3), (57, vp 14 0), (58, vp 14 3), (59, vs 15), (61, vs 1), (62, vi .i64 x_3)] [.rd 4 R_T_api_Write a_1, .rd 4 R_T_api_Write b_2, .elt (some (0, x_3)) false (C_api_Write x_5 (.s 3)), .rd 1 R8 x_5.Bytes, .elt (some (1, x_3)) false (C_api_Write x_6 (.s 5)), .rd 1 R8 x_6.Bytes, .elt none false (C_api_Write x_1130 (.s 7)), .rd 1 R8 x_1130.Bytes, .elt none false (C_api_Write x_1530 (.s 9)), .rd 1 R8 x_1530.Bytes, .elt none false (C_api_Write x_6411 (.s 11)), .rd 1 R8 x_6411.Bytes, .elt none false (C_api_Write x_6811 (.s 13)), .rd 1 R8 x_6811.Bytes, .elt none false (C_api_Write x_11692 (.s 15)), .rd 1 R8 x_11692.Bytes] ?_ (fun c_8491_10 => ?_)
           · refine SD.all2 (i := 43) (j := 46) (by kernel_rfl) ?_ ?_
             · refine SW.eff D_8 (i := 43) (bs' := (bm 52 70368744177663)) rfl (.inr ⟨_, _, _, _, rfl, rfl, rfl, hg_8491⟩) rfl (e_b2s (l := x_11692.Bytes) tk rfl (.r (by kernel_rfl)) (by kernel_rfl)) (by kernel_rfl) rfl (by kernel_rfl) ?_
               exact SD.vie D_8 [.g 0, .g 1, .g 2, .g 3, .g 4, .g 5, .g 6, .g 7, .g 8, .g 9, .g 10, .g 11, .g 12, .g 13, .g 14, .g 15, .g 16] c_8491_5 (by kernel_rfl)
             refine SW.pre (pre_ix (i := 1) (iv := x_3) (sz := 4) (R := R_T_api_Write) (l := b_2) (by kernel_rfl) rfl e_x_12172) ?_
             refine SW.eff D_8 (i := 46) (v := vp 16 0) (bs' := (bm 52 131941395333119)) rfl (.inr ⟨_, _, _, _, rfl, rfl, rfl, hg_8491⟩) rfl (e_valE tk (.el 16) [x_3] (by kernel_rfl)) (by kernel_rfl) rfl (by kernel_rfl) ?_
             exact SD.vie D_8 [.g 0, .g 1, .g 2, .g 3, .g 4, .g 5, .g 6, .g 7, .g 8, .g 9, .g 10, .g 11, .g 12, .g 13, .g 14, .g 15, .g 16, .g 17] c_8491_9 (by kernel_rfl)
           refine SD.lay 4 (bm 52 1112705767309311) [(0, vs 0), (1, vs 1), (5, vi .i64 x_3), (29, vs 0), (30, vi .i64 x_3), (31, vp 6 0), (32, vp 6 1), (33, vb x_1130.Erase), (34, vs 1), (35, vi .i64 x_3), (36, vp 8 0), (37, vp 8 1), (38, vb x_1530.Erase), (39, vb (x_1130.Erase != x_1530.Erase)), (42, vs 0), (43, vi .i64 x_3), (44, vp 10 0), (45, vp 10 2), (46, vi .i64 x_6411.Offset), (47, vs 1), (48, vi .i64 x_3), (49, vp 12 0), (50, vp 12 2), (51, vi .i64 x_6811.Offset), (52, vb (x_6411.Offset != x_6811.Offset)), (54, vb (x_6411.Offset != x_6811.Offset)), (55, vs 0), (56, vi .i64 x_3), (57, vp 14 0), (58, vp 14 3), (61, vs 1), (62, vi .i64 x_3), (63, vp 16 0), (64, vp 16 3), (65, vs 17), (66, vt 18)] [.rd 4 R_T_api_Write a_1, .rd 4 R_T_api_Write b_2, .elt (some (0, x_3)) false (C_api_Write x_5 (.s 3)), .rd 1 R8 x_5.Bytes, .elt (some (1, x_3)) false (C_api_Write x_6 (.s 5)), .rd 1 R8 x_6.Bytes, .elt none false (C_api_Write x_1130 (.s 7)), .rd 1 R8 x_1130.Bytes, .elt none false (C_api_Write x_1530 (.s 9)), .rd 1 R8 x_1530.Bytes, .elt none false (C_api_Write x_6411 (.s 11)), .rd 1 R8 x_6411.Bytes, .elt none false (C_api_Write x_6811 (.s 13)), .rd 1 R8 x_6811.Bytes, .elt none false (C_api_Write x_11692 (.s 15)), .rd 1 R8 x_11692.Bytes, .elt none false (C_api_Write x_12172 (.s 17)), .rd 1 R8 x_12172.Bytes, .str (str x_12172.Bytes)] ?_ (fun c_8491_11 => ?_)
           · refine SD.all1 (i := 42) (by kernel_rfl) ?_
             refine SW.eff D_8 (i := 42) (v := vs 15) (bs' := (bm 52 1117103813820415)) rfl (.inr ⟨_, _, _, _, rfl, rfl, rfl, hg_8491⟩) rfl (e_val tk (by kernel_rfl)) (by kernel_rfl) rfl (by kernel_rfl) ?_
             exact SD.vie D_8 [.g 0, .g 1, .g 2, .g 3, .g 4, .g 5, .g 6, .g 7, .g 8, .g 9, .g 10, .g 11, .g 12, .g 13, .g 14, .g 15, .g 16, .g 17, .g 18] c_8491_6 (by kernel_rfl)
           refine SD.lay 5 (bm 52 549755813887999) [(0, vs 0), (1, vs 1), (5, vi .i64 x_3), (29, vs 0), (30, vi .i64 x_3), (31, vp 6 0), (32, vp 6 1), (33, vb x_1130.Erase), (34, vs 1), (35, vi .i64 x_3), (36, vp 8 0), (37, vp 8 1), (38, vb x_1530.Erase), (39, vb (x_1130.Erase != x_1530.Erase)), (42, vs 0), (43, vi .i64 x_3), (44, vp 10 0), (45, vp 10 2), (46, vi .i64 x_6411.Offset), (47, vs 1), (48, vi .i64 x_3), (49, vp 12 0), (50, vp 12 2), (51, vi .i64 x_6811.Offset), (52, vb (x_6411.Offset != x_6811.Offset)), (54, vb (x_6411.Offset != x_6811.Offset)), (55, vs 0), (56, vi .i64 x_3), (57, vp 14 0), (58, vp 14 3), (61, vs 1), (62, vi .i64 x_3), (63, vp 16 0), (64, vp 16 3), (65, vs 17)] [.rd 4 R_T_api_Write a_1, .rd 4 R_T_api_Write b_2, .elt (some (0, x_3)) false (C_api_Write x_5 (.s 3)), .rd 1 R8 x_5.Bytes, .elt (some (1, x_3)) false (C_api_Write x_6 (.s 5)), .rd 1 R8 x_6.Bytes, .elt none false (C_api_Write x_1130 (.s 7)), .rd 1 R8 x_1130.Bytes, .elt none false (C_api_Write x_1530 (.s 9)), .rd 1 R8 x_1530.Bytes, .elt none false (C_api_Write x_6411 (.s 11)), .rd 1 R8 x_6411.Bytes, .elt none false (C_api_Write x_6811 (.s 13)), .rd 1 R8 x_6811.Bytes, .elt none false (C_api_Write x_11692 (.s 15)), .rd 1 R8 x_11692.Bytes, .elt none false (C_api_Write x_12172 (.s 17)), .rd 1 R8 x_12172.Bytes] ?_ (fun c_8491_12 => ?_)
           · refine SD.all2 (i := 42) (j := 49) (by kernel_rfl) ?_ ?_
             · refine SW.eff D_8 (i := 42) (v := vs 15) (bs' := (bm 52 554153860399103)) rfl (.inr ⟨_, _, _, _, rfl, rfl, rfl, hg_8491⟩) rfl (e_val tk (by kernel_rfl)) (by kernel_rfl) rfl (by kernel_rfl) ?_
               exact SD.vie D_8 [.g 0, .g 1, .g 2, .g 3, .g 4, .g 5, .g 6, .g 7, .g 8, .g 9, .g 10, .g 11, .g 12, .g 13, .g 14, .g 15, .g 16, .g 17] c_8491_7 (by kernel_rfl)
             refine SW.eff D_8 (i := 49) (bs' := (bm 52 1112705767309311)) rfl (.inr ⟨_, _, _, _, rfl, rfl, rfl, hg_8491⟩) rfl (e_b2s (l := x_12172.Bytes) tk rfl (.r (by kernel_rfl)) (by kernel_rfl)) (by kernel_rfl) rfl (by kernel_rfl) ?_
             exact SD.vie D_8 [.g 0, .g 1, .g 2, .g 3, .g 4, .g 5, .g 6, .g 7, .g 8, .g 9, .g 10, .g 11, .g 12, .g 13, .g 14, .g 15, .g 16, .g 17, .g 18] c_8491_11 (by kernel_rfl)
           refine SD.lay 6 (bm 52 268280837177343) [(0, vs 0), (1, vs 1), (5, vi .i64 x_3), (29, vs 0), (30, vi .i64 x_3), (31, vp 6 0), (32, vp 6 1), (33, vb x_1130.Erase), (34, vs 1), (35, vi .i64 x_3), (36, vp 8 0), (37, vp 8 1), (38, vb x_1530.Erase), (39, vb (x_1130.Erase != x_1530.Erase)), (42, vs 0), (43, vi .i64 x_3), (44, vp 10 0), (45, vp 10 2), (46, vi .i64 x_6411.Offset), (47, vs 1), (48, vi .i64 x_3), (49, vp 12 0), (50, vp 12 2), (51, vi .i64 x_6811.Offset), (52, vb (x_6411.Offset != x_6811.Offset)), (54, vb (x_6411.Offset != x_6811.Offset)), (55, vs 0), (56, vi .i64 x_3), (57, vp 14 0), (58, vp 14 3), (61, vs 1), (62, vi .i64 x_3), (63, vp 16 0), (64, vp 16 3)] [.rd 4 R_T_api_Write a_1, .rd 4 R_T_api_Write b_2, .elt (some (0, x_3)) false (C_api_Write x_5 (.s 3)), .rd 1 R8 x_5.Bytes, .elt (some (1, x_3)) false (C_api_Write x_6 (.s 5)), .rd 1 R8 x_6.Bytes, .elt none false (C_api_Write x_1130 (.s 7)), .rd 1 R8 x_1130.Bytes, .elt none false (C_api_Write x_1530 (.s 9)), .rd 1 R8 x_1530.Bytes, .elt none false (C_api_Write x_6411 (.s 11)), .rd 1 R8 x_6411.Bytes, .elt none false (C_api_Write x_6811 (.s 13)), .rd 1 R8 x_6811.Bytes, .elt none false (C_api_Write x_11692 (.s 15)), .rd 1 R8 x_11692.Bytes, .elt none false (C_api_Write x_12172 (.s 17)), .rd 1 R8 x_12172.Bytes] ?_ (fun c_8491_13 => ?_)
           · refine SD.all2 (i := 42) (j := 48) (by kernel_rfl) ?_ ?_
             · refine SW.eff D_8 (i := 42) (v := vs 15) (bs' := (bm 52 272678883688447)) rfl (.inr ⟨_, _, _, _, rfl, rfl, rfl, hg_8491⟩) rfl (e_val tk (by kernel_rfl)) (by kernel_rfl) rfl (by kernel_rfl) ?_
               exact SD.vie D_8 [.g 0, .g 1, .g 2, .g 3, .g 4, .g 5, .g 6, .g 7, .g 8, .g 9, .g 10, .g 11, .g 12, .g 13, .g 14, .g 15, .g 16, .g 17] c_8491_8 (by kernel_rfl)
             refine SW.eff D_8 (i := 48) (v := vs 17) (bs' := (bm 52 549755813887999)) rfl (.inr ⟨_, _, _, _, rfl, rfl, rfl, hg_8491⟩) rfl (e_val tk (by kernel_rfl)) (by kernel_rfl) rfl (by kernel_rfl) ?_
             exact SD.vie D_8 [.g 0, .g 1, .g 2, .g 3, .g 4, .g 5, .g 6, .g 7, .g 8, .g 9, .g 10, .g 11, .g 12, .g 13, .g 14, .g 15, .g 16, .g 17] c_8491_12 (by kernel_rfl)
           refine SD.lay 7 (bm 52 127543348822015) [(0, vs 0), (1, vs 1), (5, vi .i64 x_3), (29, vs 0), (30, vi .i64 x_3), (31, vp 6 0), (32, vp 6 1), (33, vb x_1130.Erase), (34, vs 1), (35, vi .i64 x_3), (36, vp 8 0), (37, vp 8 1), (38, vb x_1530.Erase), (39, vb (x_1130.Erase != x_1530.Erase)), (42, vs 0), (43, vi .i64 x_3), (44, vp 10 0), (45, vp 10 2), (46, vi .i64 x_6411.Offset), (47, vs 1), (48, vi .i64 x_3), (49, vp 12 0), (50, vp 12 2), (51, vi .i64 x_6811.Offset), (52, vb (x_6411.Offset != x_6811.Offset)), (54, vb (x_6411.Offset != x_6811.Offset)), (55, vs 0), (56, vi .i64 x_3), (57, vp 14 0), (58, vp 14 3), (61, vs 1), (62, vi .i64 x_3), (63, vp 16 0)] [.rd 4 R_T_api_Write a_1, .rd 4 R_T_api_Write b_2, .elt (some (0, x_3)) false (C_api_Write x_5 (.s 3)), .rd 1 R8 x_5.Bytes, .elt (some (1, x_3)) false (C_api_Write x_6 (.s 5)), .rd 1 R8 x_6.Bytes, .elt none false (C_api_Write x_1130 (.s 7)), .rd 1 R8 x_1130.Bytes, .elt none false (C_api_Write x_1530 (.s 9)), .rd 1 R8 x_1530.Bytes, .elt none false (C_api_Write x_6411 (.s 11)), .rd 1 R8 x_6411.Bytes, .elt none false (C_api_Write x_6811 (.s 13)), .rd 1 R8 x_6811.Bytes, .elt none false (C_api_Write x_11692 (.s 15)), .rd 1 R8 x_11692.Bytes, .elt none false (C_api_Write x_12172 (.s 17)), .rd 1 R8 x_12172.Bytes] ?_ (fun c_8491_14 => ?_)
           · refine SD.all2 (i := 42) (j := 47) (by kernel_rfl) ?_ ?_
             · refine SW.eff D_8 (i := 42) (v := vs 15) (bs' := (bm 52 131941395333119)) rfl (.inr ⟨_, _, _, _, rfl, rfl, rfl, hg_8491⟩) rfl (e_val tk (by kernel_rfl)) (by kernel_rfl) rfl (by kernel_rfl) ?_
               exact SD.vie D_8 [.g 0, .g 1, .g 2, .g 3, .g 4, .g 5, .g 6, .g 7, .g 8, .g 9, .g 10, .g 11, .g 12, .g 13, .g 14, .g 15, .g 16, .g 17] c_8491_9 (by kernel_rfl)
             refine SW.eff D_8 (i := 47) (v := vp 16 3) (bs' := (bm 52 268280837177343)) rfl (.inr ⟨_, _, _, _, rfl, rfl, rfl, hg_8491⟩) rfl (e_val tk (by kernel_rfl)) (by kernel_rfl) rfl (by kernel_rfl) ?_
             exact SD.vie D_8 [.g 0, .g 1, .g 2, .g 3, .g 4, .g 5, .g 6, .g 7, .g 8, .g 9, .g 10, .g 11, .g 12, .g 13, .g 14, .g 15, .g 16, .g 17] c_8491_13 (by kernel_rfl)
           refine SD.lay 8 (bm 52 57174604644351) [(0, vs 0), (1, vs 1), (5, vi .i64 x_3), (29, vs 0), (30, vi .i64 x_3), (31, vp 6 0), (32, vp 6 1), (33, vb x_1130.Erase), (34, vs 1), (35, vi .i64 x_3), (36, vp 8 0), (37, vp 8 1), (38, vb x_1530.Erase), (39, vb (x_1130.Erase != x_1530.Erase)), (42, vs 0), (43, vi .i64 x_3), (44, vp 10 0), (45, vp 10 2), (46, vi .i64 x_6411.Offset), (47, vs 1), (48, vi .i64 x_3), (49, vp 12 0), (50, vp 12 2), (51, vi .i64 x_6811.Offset), (52, vb (x_6411.Offset != x_6811.Offset)), (54, vb (x_6411.Offset != x_6811.Offset)), (55, vs 0), (56, vi .i64 x_3), (57, vp 14 0), (58, vp 14 3), (61, vs 1), (62, vi .i64 x_3)] [.rd 4 R_T_api_Write a_1, .rd 4 R_T_api_Write b_2, .elt (some (0, x_3)) false (C_api_Write x_5 (.s 3)), .rd 1 R8 x_5.Bytes, .elt (some (1, x_3)) false (C_api_Write x_6 (.s 5)), .rd 1 R8 x_6.Bytes, .elt none false (C_api_Write x_1130 (.s 7)), .rd 1 R8 x_1130.Bytes, .elt none false (C_api_Write x_1530 (.s 9)), .rd 1 R8 x_1530.Bytes, .elt none false (C_api_Write x_6411 (.s 11)), .rd 1 R8 x_6411.Bytes, .elt none false (C_api_Write x_6811 (.s 13)), .rd 1 R8 x_6811.Bytes, .elt none false (C_api_Write x_11692 (.s 15)), .rd 1 R8 x_11692.Bytes] ?_ (fun c_8491_15 => ?_)
           · refine SD.all2 (i := 42) (j := 46) (by kernel_rfl) ?_ ?_
             · refine SW.eff D_8 (i := 42) (v := vs 15) (bs' := (bm 52 61572651155455)) rfl (.inr ⟨_, _, _, _, rfl, rfl, rfl, hg_8491⟩) rfl (e_val tk (by kernel_rfl)) (by kernel_rfl) rfl (by kernel_rfl) ?_
               exact SD.vie D_8 [.g 0, .g 1, .g 2, .g 3, .g 4, .g 5, .g 6, .g 7, .g 8, .g 9, .g 10, .g 11, .g 12, .g 13, .g 14, .g 15] c_8491_10 (by kernel_rfl)
             refine SW.pre (pre_ix (i := 1) (iv := x_3) (sz := 4) (R := R_T_api_Write) (l := b_2) (by kernel_rfl) rfl e_x_12172) ?_
             refine SW.eff D_8 (i := 46) (v := vp 16 0) (bs' := (bm 52 127543348822015)) rfl (.inr ⟨_, _, _, _, rfl, rfl, rfl, hg_8491⟩) rfl (e_valE tk (.el 16) [x_3] (by kernel_rfl)) (by kernel_rfl) rfl (by kernel_rfl) ?_
             exact SD.vie D_8 [.g 0, .g 1, .g 2, .g 3, .g 4, .g 5, .g 6, .g 7, .g 8, .g 9, .g 10, .g 11, .g 12, .g 13, .g 14, .g 15, .g 16, .g 17] c_8491_14 (by kernel_rfl)
           refine SD.lay 5 (bm 52 1110506744053759) [(0, vs 0), (1, vs 1), (5, vi .i64 x_3), (29, vs 0), (30, vi .i64 x_3), (31, vp 6 0), (32, vp 6 1), (33, vb x_1130.Erase), (34, vs 1), (35, vi .i64 x_3), (36, vp 8 0), (37, vp 8 1), (38, vb x_1530.Erase), (39, vb (x_1130.Erase != x_1530.Erase)), (42, vs 0), (43, vi .i64 x_3), (44, vp 10 0), (45, vp 10 2), (46, vi .i64 x_6411.Offset), (47, vs 1), (48, vi .i64 x_3), (49, vp 12 0), (50, vp 12 2), (51, vi .i64 x_6811.Offset), (52, vb (x_6411.Offset != x_6811.Offset)), (54, vb (x_6411.Offset != x_6811.Offset)), (55, vs 0), (56, vi .i64 x_3), (57, vp 14 0), (61, vs 1), (62, vi .i64 x_3), (63, vp 16 0), (64, vp 16 3), (65, vs 17), (66, vt 18)] [.rd 4 R_T_api_Write a_1, .rd 4 R_T_api_Write b_2, .elt (some (0, x_3)) false (C_api_Write x_5 (.s 3)), .rd 1 R8 x_5.Bytes, .elt (some (1, x_3)) false (C_api_Write x_6 (.s 5)), .rd 1 R8 x_6.Bytes, .elt none false (C_api_Write x_1130 (.s 7)), .rd 1 R8 x_1130.Bytes, .elt none false (C_api_Write x_1530 (.s 9)), .rd 1 R8 x_1530.Bytes, .elt none false (C_api_Write x_6411 (.s 11)), .rd 1 R8 x_6411.Bytes, .elt none false (C_api_Write x_6811 (.s 13)), .rd 1 R8 x_6811.Bytes, .elt none false (C_api_Write x_11692 (.s 15)), .rd 1 R8 x_11692.Bytes, .elt none false (C_api_Write x_12172 (.s 17)), .rd 1 R8 x_12172.Bytes, .str (str x_12172.Bytes)] ?_ (fun c_8491_16 => ?_)
           · refine SD.all1 (i := 41) (by kernel_rfl) ?_
             refine SW.eff D_8 (i := 41) (v := vp 14 3) (bs' := (bm 52 1112705767309311)) rfl (.inr ⟨_, _, _, _, rfl, rfl, rfl, hg_8491⟩) rfl (e_val tk (by kernel_rfl)) (by kernel_rfl) rfl (by kernel_rfl) ?_
             exact SD.vie D_8 [.g 0, .g 1, .g 2, .g 3, .g 4, .g 5, .g 6, .g 7, .g 8, .g 9, .g 10, .g 11, .g 12, .g 13, .g 14, .g 15, .g 16, .g 17, .g 18] c_8491_11 (by kernel_rfl)
           refine SD.lay 6 (bm 52 547556790632447) [(0, vs 0), (1, vs 1), (5, vi .i64 x_3), (29, vs 0), (30, vi .i64 x_3), (31, vp 6 0), (32, vp 6 1), (33, vb x_1130.Erase), (34, vs 1), (35, vi .i64 x_3), (36, vp 8 0), (37, vp 8 1), (38, vb x_1530.Erase), (39, vb (x_1130.Erase != x_1530.Erase)), (42, vs 0), (43, vi .i64 x_3), (44, vp 10 0), (45, vp 10 2), (46, vi .i64 x_6411.Offset), (47, vs 1), (48, vi .i64 x_3), (49, vp 12 0), (50, vp 12 2), (51, vi .i64 x_6811.Offset), (52, vb (x_6411.Offset != x_6811.Offset)), (54, vb (x_6411.Offset != x_6811.Offset)), (55, vs 0), (56, vi .i64 x_3), (57, vp 14 0), (61, vs 1), (62, vi .i64 x_3), (63, vp 16 0), (64, vp 16 3), (65, vs 17)] [.rd 4 R_T_api_Write a_1, .rd 4 R_T_api_Write b_2, .elt (some (0, x_3)) false (C_api_Write x_5 (.s 3)), .rd 1 R8 x_5.Bytes, .elt (some (1, x_3)) false (C_api_Write x_6 (.s 5)), .rd 1 R8 x_6.Bytes, .elt none false (C_api_Write x_1130 (.s 7)), .rd 1 R8 x_1130.Bytes, .elt none false (C_api_Write x_1530 (.s 9)), .rd 1 R8 x_1530.Bytes, .elt none false (C_api_Write x_6411 (.s 11)), .rd 1 R8 x_6411.Bytes, .elt none false (C_api_Write x_6811 (.s 13)), .rd 1 R8 x_6811.Bytes, .elt none false (C_api_Write x_11692 (.s 15)), .rd 1 R8 x_11692.Bytes, .elt none false (C_api_Write x_12172 (.s 17)), .rd 1 R8 x_12172.Bytes] ?_ (fun c_8491_17 => ?_)
           · refine SD.all2 (i := 41) (j := 49) (by kernel_rfl) ?_ ?_
             · refine SW.eff D_8 (i := 41) (v := vp 14 3) (bs' := (bm 52 549755813887999)) rfl (.inr ⟨_, _, _, _, rfl, rfl, rfl, hg_8491⟩) rfl (e_val tk (by kernel_rfl)) (by kernel_rfl) rfl (by kernel_rfl) ?_
               exact SD.vie D_8 [.g 0, .g 1, .g 2, .g 3, .g 4, .g 5, .g 6, .g 7, .g 8, .g 9, .g 10, .g 11, .g 12, .g 13, .g 14, .g 15, .g 16, .g 17] c_8491_12 (by kernel_rfl)
             refine SW.eff D_8 (i := 49) (bs' := (bm 52 1110506744053759)) rfl (.inr ⟨_, _, _, _, rfl, rfl, rfl, hg_8491⟩) rfl (e_b2s (l := x_12172.Bytes) tk rfl (.r (by kernel_rfl)) (by kernel_rfl)) (by kernel_rfl) rfl (by kernel_rfl) ?_
             exact SD.vie D_8 [.g 0, .g 1, .g 2, .g 3, .g 4, .g 5, .g 6, .g 7, .g 8, .g 9, .g 10, .g 11, .g 12, .g 13, .g 14, .g 15, .g 16, .g 17, .g 18] c_8491_16 (by kernel_rfl)
           refine SD.lay 7 (bm 52 266081813921791) [(0, vs 0), (1, vs 1), (5, vi .i64 x_3), (29, vs 0), (30, vi .i64 x_3), (31, vp 6 0), (32, vp 6 1), (33, vb x_1130.Erase), (34, vs 1), (35, vi .i64 x_3), (36, vp 8 0), (37, vp 8 1), (38, vb x_1530.Erase), (39, vb (x_1130.Erase != x_1530.Erase)), (42, vs 0), (43, vi .i64 x_3), (44, vp 10 0), (45, vp 10 2), (46, vi .i64 x_6411.Offset), (47, vs 1), (48, vi .i64 x_3), (49, vp 12 0), (50, vp 12 2), (51, vi .i64 x_6811.Offset), (52, vb (x_6411.Offset != x_6811.Offset)), (54, vb (x_6411.Offset != x_6811.Offset)), (55, vs 0), (56, vi .i64 x_3), (57, vp 14 0), (61, vs 1), (62, vi .i64 x_3), (63, vp 16 0), (64, vp 16 3)] [.rd 4 R_T_api_Write a_1, .rd 4 R_T_api_Write b_2, .elt (some (0, x_3)) false (C_api_Write x_5 (.s 3)), .rd 1 R8 x_5.Bytes, .elt (some (1, x_3)) false (C_api_Write x_6 (.s 5)), .rd 1 R8 x_6.Bytes, .elt none false (C_api_Write x_1130 (.s 7)), .rd 1 R8 x_1130.Bytes, .elt none false (C_api_Write x_1530 (.s 9)), .rd 1 R8 x_1530.Bytes, .elt none false (C_api_Write x_6411 (.s 11)), .rd 1 R8 x_6411.Bytes, .elt none false (C_api_Write x_6811 (.s 13)), .rd 1 R8 x_6811.Bytes, .elt none false (C_api_Write x_11692 (.s 15)), .rd 1 R8 x_11692.Bytes, .elt none false (C_api_Write x_12172 (.s 17)), .rd 1 R8 x_12172.Bytes] ?_ (fun c_8491_18 => ?_)
           · refine SD.all2 (i := 41) (j := 48) (by kernel_rfl) ?_ ?_
             · refine SW.eff D_8 (i := 41) (v := vp 14 3) (bs' := (bm 52 268280837177343)) rfl (.inr ⟨_, _, _, _, rfl, rfl, rfl, hg_8491⟩) rfl (e_val tk (by kernel_rfl)) (by kernel_rfl) rfl (by kernel_rfl) ?_
               exact SD.vie D_8 [.g 0, .g 1, .g 2, .g 3, .g 4, .g 5, .g 6, .g 7, .g 8, .g 9, .g 10, .g 11, .g 12, .g 13, .g 14, .g 15, .g 16, .g 17] c_8491_13 (by kernel_rfl)
             refine SW.eff D_8 (i := 48) (v := vs 17) (bs' := (bm 52 547556790632447)) rfl (.inr ⟨_, _, _, _, rfl, rfl, rfl, hg_8491⟩) rfl (e_val tk (by kernel_rfl)) (by kernel_rfl) rfl (by kernel_rfl) ?_
             exact SD.vie D_8 [.g 0, .g 1, .g 2, .g 3, .g 4, .g 5, .g 6, .g 7, .g 8, .g 9, .g 10, .g 11, .g 12, .g 13, .g 14, .g 15, .g 16, .g 17] c_8491_17 (by kernel_rfl)
           refine SD.lay 8 (bm 52 125344325566463) [(0, vs 0), (1, vs 1), (5, vi .i64 x_3), (29, vs 0), (30, vi .i64 x_3), (31, vp 6 0), (32, vp 6 1), (33, vb x_1130.Erase), (34, vs 1), (35, vi .i64 x_3), (36, vp 8 0), (37, vp 8 1), (38, vb x_1530.Erase), (39, vb (x_1130.Erase != x_1530.Erase)), (42, vs 0), (43, vi .i64 x_3), (44, vp 10 0), (45, vp 10 2), (46, vi .i64 x_6411.Offset), (47, vs 1), (48, vi .i64 x_3), (49, vp 12 0), (50, vp 12 2), (51, vi .i64 x_6811.Offset), (52, vb (x_6411.Offset != x_6811.Offset)), (54, vb (x_6411.Offset != x_6811.Offset)), (55, vs 0), (56, vi .i64 x_3), (57, vp 14 0), (61, vs 1), (62, vi .i64 x_3), (63, vp 16 0)] [.rd 4 R_T_api_Write a_1, .rd 4 R_T_api_Write b_2, .elt (some (0, x_3)) false (C_api_Write x_5 (.s 3)), .rd 1 R8 x_5.Bytes, .elt (some (1, x_3)) false (C_api_Write x_6 (.s 5)), .rd 1 R8 x_6.Bytes, .elt none false (C_api_Write x_1130 (.s 7)), .rd 1 R8 x_1130.Bytes, .elt none false (C_api_Write x_1530 (.s 9)), .rd 1 R8 x_1530.Bytes, .elt none false (C_api_Write x_6411 (.s 11)), .rd 1 R8 x_6411.Bytes, .elt none false (C_api_Write x_6811 (.s 13)), .rd 1 R8 x_6811.Bytes, .elt none false (C_api_Write x_11692 (.s 15)), .rd 1 R8 x_11692.Bytes, .elt none false (C_api_Write x_12172 (.s 17)), .rd 1 R8 x_12172.Bytes] ?_ (fun c_8491_19 => ?_)
           · refine SD.all2 (i := 41) (j := 47) (by kernel_rfl) ?_ ?_
             · refine SW.eff D_8 (i := 41) (v := vp 14 3) (bs' := (bm 52 127543348822015)) rfl (.inr ⟨_, _, _, _, rfl, rfl, rfl, hg_8491⟩) rfl (e_val tk (by kernel_rfl)) (by kernel_rfl) rfl (by kernel_rfl) ?_
               exact SD.vie D_8 [.g 0, .g 1, .g 2, .g 3, .g 4, .g 5, .g 6, .g 7, .g 8, .g 9, .g 10, .g 11, .g 12, .g 13, .g 14, .g 15, .g 16, .g 17] c_8491_14 (by kernel_rfl)
             refine SW.eff D_8 (i := 47) (v := vp 16 3) (bs' := (bm 52 266081813921791)) rfl (.inr ⟨_, _, _, _, rfl, rfl, rfl, hg_8491⟩) rfl (e_val tk (by kernel_rfl)) (by kernel_rfl) rfl (by kernel_rfl) ?_
             exact SD.vie D_8 [.g 0, .g 1, .g 2, .g 3, .g 4, .g 5, .g 6, .g 7, .g 8, .g 9, .g 10, .g 11, .g 12, .g 13, .g 14, .g 15, .g 16, .g 17] c_8491_18 (by kernel_rfl)
           refine SD.lay 9 (bm 52 54975581388799) [(0, vs 0), (1, vs 1), (5, vi .i64 x_3), (29, vs 0), (30, vi .i64 x_3), (31, vp 6 0), (32, vp 6 1), (33, vb x_1130.Erase), (34, vs 1), (35, vi .i64 x_3), (36, vp 8 0), (37, vp 8 1), (38, vb x_1530.Erase), (39, vb (x_1130.Erase != x_1530.Erase)), (42, vs 0), (43, vi .i64 x_3), (44, vp 10 0), (45, vp 10 2), (46, vi .i64 x_6411.Offset), (47, vs 1), (48, vi .i64 x_3), (49, vp 12 0), (50, vp 12 2), (51, vi .i64 x_6811.Offset), (52, vb (x_6411.Offset != x_6811.Offset)), (54, vb (x_6411.Offset != x_6811.Offset)), (55, vs 0), (56, vi .i64 x_3), (57, vp 14 0), (61, vs 1), (62, vi .i64 x_3)] [.rd 4 R_T_api_Write a_1, .rd 4 R_T_api_Write b_2, .elt (some (0, x_3)) false (C_api_Write x_5 (.s 3)), .rd 1 R8 x_5.Bytes, .elt (some (1, x_3)) false (C_api_Write x_6 (.s 5)), .rd 1 R8 x_6.Bytes, .elt none false (C_api_Write x_1130 (.s 7)), .rd 1 R8 x_1130.Bytes, .elt none false (C_api_Write x_1530 (.s 9)), .rd 1 R8 x_1530.Bytes, .elt none false (C_api_Write x_6411 (.s 11)), .rd 1 R8 x_6411.Bytes, .elt none false (C_api_Write x_6811 (.s 13)), .rd 1 R8 x_6811.Bytes, .elt none false (C_api_Write x_11692 (.s 15)), .rd 1 R8 x_11692.Bytes] ?_ (fun c_8491_20 => ?_)
           · refine SD.all2 (i := 41) (j := 46) (by kernel_rfl) ?_ ?_
             · refine SW.eff D_8 (i := 41) (v := vp 14 3) (bs' := (bm 52 57174604644351)) rfl (.inr ⟨_, _, _, _, rfl, rfl, rfl, hg_8491⟩) rfl (e_val tk (by kernel_rfl)) (by kernel_rfl) rfl (by kernel_rfl) ?_
               exact SD.vie D_8 [.g 0, .g 1, .g 2, .g 3, .g 4, .g 5, .g 6, .g 7, .g 8, .g 9, .g 10, .g 11, .g 12, .g 13, .g 14, .g 15] c_8491_15 (by kernel_rfl)
             refine SW.pre (pre_ix (i := 1) (iv := x_3) (sz := 4) (R := R_T_api_Write) (l := b_2) (by kernel_rfl) rfl e_x_12172) ?_
             refine SW.eff D_8 (i := 46) (v := vp 16 0) (bs' := (bm 52 125344325566463)) rfl (.inr ⟨_, _, _, _, rfl, rfl, rfl, hg_8491⟩) rfl (e_valE tk (.el 16) [x_3] (by kernel_rfl)) (by kernel_rfl) rfl (by kernel_rfl) ?_
             exact SD.vie D_8 [.g 0, .g 1, .g 2, .g 3, .g 4, .g 5, .g 6, .g 7, .g 8, .g 9, .g 10, .g 11, .g 12, .g 13, .g 14, .g 15, .g 16, .g 17] c_8491_19 (by kernel_rfl)
           refine SD.lay 6 (bm 52 1109407232425983) [(0, vs 0), (1, vs 1), (5, vi .i64 x_3), (29, vs 0), (30, vi .i64 x_3), (31, vp 6 0), (32, vp 6 1), (33, vb x_1130.Erase), (34, vs 1), (35, vi .i64 x_3), (36, vp 8 0), (37, vp 8 1), (38, vb x_1530.Erase), (39, vb (x_1130.Erase != x_1530.Erase)), (42, vs 0), (43, vi .i64 x_3), (44, vp 10 0), (45, vp 10 2), (46, vi .i64 x_6411.Offset), (47, vs 1), (48, vi .i64 x_3), (49, vp 12 0), (50, vp 12 2), (51, vi .i64 x_6811.Offset), (52, vb (x_6411.Offset != x_6811.Offset)), (54, vb (x_6411.Offset != x_6811.Offset)), (55, vs 0), (56, vi .i64 x_3), (61, vs 1), (62, vi .i64 x_3), (63, vp 14 0), (64, vp 14 3), (65, vs 15), (66, vt 16)] [.rd 4 R_T_api_Write a_1, .rd 4 R_T_api_Write b_2, .elt (some (0, x_3)) false (C_api_Write x_5 (.s 3)), .rd 1 R8 x_5.Bytes, .elt (some (1, x_3)) false (C_api_Write x_6 (.s 5)), .rd 1 R8 x_6.Bytes, .elt none false (C_api_Write x_1130 (.s 7)), .rd 1 R8 x_1130.Bytes, .elt none false (C_api_Write x_1530 (.s 9)), .rd 1 R8 x_1530.Bytes, .elt none false (C_api_Write x_6411 (.s 11)), .rd 1 R8 x_6411.Bytes, .elt none false (C_api_Write x_6811 (.s 13)), .rd 1 R8 x_6811.Bytes, .elt none false (C_api_Write x_12172 (.s 15)), .rd 1 R8 x_12172.Bytes, .str (str x_12172.Bytes)] ?_ (fun c_8491_21 => ?_)
           · refine SD.pre (pre_ix (i := 0) (iv := x_3) (sz := 4) (R := R_T_api_Write) (l := a_1) (by kernel_rfl) rfl e_x_11692) ?_
             refine SD.all1 (i := 40) (by kernel_rfl) ?_
             refine SW.eff D_8 (i := 40) (v := vp 17 0) (bs' := (bm 52 1110506744053759)) rfl (.inr ⟨_, _, _, _, rfl, rfl, rfl, hg_8491⟩) rfl (e_valE tk (.el 17) [x_3] (by kernel_rfl)) (by kernel_rfl) rfl (by kernel_rfl) ?_
             exact SD.vie D_8 [.g 0, .g 1, .g 2, .g 3, .g 4, .g 5, .g 6, .g 7, .g 8, .g 9, .g 10, .g 11, .g 12, .g 13, .g 17, .g 18, .g 14, .g 15, .g 16] c_8491_16 (by kernel_rfl)
           refine SD.lay 7 (bm 52 546457279004671) [(0, vs 0), (1, vs 1), (5, vi .i64 x_3), (29, vs 0), (30, vi .i64 x_3), (31, vp 6 0), (32, vp 6 1), (33, vb x_1130.Erase), (34, vs 1), (35, vi .i64 x_3), (36, vp 8 0), (37, vp 8 1), (38, vb x_1530.Erase), (39, vb (x_1130.Erase != x_1530.Erase)), (42, vs 0), (43, vi .i64 x_3), (44, vp 10 0), (45, vp 10 2), (46, vi .i64 x_6411.Offset), (47, vs 1), (48, vi .i64 x_3), (49, vp 12 0), (50, vp 12 2), (51, vi .i64 x_6811.Offset), (52, vb (x_6411.Offset != x_6811.Offset)), (54, vb (x_6411.Offset != x_6811.Offset)), (55, vs 0), (56, vi .i64 x_3), (61, vs 1), (62, vi .i64 x_3), (63, vp 14 0), (64, vp 14 3), (65, vs 15)] [.rd 4 R_T_api_Write a_1, .rd 4 R_T_api_Write b_2, .elt (some (0, x_3)) false (C_api_Write x_5 (.s 3)), .rd 1 R8 x_5.Bytes, .elt (some (1, x_3)) false (C_api_Write x_6 (.s 5)), .rd 1 R8 x_6.Bytes, .elt none false (C_api_Write x_1130 (.s 7)), .rd 1 R8 x_1130.Bytes, .elt none false (C_api_Write x_1530 (.s 9)), .rd 1 R8 x_1530.Bytes, .elt none false (C_api_Write x_6411 (.s 11)), .rd 1 R8 x_6411.Bytes, .elt none false (C_api_Write x_6811 (.s 13)), .rd 1 R8 x_6811.Bytes, .elt none false (C_api_Write x_12172 (.s 15)), .rd 1 R8 x_12172.Bytes] ?_ (fun c_8491_22 => ?_)
           · refine SD.all2 (i := 40) (j := 49) (by kernel_rfl) ?_ ?_
             · refine SW.pre (pre_ix (i := 0) (iv := x_3) (sz := 4) (R := R_T_api_Write) (l := a_1) (by kernel_rfl) rfl e_x_11692) ?_
               refine SW.eff D_8 (i := 40) (v := vp 16 0) (bs' := (bm 52 547556790632447)) rfl (.inr ⟨_, _, _, _, rfl, rfl, rfl, hg_8491⟩) rfl (e_valE tk (.el 16) [x_3] (by kernel_rfl)) (by kernel_rfl) rfl (by kernel_rfl) ?_
               exact SD.vie D_8 [.g 0, .g 1, .g 2, .g 3, .g 4, .g 5, .g 6, .g 7, .g 8, .g 9, .g 10, .g 11, .g 12, .g 13, .g 16, .g 17, .g 14, .g 15] c_8491_17 (by kernel_rfl)
             refine SW.eff D_8 (i := 49) (bs' := (bm 52 1109407232425983)) rfl (.inr ⟨_, _, _, _, rfl, rfl, rfl, hg_8491⟩) rfl (e_b2s (l := x_12172.Bytes) tk rfl (.r (by kernel_rfl)) (by kernel_rfl)) (by kernel_rfl) rfl (by kernel_rfl) ?_
             exact SD.vie D_8 [.g 0, .g 1, .g 2, .g 3, .g 4, .g 5, .g 6, .g 7, .g 8, .g 9, .g 10, .g 11, .g 12, .g 13, .g 14, .g 15, .g 16] c_8491_21 (by kernel_rfl)
           refine SD.lay 8 (bm 52 264982302294015) [(0, vs 0), (1, vs 1), (5, vi .i64 x_3), (29, vs 0), (30, vi .i64 x_3), (31, vp 6 0), (32, vp 6 1), (33, vb x_1130.Erase), (34, vs 1), (35, vi .i64 x_3), (36, vp 8 0), (37, vp 8 1), (38, vb x_1530.Erase), (39, vb (x_1130.Erase != x_1530.Erase)), (42, vs 0), (43, vi .i64 x_3), (44, vp 10 0), (45, vp 10 2), (46, vi .i64 x_6411.Offset), (47, vs 1), (48, vi .i64 x_3), (49, vp 12 0), (50, vp 12 2), (51, vi .i64 x_6811.Offset), (52, vb (x_6411.Offset != x_6811.Offset)), (54, vb (x_6411.Offset != x_6811.Offset)), (55, vs 0), (56, vi .i64 x_3), (61, vs 1), (62, vi .i64 x_3), (63, vp 14 0), (64, vp 14 3)] [.rd 4 R_T_api_Write a_1, .rd 4 R_T_api_Write b_2, .elt (some (0, x_3)) false (C_api_Write x_5 (.s 3)), .rd 1 R8 x_5.Bytes, .elt (some (1, x_3)) false (C_api_Write x_6 (.s 5)), .rd 1 R8 x_6.Bytes, .elt none false (C_api_Write x_1130 (.s 7)), .rd 1 R8 x_1130.Bytes, .elt none false (C_api_Write x_1530 (.s 9)), .rd 1 R8 x_1530.Bytes, .elt none false (C_api_Write x_6411 (.s 11)), .rd 1 R8 x_6411.Bytes, .elt none false (C_api_Write x_6811 (.s 13)), .rd 1 R8 x_6811.Bytes, .elt none false (C_api_Write x_12172 (.s 15)), .rd 1 R8 x_12172.Bytes] ?_ (fun c_8491_23 => ?_)
           · refine SD.all2 (i := 40) (j := 48) (by kernel_rfl) ?_ ?_
             · refine SW.pre (pre_ix (i := 0) (iv := x_3) (sz := 4) (R := R_T_api_Write) (l := a_1) (by kernel_rfl) rfl e_x_11692) ?_
               refine SW.eff D_8 (i := 40) (v := vp 16 0) (bs' := (bm 52 266081813921791)) rfl (.inr ⟨_, _, _, _, rfl, rfl, rfl, hg_8491⟩) rfl (e_valE tk (.el 16) [x_3] (by kernel_rfl)) (by kernel_rfl) rfl (by kernel_rfl) ?_
               exact SD.vie D_8 [.g 0, .g 1, .g 2, .g 3, .g 4, .g 5, .g 6, .g 7, .g 8, .g 9, .g 10, .g 11, .g 12, .g 13, .g 16, .g 17, .g 14, .g 15] c_8491_18 (by kernel_rfl)
             refine SW.eff D_8 (i := 48) (v := vs 15) (bs' := (bm 52 546457279004671)) rfl (.inr ⟨_, _, _, _, rfl, rfl, rfl, hg_8491⟩) rfl (e_val tk (by kernel_rfl)) (by kernel_rfl) rfl (by kernel_rfl) ?_
             exact SD.vie D_8 [.g 0, .g 1, .g 2, .g 3, .g 4, .g 5, .g 6, .g 7, .g 8, .g 9, .g 10, .g 11, .g 12, .g 13, .g 14, .g 15] c_8491_22 (by kernel_rfl)
           refine SD.lay 9 (bm 52 124244813938687) [(0, vs 0), (1, vs 1), (5, vi .i64 x_3), (29, vs 0), (30, vi .i64 x_3), (31, vp 6 0), (32, vp 6 1), (33, vb x_1130.Erase), (34, vs 1), (35, vi .i64 x_3), (36, vp 8 0), (37, vp 8 1), (38, vb x_1530.Erase), (39, vb (x_1130.Erase != x_1530.Erase)), (42, vs 0), (43, vi .i64 x_3), (44, vp 10 0), (45, vp 10 2), (46, vi .i64 x_6411.Offset), (47, vs 1), (48, vi .i64 x_3), (49, vp 12 0), (50, vp 12 2), (51, vi .i64 x_6811.Offset), (52, vb (x_6411.Offset != x_6811.Offset)), (54, vb (x_6411.Offset != x_6811.Offset)), (55, vs 0), (56, vi .i64 x_3), (61, vs 1), (62, vi .i64 x_3), (63, vp 14 0)] [.rd 4 R_T_api_Write a_1, .rd 4 R_T_api_Write b_2, .elt (some (0, x_3)) false (C_api_Write x_5 (.s 3)), .rd 1 R8 x_5.Bytes, .elt (some (1, x_3)) false (C_api_Write x_6 (.s 5)), .rd 1 R8 x_6.Bytes, .elt none false (C_api_Write x_1130 (.s 7)), .rd 1 R8 x_1130.Bytes, .elt none false (C_api_Write x_1530 (.s 9)), .rd 1 R8 x_1530.Bytes, .elt none false (C_api_Write x_6411 (.s 11)), .rd 1 R8 x_6411.Bytes, .elt none false (C_api_Write x_6811 (.s 13)), .rd 1 R8 x_6811.Bytes, .elt none false (C_api_Write x_12172 (.s 15)), .rd 1 R8 x_12172.Bytes] ?_ (fun c_8491_24 => ?_)
           · refine SD.all2 (i := 40) (j := 47) (by kernel_rfl) ?_ ?_
             · refine SW.pre (pre_ix (i := 0) (iv := x_3) (sz := 4) (R := R_T_api_Write) (l := a_1) (by kernel_rfl) rfl e_x_11692) ?_
               refine SW.eff D_8 (i := 40) (v := vp 16 0) (bs' := (bm 52 125344325566463)) rfl (.inr ⟨_, _, _, _, rfl, rfl, rfl, hg_8491⟩) rfl (e_valE tk (.el 16) [x_3] (by kernel_rfl)) (by kernel_rfl) rfl (by kernel_rfl) ?_
               exact SD.vie D_8 [.g 0, .g 1, .g 2, .g 3, .g 4, .g 5, .g 6, .g 7, .g 8, .g 9, .g 10, .g 11, .g 12, .g 13, .g 16, .g 17, .g 14, .g 15] c_8491_19 (by kernel_rfl)
             refine SW.eff D_8 (i := 47) (v := vp 14 3) (bs' := (bm 52 264982302294015)) rfl (.inr ⟨_, _, _, _, rfl, rfl, rfl, hg_8491⟩) rfl (e_val tk (by kernel_rfl)) (by kernel_rfl) rfl (by kernel_rfl) ?_
             exact SD.vie D_8 [.g 0, .g 1, .g 2, .g 3, .g 4, .g 5, .g 6, .g 7, .g 8, .g 9, .g 10, .g 11, .g 12, .g 13, .g 14, .g 15] c_8491_23 (by kernel_rfl)
           refine SD.all2 (i := 40) (j := 46) (by kernel_rfl) ?_ ?_
           · refine SW.pre (pre_ix (i := 0) (iv := x_3) (sz := 4) (R := R_T_api_Write) (l := a_1) (by kernel_rfl) rfl e_x_11692) ?_
             refine SW.eff D_8 (i := 40) (v := vp 14 0) (bs' := (bm 52 54975581388799)) rfl (.inr ⟨_, _, _, _, rfl, rfl, rfl, hg_8491⟩) rfl (e_valE tk (.el 14) [x_3] (by kernel_rfl)) (by kernel_rfl) rfl (by kernel_rfl) ?_
             exact SD.vie D_8 [.g 0, .g 1, .g 2, .g 3, .g 4, .g 5, .g 6, .g 7, .g 8, .g 9, .g 10, .g 11, .g 12, .g 13, .g 14, .g 15] c_8491_20 (by kernel_rfl)
           refine SW.pre (pre_ix (i := 1) (iv := x_3) (sz := 4) (R := R_T_api_Write) (l := b_2) (by kernel_rfl) rfl e_x_12172) ?_
           refine SW.eff D_8 (i := 46) (v := vp 14 0) (bs' := (bm 52 124244813938687)) rfl (.inr ⟨_, _, _, _, rfl, rfl, rfl, hg_8491⟩) rfl (e_valE tk (.el 14) [x_3] (by kernel_rfl)) (by kernel_rfl) rfl (by kernel_rfl) ?_
           exact SD.vie D_8 [.g 0, .g 1, .g 2, .g 3, .g 4, .g 5, .g 6, .g 7, .g 8, .g 9, .g 10, .g 11, .g 12, .g 13, .g 14, .g 15] c_8491_24 (by kernel_rfl)
         refine SD.lay 18 (bm 52 17179869183) [(0, vs 0), (1, vs 1), (5, vi .i64 x_3), (29, vs 0), (30, vi .i64 x_3), (31, vp 6 0), (32, vp 6 1), (33, vb x_1130.Erase), (34, vs 1), (35, vi .i64 x_3), (36, vp 8 0), (37, vp 8 1), (38, vb x_1530.Erase), (39, vb (x_1130.Erase != x_1530.Erase)), (41, vb (x_1130.Erase != x_1530.Erase)), (42, vs 0), (43, vi .i64 x_3), (44, vp 10 0), (45, vp 10 2), (46, vi .i64 x_6411.Offset), (47, vs 1), (48, vi .i64 x_3), (49, vp 12 0), (50, vp 12 2)] [.rd 4 R_T_api_Write a_1, .rd 4 R_T_api_Write b_2, .elt (some (0, x_3)) false (C_api_Write x_5 (.s 3)), .rd 1 R8 x_5.Bytes, .elt (some (1, x_3)) false (C_api_Write x_6 (.s 5)), .rd 1 R8 x_6.Bytes, .elt none false (C_api_Write x_1130 (.s 7)), .rd 1 R8 x_1130.Bytes, .elt none false (C_api_Write x_1530 (.s 9)), .rd 1 R8 x_1530.Bytes, .elt none false (C_api_Write x_6411 (.s 11)), .rd 1 R8 x_6411.Bytes, .elt none false (C_api_Write x_6811 (.s 13)), .rd 1 R8 x_6811.Bytes] ?_ (fun c_4250_1 => ?_)
         · refine SD.all1 (i := 34) (by kernel_rfl) ?_
           refine SW.eff D_8 (i := 34) (v := vi .i64 x_6811.Offset) (bs' := (bm 52 34359738367)) rfl (.inr ⟨_, _, _, _, rfl, rfl, rfl, hg_4250⟩) rfl (e_val tk (by kernel_rfl)) (by kernel_rfl) rfl (by kernel_rfl) ?_
           refine SD.takes tk D_8 [(41, false)] (knS rfl hg_4250 kn0) [35, 36, 37] [] [] (bm 52 274877906943) [(0, vs 0), (1, vs 1), (5, vi .i64 x_3), (29, vs 0), (30, vi .i64 x_3), (31, vp 6 0), (32, vp 6 1), (33, vb x_1130.Erase), (34, vs 1), (35, vi .i64 x_3), (36, vp 8 0), (37, vp 8 1), (38, vb x_1530.Erase), (39, vb (x_1130.Erase != x_1530.Erase)), (42, vs 0), (43, vi .i64 x_3), (44, vp 10 0), (45, vp 10 2), (46, vi .i64 x_6411.Offset), (47, vs 1), (48, vi .i64 x_3), (49, vp 12 0), (50, vp 12 2), (51, vi .i64 x_6811.Offset), (52, vb (x_6411.Offset != x_6811.Offset)), (54, vb (x_6411.Offset != x_6811.Offset))] rfl (by kernel_rfl) (by kernel_rfl) (by kernel_rfl) ?_
           exact SD.vie D_8 [.g 0, .g 1, .g 2, .g 3, .g 4, .g 5, .g 6, .g 7, .g 8, .g 9, .g 10, .g 11, .g 12, .g 13] c_4250_0 (by kernel_rfl)
         refine SD.lay 19 (bm 52 8589934591) [(0, vs 0), (1, vs 1), (5, vi .i64 x_3), (29, vs 0), (30, vi .i64 x_3), (31, vp 6 0), (32, vp 6 1), (33, vb x_1130.Erase), (34, vs 1), (35, vi .i64 x_3), (36, vp 8 0), (37, vp 8 1), (38, vb x_1530.Erase), (39, vb (x_1130.Erase != x_1530.Erase)), (41, vb (x_1130.Erase != x_1530.Erase)), (42, vs 0), (43, vi .i64 x_3), (44, vp 10 0), (45, vp 10 2), (46, vi .i64 x_6411.Offset), (47, vs 1), (48, vi .i64 x_3), (49, vp 12 0)] [.rd 4 R_T_api_Write a_1, .rd 4 R_T_api_Write b_2, .elt (some (0, x_3)) false (C_api_Write x_5 (.s 3)), .rd 1 R8 x_5.Bytes, .elt (some (1, x_3)) false (C_api_Write x_6 (.s 5)), .rd 1 R8 x_6.Bytes, .elt none false (C_api_Write x_1130 (.s 7)), .rd 1 R8 x_1130.Bytes, .elt none false (C_api_Write x_1530 (.s 9)), .rd 1 R8 x_1530.Bytes, .elt none false (C_api_Write x_6411 (.s 11)), .rd 1 R8 x_6411.Bytes, .elt none false (C_api_Write x_6811 (.s 13)), .rd 1 R8 x_6811.Bytes] ?_ (fun c_4250_2 => ?_)
         · refine SD.all1 (i := 33) (by kernel_rfl) ?_
           refine SW.eff D_8 (i := 33) (v := vp 12 2) (bs' := (bm 52 17179869183)) rfl (.inr ⟨_, _, _, _, rfl, rfl, rfl, hg_4250⟩) rfl (e_val tk (by kernel_rfl)) (by kernel_rfl) rfl (by kernel_rfl) ?_
           exact SD.vie D_8 [.g 0, .g 1, .g 2, .g 3, .g 4, .g 5, .g 6, .g 7, .g 8, .g 9, .g 10, .g 11, .g 12, .g 13] c_4250_1 (by kernel_rfl)
         refine SD.lay 20 (bm 52 4294967295) [(0, vs 0), (1, vs 1), (5, vi .i64 x_3), (29, vs 0), (30, vi .i64 x_3), (31, vp 6 0), (32, vp 6 1), (33, vb x_1130.Erase), (34, vs 1), (35, vi .i64 x_3), (36, vp 8 0), (37, vp 8 1), (38, vb x_1530.Erase), (39, vb (x_1130.Erase != x_1530.Erase)), (41, vb (x_1130.Erase != x_1530.Erase)), (42, vs 0), (43, vi .i64 x_3), (44, vp 10 0), (45, vp 10 2), (46, vi .i64 x_6411.Offset), (47, vs 1), (48, vi .i64 x_3)] [.rd 4 R_T_api_Write a_1, .rd 4 R_T_api_Write b_2, .elt (some (0, x_3)) false (C_api_Write x_5 (.s 3)), .rd 1 R8 x_5.Bytes, .elt (some (1, x_3)) false (C_api_Write x_6 (.s 5)), .rd 1 R8 x_6.Bytes, .elt none false (C_api_Write x_1130 (.s 7)), .rd 1 R8 x_1130.Bytes, .elt none false (C_api_Write x_1530 (.s 9)), .rd 1 R8 x_1530.Bytes, .elt none false (C_api_Write x_6411 (.s 11)), .rd 1 R8 x_6411.Bytes] ?_ (fun c_4250_3 => ?_)
         · refine SD.pre (pre_ix (i := 1) (iv := x_3) (sz := 4) (R := R_T_api_Write) (l := b_2) (by kernel_rfl) rfl e_x_6811) ?_
           refine SD.all1 (i := 32) (by kernel_rfl) ?_
           refine SW.eff D_8 (i := 32) (v := vp 12 0) (bs' := (bm 52 8589934591)) rfl (.inr ⟨_, _, _, _, rfl, rfl, rfl, hg_4250⟩) rfl (e_valE tk (.el 12) [x_3] (by kernel_rfl)) (by kernel_rfl) rfl (by kernel_rfl) ?_
           exact SD.vie D_8 [.g 0, .g 1, .g 2, .g 3, .g 4, .g 5, .g 6, .g 7, .g 8, .g 9, .g 10, .g 11, .g 12, .g 13] c_4250_2 (by kernel_rfl)
         refine SD.lay 18 (bm 52 33822867455) [(0, vs 0), (1, vs 1), (5, vi .i64 x_3), (29, vs 0), (30, vi .i64 x_3), (31, vp 6 0), (32, vp 6 1), (33, vb x_1130.Erase), (34, vs 1), (35, vi .i64 x_3), (36, vp 8 0), (37, vp 8 1), (38, vb x_1530.Erase), (39, vb (x_1130.Erase != x_1530.Erase)), (41, vb (x_1130.Erase != x_1530.Erase)), (42, vs 0), (43, vi .i64 x_3), (44, vp 10 0), (45, vp 10 2), (47, vs 1), (48, vi .i64 x_3), (49, vp 12 0), (50, vp 12 2), (51, vi .i64 x_6811.Offset)] [.rd 4 R_T_api_Write a_1, .rd 4 R_T_api_Write b_2, .elt (some (0, x_3)) false (C_api_Write x_5 (.s 3)), .rd 1 R8 x_5.Bytes, .elt (some (1, x_3)) false (C_api_Write x_6 (.s 5)), .rd 1 R8 x_6.Bytes, .elt none false (C_api_Write x_1130 (.s 7)), .rd 1 R8 x_1130.Bytes, .elt none false (C_api_Write x_1530 (.s 9)), .rd 1 R8 x_1530.Bytes, .elt none false (C_api_Write x_6411 (.s 11)), .rd 1 R8 x_6411.Bytes, .elt none false (C_api_Write x_6811 (.s 13)), .rd 1 R8 x_6811.Bytes] ?_ (fun c_4250_4 => ?_)
         · refine SD.all1 (i := 29) (by kernel_rfl) ?_
           refine SW.eff D_8 (i := 29) (v := vi .i64 x_6411.Offset) (bs' := (bm 52 34359738367)) rfl (.inr ⟨_, _, _, _, rfl, rfl, rfl, hg_4250⟩) rfl (e_val tk (by kernel_rfl)) (by kernel_rfl) rfl (by kernel_rfl) ?_
           refine SD.takes tk D_8 [(41, false)] (knS rfl hg_4250 kn0) [35, 36, 37] [] [] (bm 52 274877906943) [(0, vs 0), (1, vs 1), (5, vi .i64 x_3), (29, vs 0), (30, vi .i64 x_3), (31, vp 6 0), (32, vp 6 1), (33, vb x_1130.Erase), (34, vs 1), (35, vi .i64 x_3), (36, vp 8 0), (37, vp 8 1), (38, vb x_1530.Erase), (39, vb (x_1130.Erase != x_1530.Erase)), (42, vs 0), (43, vi .i64 x_3), (44, vp 10 0), (45, vp 10 2), (46, vi .i64 x_6411.Offset), (47, vs 1), (48, vi .i64 x_3), (49, vp 12 0), (50, vp 12 2), (51, vi .i64 x_6811.Offset), (52, vb (x_6411.Offset != x_6811.Offset)), (54, vb (x_6411.Offset != x_6811.Offset))] rfl (by kernel_rfl) (by kernel_rfl) (by kernel_rfl) ?_
           exact SD.vie D_8 [.g 0, .g 1, .g 2, .g 3, .g 4, .g 5, .g 6, .g 7, .g 8, .g 9, .g 10, .g 11, .g 12, .g 13] c_4250_0 (by kernel_rfl)
         refine SD.lay 19 (bm 52 16642998271) [(0, vs 0), (1, vs 1), (5, vi .i64 x_3), (29, vs 0), (30, vi .i64 x_3), (31, vp 6 0), (32, vp 6 1), (33, vb x_1130.Erase), (34, vs 1), (35, vi .i64 x_3), (36, vp 8 0), (37, vp 8 1), (38, vb x_1530.Erase), (39, vb (x_1130.Erase != x_1530.Erase)), (41, vb (x_1130.Erase != x_1530.Erase)), (42, vs 0), (43, vi .i64 x_3), (44, vp 10 0), (45, vp 10 2), (47, vs 1), (48, vi .i64 x_3), (49, vp 12 0), (50, vp 12 2)] [.rd 4 R_T_api_Write a_1, .rd 4 R_T_api_Write b_2, .elt (some (0, x_3)) false (C_api_Write x_5 (.s 3)), .rd 1 R8 x_5.Bytes, .elt (some (1, x_3)) false (C_api_Write x_6 (.s 5)), .rd 1 R8 x_6.Bytes, .elt none false (C_api_Write x_1130 (.s 7)), .rd 1 R8 x_1130.Bytes, .elt none false (C_api_Write x_1530 (.s 9)), .rd 1 R8 x_1530.Bytes, .elt none false (C_api_Write x_6411 (.s 11)), .rd 1 R8 x_6411.Bytes, .elt none false (C_api_Write x_6811 (.s 13)), .rd 1 R8 x_6811.Bytes] ?_ (fun c_4250_5 => ?_)
         · refine SD.all2 (i := 29) (j := 34) (by kernel_rfl) ?_ ?_
           · refine SW.eff D_8 (i := 29) (v := vi .i64 x_6411.Offset) (bs' := (bm 52 17179869183)) rfl (.inr ⟨_, _, _, _, rfl, rfl, rfl, hg_4250⟩) rfl (e_val tk (by kernel_rfl)) (by kernel_rfl) rfl (by kernel_rfl) ?_
             exact SD.vie D_8 [.g 0, .g 1, .g 2, .g 3, .g 4, .g 5, .g 6, .g 7, .g 8, .g 9, .g 10, .g 11, .g 12, .g 13] c_4250_1 (by kernel_rfl)
           refine SW.eff D_8 (i := 34) (v := vi .i64 x_6811.Offset) (bs' := (bm 52 33822867455)) rfl (.inr ⟨_, _, _, _, rfl, rfl, rfl, hg_4250⟩) rfl (e_val tk (by kernel_rfl)) (by kernel_rfl) rfl (by kernel_rfl) ?_
           exact SD.vie D_8 [.g 0, .g 1, .g 2, .g 3, .g 4, .g 5, .g 6, .g 7, .g 8, .g 9, .g 10, .g 11, .g 12, .g 13] c_4250_4 (by kernel_rfl)
         refine SD.lay 20 (bm 52 8053063679) [(0, vs 0), (1, vs 1), (5, vi .i64 x_3), (29, vs 0), (30, vi .i64 x_3), (31, vp 6 0), (32, vp 6 1), (33, vb x_1130.Erase), (34, vs 1), (35, vi .i64 x_3), (36, vp 8 0), (37, vp 8 1), (38, vb x_1530.Erase), (39, vb (x_1130.Erase != x_1530.Erase)), (41, vb (x_1130.Erase != x_1530.Erase)), (42, vs 0), (43, vi .i64 x_3), (44, vp 10 0), (45, vp 10 2), (47, vs 1), (48, vi .i64 x_3), (49, vp 12 0)] [.rd 4 R_T_api_Write a_1, .rd 4 R_T_api_Write b_2, .elt (some (0, x_3)) false (C_api_Write x_5 (.s 3)), .rd 1 R8 x_5.Bytes, .elt (some (1, x_3)) false (C_api_Write x_6 (.s 5)), .rd 1 R8 x_6.Bytes, .elt none false (C_api_Write x_1130 (.s 7)), .rd 1 R8 x_1130.Bytes, .elt none false (C_api_Write x_1530 (.s 9)), .rd 1 R8 x_1530.Bytes, .elt none false (C_api_Write x_6411 (.s 11)), .rd 1 R8 x_6411.Bytes, .elt none false (C_api_Write x_6811 (.s 13)), .rd 1 R8 x_6811.Bytes] ?_ (fun c_4250_6 => ?_)
         · refine SD.all2 (i := 29) (j := 33) (by kernel_rfl) ?_ ?_
           · refine SW.eff D_8 (i := 29) (v := vi .i64 x_6411.Offset) (bs' := (bm 52 8589934591)) rfl (.inr ⟨_, _, _, _, rfl, rfl, rfl, hg_4250⟩) rfl (e_val tk (by kernel_rfl)) (by kernel_rfl) rfl (by kernel_rfl) ?_
             exact SD.vie D_8 [.g 0, .g 1, .g 2, .g 3, .g 4, .g 5, .g 6, .g 7, .g 8, .g 9, .g 10, .g 11, .g 12, .g 13] c_4250_2 (by kernel_rfl)
           refine SW.eff D_8 (i := 33) (v := vp 12 2) (bs' := (bm 52 16642998271)) rfl (.inr ⟨_, _, _, _, rfl, rfl, rfl, hg_4250⟩) rfl (e_val tk (by kernel_rfl)) (by kernel_rfl) rfl (by kernel_rfl) ?_
           exact SD.vie D_8 [.g 0, .g 1, .g 2, .g 3, .g 4, .g 5, .g 6, .g 7, .g 8, .g 9, .g 10, .g 11, .g 12, .g 13] c_4250_5 (by kernel_rfl)
         refine SD.lay 21 (bm 52 3758096383) [(0, vs 0), (1, vs 1), (5, vi .i64 x_3), (29, vs 0), (30, vi .i64 x_3), (31, vp 6 0), (32, vp 6 1), (33, vb x_1130.Erase), (34, vs 1), (35, vi .i64 x_3), (36, vp 8 0), (37, vp 8 1), (38, vb x_1530.Erase), (39, vb (x_1130.Erase != x_1530.Erase)), (41, vb (x_1130.Erase != x_1530.Erase)), (42, vs 0), (43, vi .i64 x_3), (44, vp 10 0), (45, vp 10 2), (47, vs 1), (48, vi .i64 x_3)] [.rd 4 R_T_api_Write a_1, .rd 4 R_T_api_Write b_2, .elt (some (0, x_3)) false (C_api_Write x_5 (.s 3)), .rd 1 R8 x_5.Bytes, .elt (some (1, x_3)) false (C_api_Write x_6 (.s 5)), .rd 1 R8 x_6.Bytes, .elt none false (C_api_Write x_1130 (.s 7)), .rd 1 R8 x_1130.Bytes, .elt none false (C_api_Write x_1530 (.s 9)), .rd 1 R8 x_1530.Bytes, .elt none false (C_api_Write x_6411 (.s 11)), .rd 1 R8 x_6411.Bytes] ?_ (fun c_4250_7 => ?_)
         · refine SD.all2 (i := 29) (j := 32) (by kernel_rfl) ?_ ?_
           · refine SW.eff D_8 (i := 29) (v := vi .i64 x_6411.Offset) (bs' := (bm 52 4294967295)) rfl (.inr ⟨_, _, _, _, rfl, rfl, rfl, hg_4250⟩) rfl (e_val tk (by kernel_rfl)) (by kernel_rfl) rfl (by kernel_rfl) ?_
             exact SD.vie D_8 [.g 0, .g 1, .g 2, .g 3, .g 4, .g 5, .g 6, .g 7, .g 8, .g 9, .g 10, .g 11] c_4250_3 (by kernel_rfl)
           refine SW.pre (pre_ix (i := 1) (iv := x_3) (sz := 4) (R := R_T_api_Write) (l := b_2) (by kernel_rfl) rfl e_x_6811) ?_
           refine SW.eff D_8 (i := 32) (v := vp 12 0) (bs' := (bm 52 8053063679)) rfl (.inr ⟨_, _, _, _, rfl, rfl, rfl, hg_4250⟩) rfl (e_valE tk (.el 12) [x_3] (by kernel_rfl)) (by kernel_rfl) rfl (by kernel_rfl) ?_
           exact SD.vie D_8 [.g 0, .g 1, .g 2, .g 3, .g 4, .g 5, .g 6, .g 7, .g 8, .g 9, .g 10, .g 11, .g 12, .g 13] c_4250_6 (by kernel_rfl)
         refine SD.lay 19 (bm 52 33554431999) [(0, vs 0), (1, vs 1), (5, vi .i64 x_3), (29, vs 0), (30, vi .i64 x_3), (31, vp 6 0), (32, vp 6 1), (33, vb x_1130.Erase), (34, vs 1), (35, vi .i64 x_3), (36, vp 8 0), (37, vp 8 1), (38, vb x_1530.Erase), (39, vb (x_1130.Erase != x_1530.Erase)), (41, vb (x_1130.Erase != x_1530.Erase)), (42, vs 0), (43, vi .i64 x_3), (44, vp 10 0), (47, vs 1), (48, vi .i64 x_3), (49, vp 12 0), (50, vp 12 2), (51, vi .i64 x_6811.Offset)] [.rd 4 R_T_api_Write a_1, .rd 4 R_T_api_Write b_2, .elt (some (0, x_3)) false (C_api_Write x_5 (.s 3)), .rd 1 R8 x_5.Bytes, .elt (some (1, x_3)) false (C_api_Write x_6 (.s 5)), .rd 1 R8 x_6.Bytes, .elt none false (C_api_Write x_1130 (.s 7)), .rd 1 R8 x_1130.Bytes, .elt none false (C_api_Write x_1530 (.s 9)), .rd 1 R8 x_1530.Bytes, .elt none false (C_api_Write x_6411 (.s 11)), .rd 1 R8 x_6411.Bytes, .elt none false (C_api_Write x_6811 (.s 13)), .rd 1 R8 x_6811.Bytes] ?_ (fun c_4250_8 => ?_)
         · refine SD.all1 (i := 28) (by kernel_rfl) ?_
           refine SW.eff D_8 (i := 28) (v := vp 10 2) (bs' := (bm 52 33822867455)) rfl (.inr ⟨_, _, _, _, rfl, rfl, rfl, hg_4250⟩) rfl (e_val tk (by kernel_rfl)) (by kernel_rfl) rfl (by kernel_rfl) ?_
           exact SD.vie D_8 [.g 0, .g 1, .g 2, .g 3, .g 4, .g 5, .g 6, .g 7, .g 8, .g 9, .g 10, .g 11, .g 12, .g 13] c_4250_4 (by kernel_rfl)
         refine SD.lay 20 (bm 52 16374562815) [(0, vs 0), (1, vs 1), (5, vi .i64 x_3), (29, vs 0), (30, vi .i64 x_3), (31, vp 6 0), (32, vp 6 1), (33, vb x_1130.Erase), (34, vs 1), (35, vi .i64 x_3), (36, vp 8 0), (37, vp 8 1), (38, vb x_1530.Erase), (39, vb (x_1130.Erase != x_1530.Erase)), (41, vb (x_1130.Erase != x_1530.Erase)), (42, vs 0), (43, vi .i64 x_3), (44, vp 10 0), (47, vs 1), (48, vi .i64 x_3), (49, vp 12 0), (50, vp 12 2)] [.rd 4 R_T_api_Write a_1, .rd 4 R_T_api_Write b_2, .elt (some (0, x_3)) false (C_api_Write x_5 (.s 3)), .rd 1 R8 x_5.Bytes, .elt (some (1, x_3)) false (C_api_Write x_6 (.s 5)), .rd 1 R8 x_6.Bytes, .elt none false (C_api_Write x_1130 (.s 7)), .rd 1 R8 x_1130.Bytes, .elt none false (C_api_Write x_1530 (.s 9)), .rd 1 R8 x_1530.Bytes, .elt none false (C_api_Write x_6411 (.s 11)), .rd 1 R8 x_6411.Bytes, .elt none false (C_api_Write x_6811 (.s 13)), .rd 1 R8 x_6811.Bytes] ?_ (fun c_4250_9 => ?_)
         · refine SD.all2 (i := 28) (j := 34) (by kernel_rfl) ?_ ?_
           · refine SW.eff D_8 (i := 28) (v := vp 10 2) (bs' := (bm 52 16642998271)) rfl (.inr ⟨_, _, _, _, rfl, rfl, rfl, hg_4250⟩) rfl (e_val tk (by kernel_rfl)) (by kernel_rfl) rfl (by kernel_rfl) ?_
             exact SD.vie D_8 [.g 0, .g 1, .g 2, .g 3, .g 4, .g 5, .g 6, .g 7, .g 8, .g 9, .g 10, .g 11, .g 12, .g 13] c_4250_5 (by kernel_rfl)
           refine SW.eff D_8 (i := 34) (v := vi .i64 x_6811.Offset) (bs' := (bm 52 33554431999)) rfl (.inr ⟨_, _, _, _, rfl, rfl, rfl, hg_4250⟩) rfl (e_val tk (by kernel_rfl)) (by kernel_rfl) rfl (by kernel_rfl) ?_
           exact SD.vie D_8 [.g 0, .g 1, .g 2, .g 3, .g 4, .g 5, .g 6, .g 7, .g 8, .g 9, .g 10, .g 11, .g 12, .g 13] c_4250_8 (by kernel_rfl)
         refine SD.lay 21 (bm 52 7784628223) [(0, vs 0), (1, vs 1), (5, vi .i64 x_3), (29, vs 0), (30, vi .i64 x_3), (31, vp 6 0), (32, vp 6 1), (33, vb x_1130.Erase), (34, vs 1), (35, vi .i64 x_3), (36, vp 8 0), (37, vp 8 1), (38, vb x_1530.Erase), (39, vb (x_1130.Erase != x_1530.Erase)), (41, vb (x_1130.Erase != x_1530.Erase)), (42, vs 0), (43, vi .i64 x_3), (44, vp 10 0), (47, vs 1), (48, vi .i64 x_3), (49, vp 12 0)] [.rd 4 R_T_api_Write a_1, .rd 4 R_T_api_Write b_2, .elt (some (0, x_3)) false (C_api_Write x_5 (.s 3)), .rd 1 R8 x_5.Bytes, .elt (some (1, x_3)) false (C_api_Write x_6 (.s 5)), .rd 1 R8 x_6.Bytes, .elt none false (C_api_Write x_1130 (.s 7)), .rd 1 R8 x_1130.Bytes, .elt none false (C_api_Write x_1530 (.s 9)), .rd 1 R8 x_1530.Bytes, .elt none false (C_api_Write x_6411 (.s 11)), .rd 1 R8 x_6411.Bytes, .elt none false (C_api_Write x_6811 (.s 13)), .rd 1 R8 x_6811.Bytes] ?_ (fun c_4250_10 => ?_)
         · refine SD.all2 (i := 28) (j := 33) (by kernel_rfl) ?_ ?_
           · refine SW.eff D_8 (i := 28) (v := vp 10 2) (bs' := (bm 52 8053063679)) rfl (.inr ⟨_, _, _, _, rfl, rfl, rfl, hg_4250⟩) rfl (e_val tk (by kernel_rfl)) (by kernel_rfl) rfl (by kernel_rfl) ?_
             exact SD.vie D_8 [.g 0, .g 1, .g 2, .g 3, .g 4, .g 5, .g 6, .g 7, .g 8, .g 9, .g 10, .g 11, .g 12, .g 13] c_4250_6 (by kernel_rfl)
           refine SW.eff D_8 (i := 33) (v := vp 12 2) (bs' := (bm 52 16374562815)) rfl (.inr ⟨_, _, _, _, rfl, rfl, rfl, hg_4250⟩) rfl (e_val tk (by kernel_rfl)) (by kernel_rfl) rfl (by kernel_rfl) ?_
           exact SD.vie D_8 [.g 0, .g 1, .g 2, .g 3, .g 4, .g 5, .g 6, .g 7, .g 8, .g 9, .g 10, .g 11, .g 12, .g 13] c_4250_9 (by kernel_rfl)
         refine SD.lay 22 (bm 52 3489660927) [(0, vs 0), (1, vs 1), (5, vi .i64 x_3), (29, vs 0), (30, vi .i64 x_3), (31, vp 6 0), (32, vp 6 1), (33, vb x_1130.Erase), (34, vs 1), (35, vi .i64 x_3), (36, vp 8 0), (37, vp 8 1), (38, vb x_1530.Erase), (39, vb (x_1130.Erase != x_1530.Erase)), (41, vb (x_1130.Erase != x_1530.Erase)), (42, vs 0), (43, vi .i64 x_3), (44, vp 10 0), (47, vs 1), (48, vi .i64 x_3)] [.rd 4 R_T_api_Write a_1, .rd 4 R_T_api_Write b_2, .elt (some (0, x_3)) false (C_api_Write x_5 (.s 3)), .rd 1 R8 x_5.Bytes, .elt (some (1, x_3)) false (C_api_Write x_6 (.s 5)), .rd 1 R8 x_6.Bytes, .elt none false (C_api_Write x_1130 (.s 7)), .rd 1 R8 x_1130.Bytes, .elt none false (C_api_Write x_1530 (.s 9)), .rd 1 R8 x_1530.Bytes, .elt none false (C_api_Write x_6411 (.s 11)), .rd 1 R8 x_6411.Bytes] ?_ (fun c_4250_11 => ?_)
         · refine SD.all2 (i := 28) (j := 32) (by kernel_rfl) ?_ ?_
           · refine SW.eff D_8 (i := 28) (v := vp 10 2) (bs' := (bm 52 3758096383)) rfl (.inr ⟨_, _, _, _, rfl, rfl, rfl, hg_4250⟩) rfl (e_val tk (by kernel_rfl)) (by kernel_rfl) rfl (by kernel_rfl) ?_
             exact SD.vie D_8 [.g 0, .g 1, .g 2, .g 3, .g 4, .g 5, .g 6, .g 7, .g 8, .g 9, .g 10, .g 11] c_4250_7 (by kernel_rfl)
           refine SW.pre (pre_ix (i := 1) (iv := x_3) (sz := 4) (R := R_T_api_Write) (l := b_2) (by kernel_rfl) rfl e_x_6811) ?_
           refine SW.eff D_8 (i := 32) (v := vp 12 0) (bs' := (bm 52 7784628223)) rfl (.inr ⟨_, _, _, _, rfl, rfl, rfl, hg_4250⟩) rfl (e_valE tk (.el 12) [x_3] (by kernel_rfl)) (by kernel_rfl) rfl (by kernel_rfl) ?_
           exact SD.vie D_8 [.g 0, .g 1, .g 2, .g 3, .g 4, .g 5, .g 6, .g 7, .g 8, .g 9, .g 10, .g 11, .g 12, .g 13] c_4250_10 (by kernel_rfl)
         refine SD.lay 20 (bm 52 33420214271) [(0, vs 0), (1, vs 1), (5, vi .i64 x_3), (29, vs 0), (30, vi .i64 x_3), (31, vp 6 0), (32, vp 6 1), (33, vb x_1130.Erase), (34, vs 1), (35, vi .i64 x_3), (36, vp 8 0), (37, vp 8 1), (38, vb x_1530.Erase), (39, vb (x_1130.Erase != x_1530.Erase)), (41, vb (x_1130.Erase != x_1530.Erase)), (42, vs 0), (43, vi .i64 x_3), (47, vs 1), (48, vi .i64 x_3), (49, vp 10 0), (50, vp 10 2), (51, vi .i64 x_6811.Offset)] [.rd 4 R_T_api_Write a_1, .rd 4 R_T_api_Write b_2, .elt (some (0, x_3)) false (C_api_Write x_5 (.s 3)), .rd 1 R8 x_5.Bytes, .elt (some (1, x_3)) false (C_api_Write x_6 (.s 5)), .rd 1 R8 x_6.Bytes, .elt none false (C_api_Write x_1130 (.s 7)), .rd 1 R8 x_1130.Bytes, .elt none false (C_api_Write x_1530 (.s 9)), .rd 1 R8 x_1530.Bytes, .elt none false (C_api_Write x_6811 (.s 11)), .rd 1 R8 x_6811.Bytes] ?_ (fun c_4250_12 => ?_)
         · refine SD.pre (pre_ix (i := 0) (iv := x_3) (sz := 4) (R := R_T_api_Write) (l := a_1) (by kernel_rfl) rfl e_x_6411) ?_
           refine SD.all1 (i := 27) (by kernel_rfl) ?_
           refine SW.eff D_8 (i := 27) (v := vp 12 0) (bs' := (bm 52 33554431999)) rfl (.inr ⟨_, _, _, _, rfl, rfl, rfl, hg_4250⟩) rfl (e_valE tk (.el 12) [x_3] (by kernel_rfl)) (by kernel_rfl) rfl (by kernel_rfl) ?_
           exact SD.vie D_8 [.g 0, .g 1, .g 2, .g 3, .g 4, .g 5, .g 6, .g 7, .g 8, .g 9, .g 12, .g 13, .g 10, .g 11] c_4250_8 (by kernel_rfl)
         refine SD.lay 21 (bm 52 16240345087) [(0, vs 0), (1, vs 1), (5, vi .i64 x_3), (29, vs 0), (30, vi .i64 x_3), (31, vp 6 0), (32, vp 6 1), (33, vb x_1130.Erase), (34, vs 1), (35, vi .i64 x_3), (36, vp 8 0), (37, vp 8 1), (38, vb x_1530.Erase), (39, vb (x_1130.Erase != x_1530.Erase)), (41, vb (x_1130.Erase != x_1530.Erase)), (42, vs 0), (43, vi .i64 x_3), (47, vs 1), (48, vi .i64 x_3), (49, vp 10 0), (50, vp 10 2)] [.rd 4 R_T_api_Write a_1, .rd 4 R_T_api_Write b_2, .elt (some (0, x_3)) false (C_api_Write x_5 (.s 3)), .rd 1 R8 x_5.Bytes, .elt (some (1, x_3)) false (C_api_Write x_6 (.s 5)), .rd 1 R8 x_6.Bytes, .elt none false (C_api_Write x_1130 (.s 7)), .rd 1 R8 x_1130.Bytes, .elt none false (C_api_Write x_1530 (.s 9)), .rd 1 R8 x_1530.Bytes, .elt none false (C_api_Write x_6811 (.s 11)), .rd 1 R8 x_6811.Bytes] ?_ (fun c_4250_13 => ?_)
         · refine SD.all2 (i := 27) (j := 34) (by kernel_rfl) ?_ ?_
           · refine SW.pre (pre_ix (i := 0) (iv := x_3) (sz := 4) (R := R_T_api_Write) (l := a_1) (by kernel_rfl) rfl e_x_6411) ?_
             refine SW.eff D_8 (i := 27) (v := vp 12 0) (bs' := (bm 52 16374562815)) rfl (.inr ⟨_, _, _, _, rfl, rfl, rfl, hg_4250⟩) rfl (e_valE tk (.el 12) [x_3] (by kernel_rfl)) (by kernel_rfl) rfl (by kernel_rfl) ?_
             exact SD.vie D_8 [.g 0, .g 1, .g 2, .g 3, .g 4, .g 5, .g 6, .g 7, .g 8, .g 9, .g 12, .g 13, .g 10, .g 11] c_4250_9 (by kernel_rfl)
           refine SW.eff D_8 (i := 34) (v := vi .i64 x_6811.Offset) (bs' := (bm 52 33420214271)) rfl (.inr ⟨_, _, _, _, rfl, rfl, rfl, hg_4250⟩) rfl (e_val tk (by kernel_rfl)) (by kernel_rfl) rfl (by kernel_rfl) ?_
           exact SD.vie D_8 [.g 0, .g 1, .g 2, .g 3, .g 4, .g 5, .g 6, .g 7, .g 8, .g 9, .g 10, .g 11] c_4250_12 (by kernel_rfl)
         refine SD.lay 22 (bm 52 7650410495) [(0, vs 0), (1, vs 1), (5, vi .i64 x_3), (29, vs 0), (30, vi .i64 x_3), (31, vp 6 0), (32, vp 6 1), (33, vb x_1130.Erase), (34, vs 1), (35, vi .i64 x_3), (36, vp 8 0), (37, vp 8 1), (38, vb x_1530.Erase), (39, vb (x_1130.Erase != x_1530.Erase)), (41, vb (x_1130.Erase != x_1530.Erase)), (42, vs 0), (43, vi .i64 x_3), (47, vs 1), (48, vi .i64 x_3), (49, vp 10 0)] [.rd 4 R_T_api_Write a_1, .rd 4 R_T_api_Write b_2, .elt (some (0, x_3)) false (C_api_Write x_5 (.s 3)), .rd 1 R8 x_5.Bytes, .elt (some (1, x_3)) false (C_api_Write x_6 (.s 5)), .rd 1 R8 x_6.Bytes, .elt none false (C_api_Write x_1130 (.s 7)), .rd 1 R8 x_1130.Bytes, .elt none false (C_api_Write x_1530 (.s 9)), .rd 1 R8 x_1530.Bytes, .elt none false (C_api_Write x_6811 (.s 11)), .rd 1 R8 x_6811.Bytes] ?_ (fun c_4250_14 => ?_)
         · refine SD.all2 (i := 27) (j := 33) (by kernel_rfl) ?_ ?_
           · refine SW.pre (pre_ix (i := 0) (iv := x_3) (sz := 4) (R := R_T_api_Write) (l := a_1) (by kernel_rfl) rfl e_x_6411) ?_
             refine SW.eff D_8 (i := 27) (v := vp 12 0) (bs' := (bm 52 7784628223)) rfl (.inr ⟨_, _, _, _, rfl, rfl, rfl, hg_4250⟩) rfl (e_valE tk (.el 12) [x_3] (by kernel_rfl)) (by kernel_rfl) rfl (by kernel_rfl) ?_
             exact SD.vie D_8 [.g 0, .g 1, .g 2, .g 3, .g 4, .g 5, .g 6, .g 7, .g 8, .g 9, .g 12, .g 13, .g 10, .g 11] c_4250_10 (by kernel_rfl)
           refine SW.eff D_8 (i := 33) (v := vp 10 2) (bs' := (bm 52 16240345087)) rfl (.inr ⟨_, _, _, _, rfl, rfl, rfl, hg_4250⟩) rfl (e_val tk (by kernel_rfl)) (by kernel_rfl) rfl (by kernel_rfl) ?_
           exact SD.vie D_8 [.g 0, .g 1, .g 2, .g 3, .g 4, .g 5, .g 6, .g 7, .g 8, .g 9, .g 10, .g 11] c_4250_13 (by kernel_rfl)
         refine SD.all2 (i := 27) (j := 32) (by kernel_rfl) ?_ ?_
         · refine SW.pre (pre_ix (i := 0) (iv := x_3) (sz := 4) (R := R_T_api_Write) (l := a_1) (by kernel_rfl) rfl e_x_6411) ?_
           refine SW.eff D_8 (i := 27) (v := vp 10 0) (bs' := (bm 52 3489660927)) rfl (.inr ⟨_, _, _, _, rfl, rfl, rfl, hg_4250⟩) rfl (e_valE tk (.el 10) [x_3] (by kernel_rfl)) (by kernel_rfl) rfl (by kernel_rfl) ?_
           exact SD.vie D_8 [.g 0, .g 1, .g 2, .g 3, .g 4, .g 5, .g 6, .g 7, .g 8, .g 9, .g 10, .g 11] c_4250_11 (by kernel_rfl)
         refine SW.pre (pre_ix (i := 1) (iv := x_3) (sz := 4) (R := R_T_api_Write) (l := b_2) (by kernel_rfl) rfl e_x_6811) ?_
         refine SW.eff D_8 (i := 32) (v := vp 10 0) (bs' := (bm 52 7650410495)) rfl (.inr ⟨_, _, _, _, rfl, rfl, rfl, hg_4250⟩) rfl (e_valE tk (.el 10) [x_3] (by kernel_rfl)) (by kernel_rfl) rfl (by kernel_rfl) ?_
         exact SD.vie D_8 [.g 0, .g 1, .g 2, .g 3, .g 4, .g 5, .g 6, .g 7, .g 8, .g 9, .g 10, .g 11] c_4250_14 (by kernel_rfl)
       refine SD.lay 31 (bm 52 2097151) [(0, vs 0), (1, vs 1), (5, vi .i64 x_3), (28, vb (x_5.Bank != x_6.Bank)), (29, vs 0), (30, vi .i64 x_3), (31, vp 6 0), (32, vp 6 1), (33, vb x_1130.Erase), (34, vs 1), (35, vi .i64 x_3), (36, vp 8 0), (37, vp 8 1)] [.rd 4 R_T_api_Write a_1, .rd 4 R_T_api_Write b_2, .elt (some (0, x_3)) false (C_api_Write x_5 (.s 3)), .rd 1 R8 x_5.Bytes, .elt (some (1, x_3)) false (C_api_Write x_6 (.s 5)), .rd 1 R8 x_6.Bytes, .elt none false (C_api_Write x_1130 (.s 7)), .rd 1 R8 x_1130.Bytes, .elt none false (C_api_Write x_1530 (.s 9)), .rd 1 R8 x_1530.Bytes] ?_ (fun c_9_1 => ?_)
       · refine SD.all1 (i := 21) (by kernel_rfl) ?_
         refine SW.eff D_8 (i := 21) (v := vb x_1530.Erase) (bs' := (bm 52 4194303)) rfl (.inr ⟨_, _, _, _, rfl, rfl, rfl, hg_9⟩) rfl (e_val tk (by kernel_rfl)) (by kernel_rfl) rfl (by kernel_rfl) ?_
         refine SD.takes tk D_8 [(28, false)] (knS rfl hg_9 kn0) [22, 23, 24] [] [] (bm 52 33554431) [(0, vs 0), (1, vs 1), (5, vi .i64 x_3), (29, vs 0), (30, vi .i64 x_3), (31, vp 6 0), (32, vp 6 1), (33, vb x_1130.Erase), (34, vs 1), (35, vi .i64 x_3), (36, vp 8 0), (37, vp 8 1), (38, vb x_1530.Erase), (39, vb (x_1130.Erase != x_1530.Erase)), (41, vb (x_1130.Erase != x_1530.Erase))] rfl (by kernel_rfl) (by kernel_rfl) (by kernel_rfl) ?_
         exact SD.vie D_8 [.g 0, .g 1, .g 2, .g 3, .g 4, .g 5, .g 6, .g 7, .g 8, .g 9] c_9_0 (by kernel_rfl)
       refine SD.lay 32 (bm 52 1048575) [(0, vs 0), (1, vs 1), (5, vi .i64 x_3), (28, vb (x_5.Bank != x_6.Bank)), (29, vs 0), (30, vi .i64 x_3), (31, vp 6 0), (32, vp 6 1), (33, vb x_1130.Erase), (34, vs 1), (35, vi .i64 x_3), (36, vp 8 0)] [.rd 4 R_T_api_Write a_1, .rd 4 R_T_api_Write b_2, .elt (some (0, x_3)) false (C_api_Write x_5 (.s 3)), .rd 1 R8 x_5.Bytes, .elt (some (1, x_3)) false (C_api_Write x_6 (.s 5)), .rd 1 R8 x_6.Bytes, .elt none false (C_api_Write x_1130 (.s 7)), .rd 1 R8 x_1130.Bytes, .elt none false (C_api_Write x_1530 (.s 9)), .rd 1 R8 x_1530.Bytes] ?_ (fun c_9_2 => ?_)
       · refine SD.all1 (i := 20) (by kernel_rfl) ?_
         refine SW.eff D_8 (i := 20) (v := vp 8 1) (bs' := (bm 52 2097151)) rfl (.inr ⟨_, _, _, _, rfl, rfl, rfl, hg_9⟩) rfl (e_val tk (by kernel_rfl)) (by kernel_rfl) rfl (by kernel_rfl) ?_
         exact SD.vie D_8 [.g 0, .g 1, .g 2, .g 3, .g 4, .g 5, .g 6, .g 7, .g 8, .g 9] c_9_1 (by kernel_rfl)
       refine SD.lay 33 (bm 52 524287) [(0, vs 0), (1, vs 1), (5, vi .i64 x_3), (28, vb (x_5.Bank != x_6.Bank)), (29, vs 0), (30, vi .i64 x_3), (31, vp 6 0), (32, vp 6 1), (33, vb x_1130.Erase), (34, vs 1), (35, vi .i64 x_3)] [.rd 4 R_T_api_Write a_1, .rd 4 R_T_api_Write b_2, .elt (some (0, x_3)) false (C_api_Write x_5 (.s 3)), .rd 1 R8 x_5.Bytes, .elt (some (1, x_3)) false (C_api_Write x_6 (.s 5)), .rd 1 R8 x_6.Bytes, .elt none false (C_api_Write x_1130 (.s 7)), .rd 1 R8 x_1130.Bytes] ?_ (fun c_9_3 => ?_)
       · refine SD.pre (pre_ix (i := 1) (iv := x_3) (sz := 4) (R := R_T_api_Write) (l := b_2) (by kernel_rfl) rfl e_x_1530) ?_
         refine SD.all1 (i := 19) (by kernel_rfl) ?_
         refine SW.eff D_8 (i := 19) (v := vp 8 0) (bs' := (bm 52 1048575)) rfl (.inr ⟨_, _, _, _, rfl, rfl, rfl, hg_9⟩) rfl (e_valE tk (.el 8) [x_3] (by kernel_rfl)) (by kernel_rfl) rfl (by kernel_rfl) ?_
         exact SD.vie D_8 [.g 0, .g 1, .g 2, .g 3, .g 4, .g 5, .g 6, .g 7, .g 8, .g 9] c_9_2 (by kernel_rfl)
       refine SD.lay 31 (bm 52 4128767) [(0, vs 0), (1, vs 1), (5, vi .i64 x_3), (28, vb (x_5.Bank != x_6.Bank)), (29, vs 0), (30, vi .i64 x_3), (31, vp 6 0), (32, vp 6 1), (34, vs 1), (35, vi .i64 x_3), (36, vp 8 0), (37, vp 8 1), (38, vb x_1530.Erase)] [.rd 4 R_T_api_Write a_1, .rd 4 R_T_api_Write b_2, .elt (some (0, x_3)) false (C_api_Write x_5 (.s 3)), .rd 1 R8 x_5.Bytes, .elt (some (1, x_3)) false (C_api_Write x_6 (.s 5)), .rd 1 R8 x_6.Bytes, .elt none false (C_api_Write x_1130 (.s 7)), .rd 1 R8 x_1130.Bytes, .elt none false (C_api_Write x_1530 (.s 9)), .rd 1 R8 x_1530.Bytes] ?_ (fun c_9_4 => ?_)
       · refine SD.all1 (i := 16) (by kernel_rfl) ?_
         refine SW.eff D_8 (i := 16) (v := vb x_1130.Erase) (bs' := (bm 52 4194303)) rfl (.inr ⟨_, _, _, _, rfl, rfl, rfl, hg_9⟩) rfl (e_val tk (by kernel_rfl)) (by kernel_rfl) rfl (by kernel_rfl) ?_
         refine SD.takes tk D_8 [(28, false)] (knS rfl hg_9 kn0) [22, 23, 24] [] [] (bm 52 33554431) [(0, vs 0), (1, vs 1), (5, vi .i64 x_3), (29, vs 0), (30, vi .i64 x_3), (31, vp 6 0), (32, vp 6 1), (33, vb x_1130.Erase), (34, vs 1), (35, vi .i64 x_3), (36, vp 8 0), (37, vp 8 1), (38, vb x_1530.Erase), (39, vb (x_1130.Erase != x_1530.Erase)), (41, vb (x_1130.Erase != x_1530.Erase))] rfl (by kernel_rfl) (by kernel_rfl) (by kernel_rfl) ?_
         exact SD.vie D_8 [.g 0, .g 1, .g 2, .g 3, .g 4, .g 5, .g 6, .g 7, .g 8, .g 9] c_9_0 (by kernel_rfl)
       refine SD.lay 32 (bm 52 2031615) [(0, vs 0), (1, vs 1), (5, vi .i64 x_3), (28, vb (x_5.Bank != x_6.Bank)), (29, vs 0), (30, vi .i64 x_3), (31, vp 6 0), (32, vp 6 1), (34, vs 1), (35, vi .i64 x_3), (36, vp 8 0), (37, vp 8 1)] [.rd 4 R_T_api_Write a_1, .rd 4 R_T_api_Write b_2, .elt (some (0, x_3)) false (C_api_Write x_5 (.s 3)), .rd 1 R8 x_5.Bytes, .elt (some (1, x_3)) false (C_api_Write x_6 (.s 5)), .rd 1 R8 x_6.Bytes, .elt none false (C_api_Write x_1130 (.s 7)), .rd 1 R8 x_1130.Bytes, .elt none false (C_api_Write x_1530 (.s 9)), .rd 1 R8 x_1530.Bytes] ?_ (fun c_9_5 => ?_)
       · refine SD.all2 (i := 16) (j := 21) (by kernel_rfl) ?_ ?_
         · refine SW.eff D_8 (i := 16) (v := vb x_1130.Erase) (bs' := (bm 52 2097151)) rfl (.inr ⟨_, _, _, _, rfl, rfl, rfl, hg_9⟩) rfl (e_val tk (by kernel_rfl)) (by kernel_rfl) rfl (by kernel_rfl) ?_
           exact SD.vie D_8 [.g 0, .g 1, .g 2, .g 3, .g 4, .g 5, .g 6, .g 7, .g 8, .g 9] c_9_1 (by kernel_rfl)
         refine SW.eff D_8 (i := 21) (v := vb x_1530.Erase) (bs' := (bm 52 4128767)) rfl (.inr ⟨_, _, _, _, rfl, rfl, rfl, hg_9⟩) rfl (e_val tk (by kernel_rfl)) (by kernel_rfl) rfl (by kernel_rfl) ?_
         exact SD.vie D_8 [.g 0, .g 1, .g 2, .g 3, .g 4, .g 5, .g 6, .g 7, .g 8, .g 9] c_9_4 (by kernel_rfl)
       refine SD.lay 33 (bm 52 983039) [(0, vs 0), (1, vs 1), (5, vi .i64 x_3), (28, vb (x_5.Bank != x_6.Bank)), (29, vs 0), (30, vi .i64 x_3), (31, vp 6 0), (32, vp 6 1), (34, vs 1), (35, vi .i64 x_3), (36, vp 8 0)] [.rd 4 R_T_api_Write a_1, .rd 4 R_T_api_Write b_2, .elt (some (0, x_3)) false (C_api_Write x_5 (.s 3)), .rd 1 R8 x_5.Bytes, .elt (some (1, x_3)) false (C_api_Write x_6 (.s 5)), .rd 1 R8 x_6.Bytes, .elt none false (C_api_Write x_1130 (.s 7)), .rd 1 R8 x_1130.Bytes, .elt none false (C_api_Write x_1530 (.s 9)), .rd 1 R8 x_1530.Bytes] ?_ (fun c_9_6 => ?_)
       · refine SD.all2 (i := 16) (j := 20) (by kernel_rfl) ?_ ?_
         · refine SW.eff D_8 (i := 16) (v := vb x_1130.Erase) (bs' := (bm 52 1048575)) rfl (.inr ⟨_, _, _, _, rfl, rfl, rfl, hg_9⟩) rfl (e_val tk (by kernel_rfl)) (by kernel_rfl) rfl (by kernel_rfl) ?_
           exact SD.vie D_8 [.g 0, .g 1, .g 2, .g 3, .g 4, .g 5, .g 6, .g 7, .g 8, .g 9] c_9_2 (by kernel_rfl)
         refine SW.eff D_8 (i := 20) (v := vp 8 1) (bs' := (bm 52 2031615)) rfl (.inr ⟨_, _, _, _, rfl, rfl, rfl, hg_9⟩) rfl (e_val tk (by kernel_rfl)) (by kernel_rfl) rfl (by kernel_rfl) ?_
         exact SD.vie D_8 [.g 0, .g 1, .g 2, .g 3, .g 4, .g 5, .g 6, .g 7, .g 8, .g 9] c_9_5 (by kernel_rfl)
       refine SD.lay 34 (bm 52 458751) [(0, vs 0), (1, vs 1), (5, vi .i64 x_3), (28, vb (x_5.Bank != x_6.Bank)), (29, vs 0), (30, vi .i64 x_3), (31, vp 6 0), (32, vp 6 1), (34, vs 1), (35, vi .i64 x_3)] [.rd 4 R_T_api_Write a_1, .rd 4 R_T_api_Write b_2, .elt (some (0, x_3)) false (C_api_Write x_5 (.s 3)), .rd 1 R8 x_5.Bytes, .elt (some (1, x_3)) false (C_api_Write x_6 (.s 5)), .rd 1 R8 x_6.Bytes, .elt none false (C_api_Write x_1130 (.s 7)), .rd 1 R8 x_1130.Bytes] ?_ (fun c_9_7 => ?_)
       · refine SD.all2 (i := 16) (j := 19) (by kernel_rfl) ?_ ?_
         · refine SW.eff D_8 (i := 16) (v := vb x_1130.Erase) (bs' := (bm 52 524287)) rfl (.inr ⟨_, _, _, _, rfl, rfl, rfl, hg_9⟩) rfl (e_val tk (by kernel_rfl)) (by kernel_rfl) rfl (by kernel_rfl) ?_
           exact SD.vie D_8 [.g 0, .g 1, .g 2, .g 3, .g 4, .g 5, .g 6, .g 7] c_9_3 (by kernel_rfl)
         refine SW.pre (pre_ix (i := 1) (iv := x_3) (sz := 4) (R := R_T_api_Write) (l := b_2) (by kernel_rfl) rfl e_x_1530) ?_
         refine SW.eff D_8 (i := 19) (v := vp 8 0) (bs' := (bm 52 983039)) rfl (.inr ⟨_, _, _, _, rfl, rfl, rfl, hg_9⟩) rfl (e_valE tk (.el 8) [x_3] (by kernel_rfl)) (by kernel_rfl) rfl (by kernel_rfl) ?_
         exact SD.vie D_8 [.g 0, .g 1, .g 2, .g 3, .g 4, .g 5, .g 6, .g 7, .g 8, .g 9] c_9_6 (by kernel_rfl)
       refine SD.lay 32 (bm 52 4095999) [(0, vs 0), (1, vs 1), (5, vi .i64 x_3), (28, vb (x_5.Bank != x_6.Bank)), (29, vs 0), (30, vi .i64 x_3), (31, vp 6 0), (34, vs 1), (35, vi .i64 x_3), (36, vp 8 0), (37, vp 8 1), (38, vb x_1530.Erase)] [.rd 4 R_T_api_Write a_1, .rd 4 R_T_api_Write b_2, .elt (some (0, x_3)) false (C_api_Write x_5 (.s 3)), .rd 1 R8 x_5.Bytes, .elt (some (1, x_3)) false (C_api_Write x_6 (.s 5)), .rd 1 R8 x_6.Bytes, .elt none false (C_api_Write x_1130 (.s 7)), .rd 1 R8 x_1130.Bytes, .elt none false (C_api_Write x_1530 (.s 9)), .rd 1 R8 x_1530.Bytes] ?_ (fun c_9_8 => ?_)
       · refine SD.all1 (i := 15) (by kernel_rfl) ?_
         refine SW.eff D_8 (i := 15) (v := vp 6 1) (bs' := (bm 52 4128767)) rfl (.inr ⟨_, _, _, _, rfl, rfl, rfl, hg_9⟩) rfl (e_val tk (by kernel_rfl)) (by kernel_rfl) rfl (by kernel_rfl) ?_
         exact SD.vie D_8 [.g 0, .g 1, .g 2, .g 3, .g 4, .g 5, .g 6, .g 7, .g 8, .g 9] c_9_4 (by kernel_rfl)
       refine SD.lay 33 (bm 52 1998847) [(0, vs 0), (1, vs 1), (5, vi .i64 x_3), (28, vb (x_5.Bank != x_6.Bank)), (29, vs 0), (30, vi .i64 x_3), (31, vp 6 0), (34, vs 1), (35, vi .i64 x_3), (36, vp 8 0), (37, vp 8 1)] [.rd 4 R_T_api_Write a_1, .rd 4 R_T_api_Write b_2, .elt (some (0, x_3)) false (C_api_Write x_5 (.s 3)), .rd 1 R8 x_5.Bytes, .elt (some (1, x_3)) false (C_api_Write x_6 (.s 5)), .rd 1 R8 x_6.Bytes, .elt none false (C_api_Write x_1130 (.s 7)), .rd 1 R8 x_1130.Bytes, .elt none false (C_api_Write x_1530 (.s 9)), .rd 1 R8 x_1530.Bytes] ?_ (fun c_9_9 => ?_)
       · refine SD.all2 (i := 15) (j := 21) (by kernel_rfl) ?_ ?_
         · refine SW.eff D_8 (i := 15) (v := vp 6 1) (bs' := (bm 52 2031615)) rfl (.inr ⟨_, _, _, _, rfl, rfl, rfl, hg_9⟩) rfl (e_val tk (by kernel_rfl)) (by kernel_rfl) rfl (by kernel_rfl) ?_
           exact SD.vie D_8 [.g 0, .g 1, .g 2, .g 3, .g 4, .g 5, .g 6, .g 7, .g 8, .g 9] c_9_5 (by kernel_rfl)
         refine SW.eff D_8 (i := 21) (v := vb x_1530.Erase) (bs' := (bm 52 4095999)) rfl (.inr ⟨_, _, _, _, rfl, rfl, rfl, hg_9⟩) rfl (e_val tk (by kernel_rfl)) (by kernel_rfl) rfl (by kernel_rfl) ?_
         exact SD.vie D_8 [.g 0, .g 1, .g 2, .g 3, .g 4, .g 5, .g 6, .g 7, .g 8, .g 9] c_9_8 (by kernel_rfl)
       refine SD.lay 34 (bm 52 950271) [(0, vs 0), (1, vs 1), (5, vi .i64 x_3), (28, vb (x_5.Bank != x_6.Bank)), (29, vs 0), (30, vi .i64 x_3), (31, vp 6 0), (34, vs 1), (35, vi .i64 x_3), (36, vp 8 0)] [.rd 4 R_T_api_Write a_1, .rd 4 R_T_api_Write b_2, .elt (some (0, x_3)) false (C_api_Write x_5 (.s 3)), .rd 1 R8 x_5.Bytes, .elt (some (1, x_3)) false (C_api_Write x_6 (.s 5)), .rd 1 R8 x_6.Bytes, .elt none false (C_api_Write x_1130 (.s 7)), .rd 1 R8 x_1130.Bytes, .elt none false (C_api_Write x_1530 (.s 9)), .rd 1 R8 x_1530.Bytes] ?_ (fun c_9_10 => ?_)
       · refine SD.all2 (i := 15) (j := 20) (by kernel_rfl) ?_ ?_
         · refine SW.eff D_8 (i := 15) (v := vp 6 1) (bs' := (bm 52 983039)) rfl (.inr ⟨_, _, _, _, rfl, rfl, rfl, hg_9⟩) rfl (e_val tk (by kernel_rfl)) (by kernel_rfl) rfl (by kernel_rfl) ?_
           exact SD.vie D_8 [.g 0, .g 1, .g 2, .g 3, .g 4, .g 5, .g 6, .g 7, .g 8, .g 9] c_9_6 (by kernel_rfl)
         refine SW.eff D_8 (i := 20) (v := vp 8 1) (bs' := (bm 52 1998847)) rfl (.inr ⟨_, _, _, _, rfl, rfl, rfl, hg_9⟩) rfl (e_val tk (by kernel_rfl)) (by kernel_rfl) rfl (by kernel_rfl) ?_
         exact SD.vie D_8 [.g 0, .g 1, .g 2, .g 3, .g 4, .g 5, .g 6, .g 7, .g 8, .g 9] c_9_9 (by kernel_rfl)
       refine SD.lay 35 (bm 52 425983) [(0, vs 0), (1, vs 1), (5, vi .i64 x_3), (28, vb (x_5.Bank != x_6.Bank)), (29, vs 0), (30, vi .i64 x_3), (31, vp 6 0), (34, vs 1), (35, vi .i64 x_3)] [.rd 4 R_T_api_Write a_1, .rd 4 R_T_api_Write b_2, .elt (some (0, x_3)) false (C_api_Write x_5 (.s 3)), .rd 1 R8 x_5.Bytes, .elt (some (1, x_3)) false (C_api_Write x_6 (.s 5)), .rd 1 R8 x_6.Bytes, .elt none false (C_api_Write x_1130 (.s 7)), .rd 1 R8 x_1130.Bytes] ?_ (fun c_9_11 => ?_)
       · refine SD.all2 (i := 15) (j := 19) (by kernel_rfl) ?_ ?_
         · refine SW.eff D_8 (i := 15) (v := vp 6 1) (bs' := (bm 52 458751)) rfl (.inr ⟨_, _, _, _, rfl, rfl, rfl, hg_9⟩) rfl (e_val tk (by kernel_rfl)) (by kernel_rfl) rfl (by kernel_rfl) ?_
           exact SD.vie D_8 [.g 0, .g 1, .g 2, .g 3, .g 4, .g 5, .g 6, .g 7] c_9_7 (by kernel_rfl)
         refine SW.pre (pre_ix (i := 1) (iv := x_3) (sz := 4) (R := R_T_api_Write) (l := b_2) (by kernel_rfl) rfl e_x_1530) ?_
         refine SW.eff D_8 (i := 19) (v := vp 8 0) (bs' := (bm 52 950271)) rfl (.inr ⟨_, _, _, _, rfl, rfl, rfl, hg_9⟩) rfl (e_valE tk (.el 8) [x_3] (by kernel_rfl)) (by kernel_rfl) rfl (by kernel_rfl) ?_
         exact SD.vie D_8 [.g 0, .g 1, .g 2, .g 3, .g 4, .g 5, .g 6, .g 7, .g 8, .g 9] c_9_10 (by kernel_rfl)
       refine SD.lay 33 (bm 52 4079615) [(0, vs 0), (1, vs 1), (5, vi .i64 x_3), (28, vb (x_5.Bank != x_6.Bank)), (29, vs 0), (30, vi .i64 x_3), (34, vs 1), (35, vi .i64 x_3), (36, vp 6 0), (37, vp 6 1), (38, vb x_1530.Erase)] [.rd 4 R_T_api_Write a_1, .rd 4 R_T_api_Write b_2, .elt (some (0, x_3)) false (C_api_Write x_5 (.s 3)), .rd 1 R8 x_5.Bytes, .elt (some (1, x_3)) false (C_api_Write x_6 (.s 5)), .rd 1 R8 x_6.Bytes, .elt none false (C_api_Write x_1530 (.s 7)), .rd 1 R8 x_1530.Bytes] ?_ (fun c_9_12 => ?_)
       · refine SD.pre (pre_ix (i := 0) (iv := x_3) (sz := 4) (R := R_T_api_Write) (l := a_1) (by kernel_rfl) rfl e_x_1130) ?_
         refine SD.all1 (i := 14) (by kernel_rfl) ?_
         refine SW.eff D_8 (i := 14) (v := vp 8 0) (bs' := (bm 52 4095999)) rfl (.inr ⟨_, _, _, _, rfl, rfl, rfl, hg_9⟩) rfl (e_valE tk (.el 8) [x_3] (by kernel_rfl)) (by kernel_rfl) rfl (by kernel_rfl) ?_
         exact SD.vie D_8 [.g 0, .g 1, .g 2, .g 3, .g 4, .g 5, .g 8, .g 9, .g 6, .g 7] c_9_8 (by kernel_rfl)
       refine SD.lay 34 (bm 52 1982463) [(0, vs 0), (1, vs 1), (5, vi .i64 x_3), (28, vb (x_5.Bank != x_6.Bank)), (29, vs 0), (30, vi .i64 x_3), (34, vs 1), (35, vi .i64 x_3), (36, vp 6 0), (37, vp 6 1)] [.rd 4 R_T_api_Write a_1, .rd 4 R_T_api_Write b_2, .elt (some (0, x_3)) false (C_api_Write x_5 (.s 3)), .rd 1 R8 x_5.Bytes, .elt (some (1, x_3)) false (C_api_Write x_6 (.s 5)), .rd 1 R8 x_6.Bytes, .elt none false (C_api_Write x_1530 (.s 7)), .rd 1 R8 x_1530.Bytes] ?_ (fun c_9_13 => ?_)
       · refine SD.all2 (i := 14) (j := 21) (by kernel_rfl) ?_ ?_
         · refine SW.pre (pre_ix (i := 0) (iv := x_3) (sz := 4) (R := R_T_api_Write) (l := a_1) (by kernel_rfl) rfl e_x_1130) ?_
           refine SW.eff D_8 (i := 14) (v := vp 8 0) (bs' := (bm 52 1998847)) rfl (.inr ⟨_, _, _, _, rfl, rfl, rfl, hg_9⟩) rfl (e_valE tk (.el 8) [x_3] (by kernel_rfl)) (by kernel_rfl) rfl (by kernel_rfl) ?_
           exact SD.vie D_8 [.g 0, .g 1, .g 2, .g 3, .g 4, .g 5, .g 8, .g 9, .g 6, .g 7] c_9_9 (by kernel_rfl)
         refine SW.eff D_8 (i := 21) (v := vb x_1530.Erase) (bs' := (bm 52 4079615)) rfl (.inr ⟨_, _, _, _, rfl, rfl, rfl, hg_9⟩) rfl (e_val tk (by kernel_rfl)) (by kernel_rfl) rfl (by kernel_rfl) ?_
         exact SD.vie D_8 [.g 0, .g 1, .g 2, .g 3, .g 4, .g 5, .g 6, .g 7] c_9_12 (by kernel_rfl)
       refine SD.lay 35 (bm 52 933887) [(0, vs 0), (1, vs 1), (5, vi .i64 x_3), (28, vb (x_5.Bank != x_6.Bank)), (29, vs 0), (30, vi .i64 x_3), (34, vs 1), (35, vi .i64 x_3), (36, vp 6 0)] [.rd 4 R_T_api_Write a_1, .rd 4 R_T_api_Write b_2, .elt (some (0, x_3)) false (C_api_Write x_5 (.s 3)), .rd 1 R8 x_5.Bytes, .elt (some (1, x_3)) false (C_api_Write x_6 (.s 5)), .rd 1 R8 x_6.Bytes, .elt none false (C_api_Write x_1530 (.s 7)), .rd 1 R8 x_1530.Bytes] ?_ (fun c_9_14 => ?_)
       · refine SD.all2 (i := 14) (j := 20) (by kernel_rfl) ?_ ?_
         · refine SW.pre (pre_ix (i := 0) (iv := x_3) (sz := 4) (R := R_T_api_Write) (l := a_1) (by kernel_rfl) rfl e_x_1130) ?_
           refine SW.eff D_8 (i := 14) (v := vp 8 0) (bs' := (bm 52 950271)) rfl (.inr ⟨_, _, _, _, rfl, rfl, rfl, hg_9⟩) rfl (e_valE tk (.el 8) [x_3] (by kernel_rfl)) (by kernel_rfl) rfl (by kernel_rfl) ?_
           exact SD.vie D_8 [.g 0, .g 1, .g 2, .g 3, .g 4, .g 5, .g 8, .g 9, .g 6, .g 7] c_9_10 (by kernel_rfl)
         refine SW.eff D_8 (i := 20) (v := vp 6 1) (bs' := (bm 52 1982463)) rfl (.inr ⟨_, _, _, _, rfl, rfl, rfl, hg_9⟩) rfl (e_val tk (by kernel_rfl)) (by kernel_rfl) rfl (by kernel_rfl) ?_
         exact SD.vie D_8 [.g 0, .g 1, .g 2, .g 3, .g 4, .g 5, .g 6, .g 7] c_9_13 (by kernel_rfl)
       refine SD.all2 (i := 14) (j := 19) (by kernel_rfl) ?_ ?_
       · refine SW.pre (pre_ix (i := 0) (iv := x_3) (sz := 4) (R := R_T_api_Write) (l := a_1) (by kernel_rfl) rfl e_x_1130) ?_
         refine SW.eff D_8 (i := 14) (v := vp 6 0) (bs' := (bm 52 425983)) rfl (.inr ⟨_, _, _, _, rfl, rfl, rfl, hg_9⟩) rfl (e_valE tk (.el 6) [x_3] (by kernel_rfl)) (by kernel_rfl) rfl (by kernel_rfl) ?_
         exact SD.vie D_8 [.g 0, .g 1, .g 2, .g 3, .g 4, .g 5, .g 6, .g 7] c_9_11 (by kernel_rfl)
       refine SW.pre (pre_ix (i := 1) (iv := x_3) (sz := 4) (R := R_T_api_Write) (l := b_2) (by kernel_rfl) rfl e_x_1530) ?_
       refine SW.eff D_8 (i := 19) (v := vp 6 0) (bs' := (bm 52 933887)) rfl (.inr ⟨_, _, _, _, rfl, rfl, rfl, hg_9⟩) rfl (e_valE tk (.el 6) [x_3] (by kernel_rfl)) (by kernel_rfl) rfl (by kernel_rfl) ?_
       exact SD.vie D_8 [.g 0, .g 1, .g 2, .g 3, .g 4, .g 5, .g 6, .g 7] c_9_14 (by kernel_rfl)
     rintro a w ⟨z_4, hp, h⟩
     refine h.go ?_
     refine SC.if' rfl hp (fun hp => ?_) (fun hp => ?_)
     · refine SC.r tk [(4, vb false)] [] [] [] (by kernel_rfl) ?_
       have ho := done_inv hp hs1
       replace hp := ho1
       try rw [ho] at hp
       obtain rfl := some_inv' hp
       exact SC.re (js := [.g 0, .g 1]) tk (by kernel_rfl)
     refine SC.skipThen ?_
     refine SC.reg ?_
     refine SL.sim tk 3 [(0, vs 0), (1, vs 1), (5, vi .i64 (w64 (x_3 + 1)))] [] [] [] (by kernel_rfl) ?_
     refine SL.nilJ fun a w h => ?_
     exact ⟨n1, Nat.lt_succ_self _, w64 (x_3 + 1), next_inv hp hs1, h.at (js := [.g 0, .g 1]) (by kernel_rfl)⟩
   refine SC.exitJ rfl fun a w h => ?_
   have ho := done_inv hp hs1
   replace hp := ho1
   try rw [ho] at hp
   exact ⟨hp, h.at (js := [.g 0, .g 1]) (by kernel_rfl)⟩
 rintro a w ⟨hp, h⟩
 refine h.go ?_
 refine SC.r tk [(4, vb true)] [] [] [] (by kernel_rfl) ?_
 obtain rfl := some_inv' hp
 exact SC.re (js := [.g 0, .g 1]) tk (by kernel_rfl)

theorem ok_wirelessref39_Apply (F : Nat) (f_1 : T_api_Flash) (w_2 : T_api_Write) (n_3 : Int) (r : T_api_Flash) (hp : wirelessref39_Apply F f_1 w_2 n_3 = some r) : Spec Tryd.prog 15 [.g [.s 0, .s 1], .g (C_api_Write w_2 (.s 2)), vi .i64 n_3] [.rd 1 R8 f_1.Banks.1, .rd 1 R8 f_1.Banks.2, .rd 1 R8 w_2.Bytes] (.g [.s 3, .s 4]) [.gone, .gone, .gone, .rd 1 R8 r.Banks.1, .rd 1 R8 r.Banks.2] := by
 refine Spec.enter Tryd.func15 rfl Tryd.ntmps15 rfl rfl fun fx => ?_
 refine SC.seq ?_
 refine SC.reg ?_
 refine SL.eff (e_box (E := 25) [.s 0, .s 1] (by kernel_rfl)) rfl (by kernel_rfl) ?_
 refine SL.eff (e_box (E := 27) (C_api_Write w_2 (.s 2)) (by kernel_rfl)) rfl (by kernel_rfl) ?_
 refine SL.eff (e_alloc (E := 25) tk [nl, nl] (by kernel_rfl)) rfl (by kernel_rfl) ?_
 refine SL.nilThen ?_
 refine SC.seq ?_
 refine SC.reg ?_
 refine SL.sim tk 1 [(2, vi .i64 n_3), (3, vp 3 0), (4, vp 4 0), (6, vp 5 0), (10, .g [.s 0, .s 1])] [] [] [] (by kernel_rfl) ?_
 obtain ⟨x_4, e_x_4, hp⟩ := bind_inv hp
 refine SL.eff (e_c Tryd.call14 (ok_wirelessref39_Copy F f_1 _ e_x_4) [.g 0, .g 1] [.g [.s 0, .s 1]] (.g [.s 6, .s 7]) (by kernel_rfl) (.inl rfl)) rfl (by kernel_rfl) ?_
 refine SL.norm (itsN := [.rd 1 R8 f_1.Banks.1, .rd 1 R8 f_1.Banks.2, .rd 1 R8 w_2.Bytes, .blk 25 [.s 0, .s 1], .blk 27 (C_api_Write w_2 (.s 2)), .blk 25 [nl, nl], .own 1 5 R8 x_4.Banks.1, .own 1 5 R8 x_4.Banks.2]) (by kernel_rfl) ?_
 refine SL.sim tk 1 [(2, vi .i64 n_3), (3, vp 3 0), (4, vp 4 0), (6, vp 5 0)] [(3, 25, [.s 6, .s 7])] [] [] (by kernel_rfl) ?_
 refine SL.nilThen ?_
 refine SC.seq ?_
 refine SC.r tk [(2, vi .i64 n_3), (3, vp 3 0), (4, vp 4 0), (6, vp 5 0), (19, vb ((decide (w_2.Bank < 0)) || (decide (w_2.Bank > 1))))] [] [] [] (by kernel_rfl) ?_
 refine SC.if' rfl hp (fun hp => ?_) (fun hp => ?_)
 · refine SC.r tk [(6, vp 5 0)] [(5, 25, [.s 6, .s 7])] [] [] (by kernel_rfl) ?_
   obtain rfl := some_inv' hp
   exact SC.re (js := [.g 0, .g 1, .g 2, .z 6, .z 7]) tk (by kernel_rfl)
 refine SC.skipThen ?_
 refine SC.seq ?_
 refine SC.reg ?_
 refine SL.sim tk 3 [(2, vi .i64 n_3), (3, vp 3 0), (4, vp 4 0), (6, vp 5 0), (22, vi .i64 w_2.Bank), (23, vp 3 0)] [] [] [] (by kernel_rfl) ?_
 rcases Bool.eq_false_or_eq_true (w_2.Bank == 0) with he_5 | he_5
 · replace hp := if_t hp he_5
   refine SL.eff (e_ixn (n := 0) (off := 0) (T := 25) (cs := [.s 6, .s 7]) tk (eq_of_beq he_5) rfl rfl (by kernel_rfl) (by kernel_rfl)) rfl (by kernel_rfl) ?_
   refine SL.sim tk 2 [(2, vi .i64 n_3), (3, vp 3 0), (4, vp 4 0), (6, vp 5 0), (7, vs 6)] [] [] [] (by kernel_rfl) ?_
   refine SL.nilThen ?_
   refine SC.cut (fun a w => wirelessref39_Apply_j1 F w_2 n_3 x_4 = some r ∧ A 133 3 fx [(2, vi .i64 n_3), (3, vp 3 0), (4, vp 6 0), (6, vp 7 0), (7, vs 4)] [.gone, .gone, .rd 1 R8 w_2.Bytes, .blk 25 [.s 4, .s 5], .own 1 5 R8 x_4.Banks.1, .own 1 5 R8 x_4.Banks.2, .blk 27 (C_api_Write w_2 (.s 2)), .blk 25 [nl, nl]] a w) ?_ ?_
   · refine SC.r tk [(2, vi .i64 n_3), (3, vp 3 0), (4, vp 4 0), (6, vp 5 0), (7, vs 6), (27, vb w_2.Erase)] [] [] [] (by kernel_rfl) ?_
     refine SC.if' rfl hp (fun hp => ?_) (fun hp => ?_)
     · refine SC.cut (fun a w => ∃ (l_25 : (List Int)), wirelessref39_Apply_j5 F x_4 l_25 = some r ∧ A 133 3 fx [(3, vp 3 0), (6, vp 6 0)] [.gone, .gone, .gone, .blk 25 [.s 4, .s 5], .own 1 5 R8 l_25, .own 1 5 R8 x_4.Banks.2, .blk 25 [nl, nl]] a w) ?_ ?_
       · refine SC.r tk [(2, vi .i64 n_3), (3, vp 3 0), (6, vp 5 0), (7, vs 6), (8, vi .i64 0)] [] [] [] (by kernel_rfl) ?_
         refine SC.block ?_
         obtain ⟨o2, hi2, ho2⟩ := bind_inv hp
         clear hp
         refine SC.loop (fun n a w => ∃ (l_26 : (List Int)) (x_27 : Int), iter (fun s => wirelessref39_Apply_l2 F n_3 s.1 s.2) n (l_26, x_27) = some o2 ∧ A 133 3 fx [(2, vi .i64 n_3), (3, vp 3 0), (6, vp 6 0), (7, vs 4), (8, vi .i64 x_27)] [.gone, .gone, .gone, .blk 25 [.s 4, .s 5], .own 1 5 R8 l_26, .own 1 5 R8 x_4.Banks.2, .blk 25 [nl, nl]] a w) F (fun a w h => ⟨x_4.Banks.1, 0, hi2, h.at (js := [.g 0, .g 1, .g 2, .g 3, .g 6, .g 7, .g 5]) (by kernel_rfl)⟩) ?_
         rintro n2 a w ⟨l_26, x_27, hi2, h⟩
         obtain ⟨n2, q2, rfl, hp, hs2⟩ := iter_inv hi2
         replace hp : wirelessref39_Apply_l2 F n_3 l_26 x_27 = some q2 := hp
         clear hi2
         refine h.go ?_
         refine SC.seq ?_
         refine SC.r tk [(2, vi .i64 n_3), (3, vp 3 0), (6, vp 6 0), (7, vs 4), (8, vi .i64 x_27), (40, vb ((decide (x_27 < (len l_26))) && ((decide (n_3 < 0)) || (decide (x_27 < n_3)))))] [] [] [] (by kernel_rfl) ?_
         refine SC.if' rfl hp (fun hp => ?_) (fun hp => ?_)
         · refine SC.skipThen ?_
           refine SC.seq ?_
           refine SC.block ?_
           refine SC.reg ?_
           obtain ⟨x_28, e_x_28, hp⟩ := bind_inv hp
           refine SL.pre (pre_ixo (i := 4) (iv := x_27) (sz := 1) (E := 5) (R := R8) (l := l_26) (by kernel_rfl) rfl e_x_28) ?_
           refine SL.sim tk 3 [(2, vi .i64 n_3), (3, vp 3 0), (6, vp 6 0), (7, vs 4), (8, vi .i64 x_27), (45, vp 7 0)] [] [.el 7] [x_27] (by kernel_rfl) ?_
           obtain ⟨l_29, e_l_29, hp⟩ := bind_inv hp
           refine SL.eff0 (e_updf (sz := 1) (R := R8) (i := 4) (iv := x_27) (cs1 := [ci .u8 255]) (e := 255) tk rfl rfl rfl (by kernel_rfl) rfl rfl rfl Clo.int (by kernel_rfl) (by kernel_rfl) e_l_29) ?_
           refine SL.nilThen ?_
           refine SC.reg ?_
           refine SL.sim tk 3 [(2, vi .i64 n_3), (3, vp 3 0), (6, vp 6 0), (7, vs 4), (8, vi .i64 (w64 (x_27 + 1)))] [] [] [] (by kernel_rfl) ?_
           refine SL.nilJ fun a w h => ?_
           exact ⟨n2, Nat.lt_succ_self _, l_29, w64 (x_27 + 1), next_inv hp hs2, h.at (js := [.g 0, .g 1, .g 2, .g 3, .g 4, .g 5, .g 6]) (by kernel_rfl)⟩
         refine SC.exitJ rfl fun a w h => ?_
         have ho := done_inv hp hs2
         replace hp := ho2
         try rw [ho] at hp
         exact ⟨l_26, hp, h.at (js := [.g 0, .g 1, .g 2, .g 3, .g 4, .g 5, .g 6]) (by kernel_rfl)⟩
       rintro a w ⟨l_25, hp, h⟩
       refine h.go ?_
       refine SC.r tk [(6, vp 6 0)] [(6, 25, [.s 4, .s 5])] [] [] (by kernel_rfl) ?_
       obtain rfl := some_inv' hp
       exact SC.re (js := [.g 0, .g 1, .g 2, .z 4, .z 5]) tk (by kernel_rfl)
     refine SC.skipJ fun a w h => ?_
     exact ⟨hp, h.at (js := [.g 0, .g 1, .g 2, .g 3, .g 6, .g 7, .g 4, .g 5]) (by kernel_rfl)⟩
   rintro a w ⟨hp, h⟩
   refine h.go ?_
   refine SC.cut (fun a w => ∃ (l_6 : (List Int)), wirelessref39_Apply_j2 F x_4 l_6 = some r ∧ A 133 3 fx [(3, vp 3 0), (6, vp 6 0)] [.gone, .gone, .gone, .blk 25 [.s 4, .s 5], .own 1 5 R8 l_6, .own 1 5 R8 x_4.Banks.2, .blk 25 [nl, nl]] a w) ?_ ?_
   · refine SC.r tk [(2, vi .i64 n_3), (3, vp 3 0), (4, vp 6 0), (6, vp 7 0), (7, vs 4), (9, vi .i64 0)] [] [] [] (by kernel_rfl) ?_
     refine SC.block ?_
     obtain ⟨o1, hi1, ho1⟩ := bind_inv hp
     clear hp
     refine SC.loop (fun n a w => ∃ (l_7 : (List Int)) (x_8 : Int), iter (fun s => wirelessref39_Apply_l1 F w_2 n_3 s.1 s.2) n (l_7, x_8) = some o1 ∧ A 133 3 fx [(2, vi .i64 n_3), (3, vp 3 0), (4, vp 6 0), (6, vp 7 0), (7, vs 4), (9, vi .i64 x_8)] [.gone, .gone, .rd 1 R8 w_2.Bytes, .blk 25 [.s 4, .s 5], .own 1 5 R8 l_7, .own 1 5 R8 x_4.Banks.2, .blk 27 (C_api_Write w_2 (.s 2)), .blk 25 [nl, nl]] a w) F (fun a w h => ⟨x_4.Banks.1, 0, hi1, h.at (js := [.g 0, .g 1, .g 2, .g 3, .g 4, .g 5, .g 6, .g 7]) (by kernel_rfl)⟩) ?_
     rintro n1 a w ⟨l_7, x_8, hi1, h⟩
     obtain ⟨n1, q1, rfl, hp, hs1⟩ := iter_inv hi1
     replace hp : wirelessref39_Apply_l1 F w_2 n_3 l_7 x_8 = some q1 := hp
     clear hi1
     refine h.go ?_
     refine SC.seq ?_
     refine SC.r tk [(2, vi .i64 n_3), (3, vp 3 0), (4, vp 6 0), (6, vp 7 0), (7, vs 4), (9, vi .i64 x_8), (60, vb ((decide (x_8 < (len w_2.Bytes))) && ((decide (n_3 < 0)) || (decide (x_8 < n_3)))))] [] [] [] (by kernel_rfl) ?_
     refine SC.if' rfl hp (fun hp => ?_) (fun hp => ?_)
     · refine SC.skipThen ?_
       refine SC.cut (fun a w => ∃ (l_9 : (List Int)), wirelessref39_Apply_j3 F x_8 l_9 = some q1 ∧ A 133 3 fx [(2, vi .i64 n_3), (3, vp 3 0), (4, vp 6 0), (6, vp 7 0), (7, vs 4), (9, vi .i64 x_8)] [.gone, .gone, .rd 1 R8 w_2.Bytes, .blk 25 [.s 4, .s 5], .own 1 5 R8 l_9, .own 1 5 R8 x_4.Banks.2, .blk 27 (C_api_Write w_2 (.s 2)), .blk 25 [nl, nl]] a w) ?_ ?_
       · refine SC.block ?_
         refine SC.cut (fun a w => ∃ (l_10 : (List Int)), wirelessref39_Apply_j4 F w_2 x_8 l_10 = some q1 ∧ A 133 3 fx [(2, vi .i64 n_3), (3, vp 3 0), (4, vp 6 0), (6, vp 7 0), (7, vs 4), (9, vi .i64 x_8)] [.gone, .gone, .rd 1 R8 w_2.Bytes, .blk 25 [.s 4, .s 5], .own 1 5 R8 l_10, .own 1 5 R8 x_4.Banks.2, .blk 27 (C_api_Write w_2 (.s 2)), .blk 25 [nl, nl]] a w) ?_ ?_
         · refine SC.r tk [(2, vi .i64 n_3), (3, vp 3 0), (4, vp 6 0), (6, vp 7 0), (7, vs 4), (9, vi .i64 x_8), (74, vb ((decide (w_2.Offset ≥ 0)) && (decide (w_2.Offset < (w64 ((len l_7) - x_8))))))] [] [] [] (by kernel_rfl) ?_
           refine SC.if' rfl hp (fun hp => ?_) (fun hp => ?_)
           · obtain ⟨x_18, e_x_18, hp⟩ := bind_inv hp
             refine SC.pre (pre_ix (i := 2) (iv := x_8) (sz := 1) (R := R8) (l := w_2.Bytes) (by kernel_rfl) rfl e_x_18) ?_
             refine SC.draw MO (bm 9 484) (by kernel_rfl) fun kap_19 D_20 => ?_
             refine SD.takes tk D_20 [] kn0 [0, 1, 2, 3, 4, 5, 6, 7, 8, 9, 12, 13, 14, 15, 16] [.el 8] [x_8] (bm 20 127999) [(2, vi .i64 n_3), (3, vp 3 0), (4, vp 6 0), (6, vp 7 0), (7, vs 4), (9, vi .i64 x_8), (75, vs 4), (79, vi .i64 (w64 (w_2.Offset + x_8))), (80, vs 4), (84, vi .i64 (w64 (w_2.Offset + x_8))), (91, vi .u8 x_18)] rfl (by kernel_rfl) (by kernel_rfl) (by kernel_rfl) ?_
             obtain ⟨x_21, e_x_21, hp⟩ := bind_inv hp
             refine SD.all1 (i := 10) (by kernel_rfl) ?_
             refine SW.eff D_20 (i := 10) (bs' := (bm 20 129023)) rfl (.inl rfl) rfl (e_ixp (sz := 1) (E := 5) (R := R8) (by_ := 1) (l := l_7) tk rfl rfl rfl e_x_21 (by kernel_rfl)) (by kernel_rfl) rfl (by kernel_rfl) ?_
             obtain ⟨x_22, e_x_22, hp⟩ := bind_inv hp
             refine SD.all1 (i := 11) (by kernel_rfl) ?_
             refine SW.eff D_20 (i := 11) (bs' := (bm 20 131071)) rfl (.inl rfl) rfl (e_ldp1 (E := 5) (R := R8) (i := 4) (iv := w64 (w_2.Offset + x_8)) (l := l_7) tk rfl rfl e_x_22 rfl (by kernel_rfl) (by kernel_rfl) rfl) (by kernel_rfl) rfl (by kernel_rfl) ?_
             refine SD.norm (itsN := [.gone, .gone, .rd 1 R8 w_2.Bytes, .blk 25 [.s 4, .s 5], .own 1 5 R8 l_7, .own 1 5 R8 x_4.Banks.2, .blk 27 (C_api_Write w_2 (.s 2)), .blk 25 [nl, nl], .elt (some (2, x_8)) false [ci .u8 x_18], .gone]) (by kernel_rfl) ?_
             refine SD.takes tk D_20 [] kn0 [17] [] [] (bm 20 262143) [(2, vi .i64 n_3), (3, vp 3 0), (4, vp 6 0), (6, vp 7 0), (7, vs 4), (9, vi .i64 x_8), (75, vs 4), (79, vi .i64 (w64 (w_2.Offset + x_8))), (92, vi .u8 (iand .u8 x_22 x_18))] rfl (by kernel_rfl) (by kernel_rfl) (by kernel_rfl) ?_
             obtain ⟨x_23, e_x_23, hp⟩ := bind_inv hp
             refine SD.all1 (i := 18) (by kernel_rfl) ?_
             refine SW.eff D_20 (i := 18) (bs' := (bm 20 524287)) rfl (.inl rfl) rfl (e_ixp (sz := 1) (E := 5) (R := R8) (by_ := 1) (l := l_7) tk rfl rfl rfl e_x_23 (by kernel_rfl)) (by kernel_rfl) rfl (by kernel_rfl) ?_
             obtain ⟨l_24, e_l_24, hp⟩ := bind_inv hp
             refine SD.all1 (i := 19) (by kernel_rfl) ?_
             refine SW.effS D_20 (i := 19) (bs' := (bm 20 1048575)) rfl (e_stp (sz := 1) (E := 5) (R := R8) (i := 4) (iv := w64 (w_2.Offset + x_8)) (l := l_7) (e := iand .u8 x_22 x_18) tk rfl rfl rfl rfl Clo.int (by kernel_rfl) (by kernel_rfl) e_l_24) rfl (by kernel_rfl) ?_
             refine SD.norm (itsN := [.gone, .gone, .rd 1 R8 w_2.Bytes, .blk 25 [.s 4, .s 5], .own 1 5 R8 l_24, .own 1 5 R8 x_4.Banks.2, .blk 27 (C_api_Write w_2 (.s 2)), .blk 25 [nl, nl], .elt (some (2, x_8)) false [ci .u8 x_18], .gone]) (by kernel_rfl) ?_
             refine SD.done (by kernel_rfl) fun a w h => ?_
             exact ⟨l_24, hp, h.at (js := [.g 0, .g 1, .g 2, .g 3, .g 4, .g 5, .g 6, .g 7]) (by kernel_rfl)⟩
           refine SC.skipJ fun a w h => ?_
           exact ⟨l_7, hp, h.at (js := [.g 0, .g 1, .g 2, .g 3, .g 4, .g 5, .g 6, .g 7]) (by kernel_rfl)⟩
         rintro a w ⟨l_10, hp, h⟩
         refine h.go ?_
         refine SC.r tk [(2, vi .i64 n_3), (3, vp 3 0), (4, vp 6 0), (6, vp 7 0), (7, vs 4), (9, vi .i64 x_8), (112, vb (((decide (w_2.Offset < 0)) && (decide ((w64 (w_2.Offset + x_8)) ≥ 0))) && (decide ((w64 (w_2.Offset + x_8)) < (len l_10)))))] [] [] [] (by kernel_rfl) ?_
         refine SC.if' rfl hp (fun hp => ?_) (fun hp => ?_)
         · obtain ⟨x_11, e_x_11, hp⟩ := bind_inv hp
           refine SC.pre (pre_ix (i := 2) (iv := x_8) (sz := 1) (R := R8) (l := w_2.Bytes) (by kernel_rfl) rfl e_x_11) ?_
           refine SC.draw MO (bm 9 484) (by kernel_rfl) fun kap_12 D_13 => ?_
           refine SD.takes tk D_13 [] kn0 [0, 1, 2, 3, 4, 5, 6, 7, 8, 9, 12, 13, 14, 15, 16] [.el 8] [x_8] (bm 20 127999) [(2, vi .i64 n_3), (3, vp 3 0), (4, vp 6 0), (6, vp 7 0), (7, vs 4), (9, vi .i64 x_8), (113, vs 4), (117, vi .i64 (w64 (w_2.Offset + x_8))), (118, vs 4), (122, vi .i64 (w64 (w_2.Offset + x_8))), (129, vi .u8 x_11)] rfl (by kernel_rfl) (by kernel_rfl) (by kernel_rfl) ?_
           obtain ⟨x_14, e_x_14, hp⟩ := bind_inv hp
           refine SD.all1 (i := 10) (by kernel_rfl) ?_
           refine SW.eff D_13 (i := 10) (bs' := (bm 20 129023)) rfl (.inl rfl) rfl (e_ixp (sz := 1) (E := 5) (R := R8) (by_ := 1) (l := l_10) tk rfl rfl rfl e_x_14 (by kernel_rfl)) (by kernel_rfl) rfl (by kernel_rfl) ?_
           obtain ⟨x_15, e_x_15, hp⟩ := bind_inv hp
           refine SD.all1 (i := 11) (by kernel_rfl) ?_
           refine SW.eff D_13 (i := 11) (bs' := (bm 20 131071)) rfl (.inl rfl) rfl (e_ldp1 (E := 5) (R := R8) (i := 4) (iv := w64 (w_2.Offset + x_8)) (l := l_10) tk rfl rfl e_x_15 rfl (by kernel_rfl) (by kernel_rfl) rfl) (by kernel_rfl) rfl (by kernel_rfl) ?_
           refine SD.norm (itsN := [.gone, .gone, .rd 1 R8 w_2.Bytes, .blk 25 [.s 4, .s 5], .own 1 5 R8 l_10, .own 1 5 R8 x_4.Banks.2, .blk 27 (C_api_Write w_2 (.s 2)), .blk 25 [nl, nl], .elt (some (2, x_8)) false [ci .u8 x_11], .gone]) (by kernel_rfl) ?_
           refine SD.takes tk D_13 [] kn0 [17] [] [] (bm 20 262143) [(2, vi .i64 n_3), (3, vp 3 0), (4, vp 6 0), (6, vp 7 0), (7, vs 4), (9, vi .i64 x_8), (113, vs 4), (117, vi .i64 (w64 (w_2.Offset + x_8))), (130, vi .u8 (iand .u8 x_15 x_11))] rfl (by kernel_rfl) (by kernel_rfl) (by kernel_rfl) ?_
           obtain ⟨x_16, e_x_16, hp⟩ := bind_inv hp
           refine SD.all1 (i := 18) (by kernel_rfl) ?_
           refine SW.eff D_13 (i := 18) (bs' := (bm 20 524287)) rfl (.inl rfl) rfl (e_ixp (sz := 1) (E := 5) (R := R8) (by_ := 1) (l := l_10) tk rfl rfl rfl e_x_16 (by kernel_rfl)) (by kernel_rfl) rfl (by kernel_rfl) ?_
           obtain ⟨l_17, e_l_17, hp⟩ := bind_inv hp
           refine SD.all1 (i := 19) (by kernel_rfl) ?_
           refine SW.effS D_13 (i := 19) (bs' := (bm 20 1048575)) rfl (e_stp (sz := 1) (E := 5) (R := R8) (i := 4) (iv := w64 (w_2.Offset + x_8)) (l := l_10) (e := iand .u8 x_15 x_11) tk rfl rfl rfl rfl Clo.int (by kernel_rfl) (by kernel_rfl) e_l_17) rfl (by kernel_rfl) ?_
           refine SD.norm (itsN := [.gone, .gone, .rd 1 R8 w_2.Bytes, .blk 25 [.s 4, .s 5], .own 1 5 R8 l_17, .own 1 5 R8 x_4.Banks.2, .blk 27 (C_api_Write w_2 (.s 2)), .blk 25 [nl, nl], .elt (some (2, x_8)) false [ci .u8 x_11], .gone]) (by kernel_rfl) ?_
           refine SD.done (by kernel_rfl) fun a w h => ?_
           exact ⟨l_17, hp, h.at (js := [.g 0, .g 1, .g 2, .g 3, .g 4, .g 5, .g 6, .g 7]) (by kernel_rfl)⟩
         refine SC.skipJ fun a w h => ?_
         exact ⟨l_10, hp, h.at (js := [.g 0, .g 1, .g 2, .g 3, .g 4, .g 5, .g 6, .g 7]) (by kernel_rfl)⟩
       rintro a w ⟨l_9, hp, h⟩
       refine h.go ?_
       refine SC.reg ?_
       refine SL.sim tk 3 [(2, vi .i64 n_3), (3, vp 3 0), (4, vp 6 0), (6, vp 7 0), (7, vs 4), (9, vi .i64 (w64 (x_8 + 1)))] [] [] [] (by kernel_rfl) ?_
       refine SL.nilJ fun a w h => ?_
       exact ⟨n1, Nat.lt_succ_self _, l_9, w64 (x_8 + 1), next_inv hp hs1, h.at (js := [.g 0, .g 1, .g 2, .g 3, .g 4, .g 5, .g 6, .g 7]) (by kernel_rfl)⟩
     refine SC.exitJ rfl fun a w h => ?_
     have ho := done_inv hp hs1
     replace hp := ho1
     try rw [ho] at hp
     exact ⟨l_7, hp, h.at (js := [.g 0, .g 1, .g 2, .g 3, .g 4, .g 5, .g 7]) (by kernel_rfl)⟩
   rintro a w ⟨l_6, hp, h⟩
   refine h.go ?_
   refine SC.r tk [(6, vp 6 0)] [(6, 25, [.s 4, .s 5])] [] [] (by kernel_rfl) ?_
   obtain rfl := some_inv' hp
   exact SC.re (js := [.g 0, .g 1, .g 2, .z 4, .z 5]) tk (by kernel_rfl)
 replace hp := if_f hp he_5
 rcases Bool.eq_false_or_eq_true (w_2.Bank == 1) with he_30 | he_30
 · replace hp := if_t hp he_30
   refine SL.eff (e_ixn (n := 1) (off := 1) (T := 25) (cs := [.s 6, .s 7]) tk (eq_of_beq he_30) rfl rfl (by kernel_rfl) (by kernel_rfl)) rfl (by kernel_rfl) ?_
   refine SL.sim tk 2 [(2, vi .i64 n_3), (3, vp 3 0), (4, vp 4 0), (6, vp 5 0), (7, vs 7)] [] [] [] (by kernel_rfl) ?_
   refine SL.nilThen ?_
   refine SC.cut (fun a w => wirelessref39_Apply_j6 F w_2 n_3 x_4 = some r ∧ A 133 3 fx [(2, vi .i64 n_3), (3, vp 3 0), (4, vp 6 0), (6, vp 7 0), (7, vs 5)] [.gone, .gone, .rd 1 R8 w_2.Bytes, .blk 25 [.s 4, .s 5], .own 1 5 R8 x_4.Banks.1, .own 1 5 R8 x_4.Banks.2, .blk 27 (C_api_Write w_2 (.s 2)), .blk 25 [nl, nl]] a w) ?_ ?_
   · refine SC.r tk [(2, vi .i64 n_3), (3, vp 3 0), (4, vp 4 0), (6, vp 5 0), (7, vs 7), (27, vb w_2.Erase)] [] [] [] (by kernel_rfl) ?_
     refine SC.if' rfl hp (fun hp => ?_) (fun hp => ?_)
     · refine SC.cut (fun a w => ∃ (l_50 : (List Int)), wirelessref39_Apply_j10 F x_4 l_50 = some r ∧ A 133 3 fx [(3, vp 3 0), (6, vp 6 0)] [.gone, .gone, .gone, .blk 25 [.s 4, .s 5], .own 1 5 R8 x_4.Banks.1, .own 1 5 R8 l_50, .blk 25 [nl, nl]] a w) ?_ ?_
       · refine SC.r tk [(2, vi .i64 n_3), (3, vp 3 0), (6, vp 5 0), (7, vs 7), (8, vi .i64 0)] [] [] [] (by kernel_rfl) ?_
         refine SC.block ?_
         obtain ⟨o4, hi4, ho4⟩ := bind_inv hp
         clear hp
         refine SC.loop (fun n a w => ∃ (l_51 : (List Int)) (x_52 : Int), iter (fun s => wirelessref39_Apply_l4 F n_3 s.1 s.2) n (l_51, x_52) = some o4 ∧ A 133 3 fx [(2, vi .i64 n_3), (3, vp 3 0), (6, vp 6 0), (7, vs 5), (8, vi .i64 x_52)] [.gone, .gone, .gone, .blk 25 [.s 4, .s 5], .own 1 5 R8 x_4.Banks.1, .own 1 5 R8 l_51, .blk 25 [nl, nl]] a w) F (fun a w h => ⟨x_4.Banks.2, 0, hi4, h.at (js := [.g 0, .g 1, .g 2, .g 3, .g 6, .g 7, .g 5]) (by kernel_rfl)⟩) ?_
         rintro n4 a w ⟨l_51, x_52, hi4, h⟩
         obtain ⟨n4, q4, rfl, hp, hs4⟩ := iter_inv hi4
         replace hp : wirelessref39_Apply_l4 F n_3 l_51 x_52 = some q4 := hp
         clear hi4
         refine h.go ?_
         refine SC.seq ?_
         refine SC.r tk [(2, vi .i64 n_3), (3, vp 3 0), (6, vp 6 0), (7, vs 5), (8, vi .i64 x_52), (40, vb ((decide (x_52 < (len l_51))) && ((decide (n_3 < 0)) || (decide (x_52 < n_3)))))] [] [] [] (by kernel_rfl) ?_
         refine SC.if' rfl hp (fun hp => ?_) (fun hp => ?_)
         · refine SC.skipThen ?_
           refine SC.seq ?_
           refine SC.block ?_
           refine SC.reg ?_
           obtain ⟨x_53, e_x_53, hp⟩ := bind_inv hp
           refine SL.pre (pre_ixo (i := 5) (iv := x_52) (sz := 1) (E := 5) (R := R8) (l := l_51) (by kernel_rfl) rfl e_x_53) ?_
           refine SL.sim tk 3 [(2, vi .i64 n_3), (3, vp 3 0), (6, vp 6 0), (7, vs 5), (8, vi .i64 x_52), (45, vp 7 0)] [] [.el 7] [x_52] (by kernel_rfl) ?_
           obtain ⟨l_54, e_l_54, hp⟩ := bind_inv hp
           refine SL.eff0 (e_updf (sz := 1) (R := R8) (i := 5) (iv := x_52) (cs1 := [ci .u8 255]) (e := 255) tk rfl rfl rfl (by kernel_rfl) rfl rfl rfl Clo.int (by kernel_rfl) (by kernel_rfl) e_l_54) ?_
           refine SL.nilThen ?_
           refine SC.reg ?_
           refine SL.sim tk 3 [(2, vi .i64 n_3), (3, vp 3 0), (6, vp 6 0), (7, vs 5), (8, vi .i64 (w64 (x_52 + 1)))] [] [] [] (by kernel_rfl) ?_
           refine SL.nilJ fun a w h => ?_
           exact ⟨n4, Nat.lt_succ_self _, l_54, w64 (x_52 + 1), next_inv hp hs4, h.at (js := [.g 0, .g 1, .g 2, .g 3, .g 4, .g 5, .g 6]) (by kernel_rfl)⟩
         refine SC.exitJ rfl fun a w h => ?_
         have ho := done_inv hp hs4
         replace hp := ho4
         try rw [ho] at hp
         exact ⟨l_51, hp, h.at (js := [.g 0, .g 1, .g 2, .g 3, .g 4, .g 5, .g 6]) (by kernel_rfl)⟩
       rintro a w ⟨l_50, hp, h⟩
       refine h.go ?_
       refine SC.r tk [(6, vp 6 0)] [(6, 25, [.s 4, .s 5])] [] [] (by kernel_rfl) ?_
       obtain rfl := some_inv' hp
       exact SC.re (js := [.g 0, .g 1, .g 2, .z 4, .z 5]) tk (by kernel_rfl)
     refine SC.skipJ fun a w h => ?_
     exact ⟨hp, h.at (js := [.g 0, .g 1, .g 2, .g 3, .g 6, .g 7, .g 4, .g 5]) (by kernel_rfl)⟩
   rintro a w ⟨hp, h⟩
   refine h.go ?_
   refine SC.cut (fun a w => ∃ (l_31 : (List Int)), wirelessref39_Apply_j7 F x_4 l_31 = some r ∧ A 133 3 fx [(3, vp 3 0), (6, vp 6 0)] [.gone, .gone, .gone, .blk 25 [.s 4, .s 5], .own 1 5 R8 x_4.Banks.1, .own 1 5 R8 l_31, .blk 25 [nl, nl]] a w) ?_ ?_
   · refine SC.r tk [(2, vi .i64 n_3), (3, vp 3 0), (4, vp 6 0), (6, vp 7 0), (7, vs 5), (9, vi .i64 0)] [] [] [] (by kernel_rfl) ?_
     refine SC.block ?_
     obtain ⟨o3, hi3, ho3⟩ := bind_inv hp
     clear hp
     refine SC.loop (fun n a w => ∃ (l_32 : (List Int)) (x_33 : Int), iter (fun s => wirelessref39_Apply_l3 F w_2 n_3 s.1 s.2) n (l_32, x_33) = some o3 ∧ A 133 3 fx [(2, vi .i64 n_3), (3, vp 3 0), (4, vp 6 0), (6, vp 7 0), (7, vs 5), (9, vi .i64 x_33)] [.gone, .gone, .rd 1 R8 w_2.Bytes, .blk 25 [.s 4, .s 5], .own 1 5 R8 x_4.Banks.1, .own 1 5 R8 l_32, .blk 27 (C_api_Write w_2 (.s 2)), .blk 25 [nl, nl]] a w) F (fun a w h => ⟨x_4.Banks.2, 0, hi3, h.at (js := [.g 0, .g 1, .g 2, .g 3, .g 4, .g 5, .g 6, .g 7]) (by kernel_rfl)⟩) ?_
     rintro n3 a w ⟨l_32, x_33, hi3, h⟩
     obtain ⟨n3, q3, rfl, hp, hs3⟩ := iter_inv hi3
     replace hp : wirelessref39_Apply_l3 F w_2 n_3 l_32 x_33 = some q3 := hp
     clear hi3
     refine h.go ?_
     refine SC.seq ?_
     refine SC.r tk [(2, vi .i64 n_3), (3, vp 3 0), (4, vp 6 0), (6, vp 7 0), (7, vs 5), (9, vi .i64 x_33), (60, vb ((decide (x_33 < (len w_2.Bytes))) && ((decide (n_3 < 0)) || (decide (x_33 < n_3)))))] [] [] [] (by kernel_rfl) ?_
     refine SC.if' rfl hp (fun hp => ?_) (fun hp => ?_)
     · refine SC.skipThen ?_
       refine SC.cut (fun a w => ∃ (l_34 : (List Int)), wirelessref39_Apply_j8 F x_33 l_34 = some q3 ∧ A 133 3 fx [(2, vi .i64 n_3), (3, vp 3 0), (4, vp 6 0), (6, vp 7 0), (7, vs 5), (9, vi .i64 x_33)] [.gone, .gone, .rd 1 R8 w_2.Bytes, .blk 25 [.s 4, .s 5], .own 1 5 R8 x_4.Banks.1, .own 1 5 R8 l_34, .blk 27 (C_api_Write w_2 (.s 2)), .blk 25 [nl, nl]] a w) ?_ ?_
       · refine SC.block ?_
         refine SC.cut (fun a w => ∃ (l_35 : (List Int)), wirelessref39_Apply_j9 F w_2 x_33 l_35 = some q3 ∧ A 133 3 fx [(2, vi .i64 n_3), (3, vp 3 0), (4, vp 6 0), (6, vp 7 0), (7, vs 5), (9, vi .i64 x_33)] [.gone, .gone, .rd 1 R8 w_2.Bytes, .blk 25 [.s 4, .s 5], .own 1 5 R8 x_4.Banks.1, .own 1 5 R8 l_35, .blk 27 (C_api_Write w_2 (.s 2)), .blk 25 [nl, nl]] a w) ?_ ?_
         · refine SC.r tk [(2, vi .i64 n_3), (3, vp 3 0), (4, vp 6 0), (6, vp 7 0), (7, vs 5), (9, vi .i64 x_33), (74, vb ((decide (w_2.Offset ≥ 0)) && (decide (w_2.Offset < (w64 ((len l_32) - x_33))))))] [] [] [] (by kernel_rfl) ?_
           refine SC.if' rfl hp (fun hp => ?_) (fun hp => ?_)
           · obtain ⟨x_43, e_x_43, hp⟩ := bind_inv hp
             refine SC.pre (pre_ix (i := 2) (iv := x_33) (sz := 1) (R := R8) (l := w_2.Bytes) (by kernel_rfl) rfl e_x_43) ?_
             refine SC.draw MO (bm 9 468) (by kernel_rfl) fun kap_44 D_45 => ?_
             refine SD.takes tk D_45 [] kn0 [0, 1, 2, 3, 4, 5, 6, 7, 8, 9, 12, 13, 14, 15, 16] [.el 8] [x_33] (bm 20 127999) [(2, vi .i64 n_3), (3, vp 3 0), (4, vp 6 0), (6, vp 7 0), (7, vs 5), (9, vi .i64 x_33), (75, vs 5), (79, vi .i64 (w64 (w_2.Offset + x_33))), (80, vs 5), (84, vi .i64 (w64 (w_2.Offset + x_33))), (91, vi .u8 x_43)] rfl (by kernel_rfl) (by kernel_rfl) (by kernel_rfl) ?_
             obtain ⟨x_46, e_x_46, hp⟩ := bind_inv hp
             refine SD.all1 (i := 10) (by kernel_rfl) ?_
             refine SW.eff D_45 (i := 10) (bs' := (bm 20 129023)) rfl (.inl rfl) rfl (e_ixp (sz := 1) (E := 5) (R := R8) (by_ := 1) (l := l_32) tk rfl rfl rfl e_x_46 (by kernel_rfl)) (by kernel_rfl) rfl (by kernel_rfl) ?_
             obtain ⟨x_47, e_x_47, hp⟩ := bind_inv hp
             refine SD.all1 (i := 11) (by kernel_rfl) ?_
             refine SW.eff D_45 (i := 11) (bs' := (bm 20 131071)) rfl (.inl rfl) rfl (e_ldp1 (E := 5) (R := R8) (i := 5) (iv := w64 (w_2.Offset + x_33)) (l := l_32) tk rfl rfl e_x_47 rfl (by kernel_rfl) (by kernel_rfl) rfl) (by kernel_rfl) rfl (by kernel_rfl) ?_
             refine SD.norm (itsN := [.gone, .gone, .rd 1 R8 w_2.Bytes, .blk 25 [.s 4, .s 5], .own 1 5 R8 x_4.Banks.1, .own 1 5 R8 l_32, .blk 27 (C_api_Write w_2 (.s 2)), .blk 25 [nl, nl], .elt (some (2, x_33)) false [ci .u8 x_43], .gone]) (by kernel_rfl) ?_
             refine SD.takes tk D_45 [] kn0 [17] [] [] (bm 20 262143) [(2, vi .i64 n_3), (3, vp 3 0), (4, vp 6 0), (6, vp 7 0), (7, vs 5), (9, vi .i64 x_33), (75, vs 5), (79, vi .i64 (w64 (w_2.Offset + x_33))), (92, vi .u8 (iand .u8 x_47 x_43))] rfl (by kernel_rfl) (by kernel_rfl) (by kernel_rfl) ?_
             obtain ⟨x_48, e_x_48, hp⟩ := bind_inv hp
             refine SD.all1 (i := 18) (by kernel_rfl) ?_
             refine SW.eff D_45 (i := 18) (bs' := (bm 20 524287)) rfl (.inl rfl) rfl (e_ixp (sz := 1) (E := 5) (R := R8) (by_ := 1) (l := l_32) tk rfl rfl rfl e_x_48 (by kernel_rfl)) (by kernel_rfl) rfl (by kernel_rfl) ?_
             obtain ⟨l_49, e_l_49, hp⟩ := bind_inv hp
             refine SD.all1 (i := 19) (by kernel_rfl) ?_
             refine SW.effS D_45 (i := 19) (bs' := (bm 20 1048575)) rfl (e_stp (sz := 1) (E := 5) (R := R8) (i := 5) (iv := w64 (w_2.Offset + x_33)) (l := l_32) (e := iand .u8 x_47 x_43) tk rfl rfl rfl rfl Clo.int (by kernel_rfl) (by kernel_rfl) e_l_49) rfl (by kernel_rfl) ?_
             refine SD.norm (itsN := [.gone, .gone, .rd 1 R8 w_2.Bytes, .blk 25 [.s 4, .s 5], .own 1 5 R8 x_4.Banks.1, .own 1 5 R8 l_49, .blk 27 (C_api_Write w_2 (.s 2)), .blk 25 [nl, nl], .elt (some (2, x_33)) false [ci .u8 x_43], .gone]) (by kernel_rfl) ?_
             refine SD.done (by kernel_rfl) fun a w h => ?_
             exact ⟨l_49, hp, h.at (js := [.g 0, .g 1, .g 2, .g 3, .g 4, .g 5, .g 6, .g 7]) (by kernel_rfl)⟩
           refine SC.skipJ fun a w h => ?_
           exact ⟨l_32, hp, h.at (js := [.g 0, .g 1, .g 2, .g 3, .g 4, .g 5, .g 6, .g 7]) (by kernel_rfl)⟩
         rintro a w ⟨l_35, hp, h⟩
         refine h.go ?_
         refine SC.r tk [(2, vi .i64 n_3), (3, vp 3 0), (4, vp 6 0), (6, vp 7 0), (7, vs 5), (9, vi .i64 x_33), (112, vb (((decide (w_2.Offset < 0)) && (decide ((w64 (w_2.Offset + x_33)) ≥ 0))) && (decide ((w64 (w_2.Offset + x_33)) < (len l_35)))))] [] [] [] (by kernel_rfl) ?_
         refine SC.if' rfl hp (fun hp => ?_) (fun hp => ?_)
         · obtain ⟨x_36, e_x_36, hp⟩ := bind_inv hp
           refine SC.pre (pre_ix (i := 2) (iv := x_33) (sz := 1) (R := R8) (l := w_2.Bytes) (by kernel_rfl) rfl e_x_36) ?_
           refine SC.draw MO (bm 9 468) (by kernel_rfl) fun kap_37 D_38 => ?_
           refine SD.takes tk D_38 [] kn0 [0, 1, 2, 3, 4, 5, 6, 7, 8, 9, 12, 13, 14, 15, 16] [.el 8] [x_33] (bm 20 127999) [(2, vi .i64 n_3), (3, vp 3 0), (4, vp 6 0), (6, vp 7 0), (7, vs 5), (9, vi .i64 x_33), (113, vs 5), (117, vi .i64 (w64 (w_2.Offset + x_33))), (118, vs 5), (122, vi .i64 (w64 (w_2.Offset + x_33))), (129, vi .u8 x_36)] rfl (by kernel_rfl) (by kernel_rfl) (by kernel_rfl) ?_
           obtain ⟨x_39, e_x_39, hp⟩ := bind_inv hp
           refine SD.all1 (i := 10) (by kernel_rfl) ?_
           refine SW.eff D_38 (i := 10) (bs' := (bm 20 129023)) rfl (.inl rfl) rfl (e_ixp (sz := 1) (E := 5) (R := R8) (by_ := 1) (l := l_35) tk rfl rfl rfl e_x_39 (by kernel_rfl)) (by kernel_rfl) rfl (by kernel_rfl) ?_
           obtain ⟨x_40, e_x_40, hp⟩ := bind_inv hp
           refine SD.all1 (i := 11) (by kernel_rfl) ?_
           refine SW.eff D_38 (i := 11) (bs' := (bm 20 131071)) rfl (.inl rfl) rfl (e_ldp1 (E := 5) (R := R8) (i := 5) (iv := w64 (w_2.Offset + x_33)) (l := l_35) tk rfl rfl e_x_40 rfl (by kernel_rfl) (by kernel_rfl) rfl) (by kernel_rfl) rfl (by kernel_rfl) ?_
           refine SD.norm (itsN := [.gone, .gone, .rd 1 R8 w_2.Bytes, .blk 25 [.s 4, .s 5], .own 1 5 R8 x_4.Banks.1, .own 1 5 R8 l_35, .blk 27 (C_api_Write w_2 (.s 2)), .blk 25 [nl, nl], .elt (some (2, x_33)) false [ci .u8 x_36], .gone]) (by kernel_rfl) ?_
           refine SD.takes tk D_38 [] kn0 [17] [] [] (bm 20 262143) [(2, vi .i64 n_3), (3, vp 3 0), (4, vp 6 0), (6, vp 7 0), (7, vs 5), (9, vi .i64 x_33), (113, vs 5), (117, vi .i64 (w64 (w_2.Offset + x_33))), (130, vi .u8 (iand .u8 x_40 x_36))] rfl (by kernel_rfl) (by kernel_rfl) (by kernel_rfl) ?_
           obtain ⟨x_41, e_x_41, hp⟩ := bind_inv hp
           refine SD.all1 (i := 18) (by kernel_rfl) ?_
           refine SW.eff D_38 (i := 18) (bs' := (bm 20 524287)) rfl (.inl rfl) rfl (e_ixp (sz := 1) (E := 5) (R := R8) (by_ := 1) (l := l_35) tk rfl rfl rfl e_x_41 (by kernel_rfl)) (by kernel_rfl) rfl (by kernel_rfl) ?_
           obtain ⟨l_42, e_l_42, hp⟩ := bind_inv hp
           refine SD.all1 (i := 19) (by kernel_rfl) ?_
           refine SW.effS D_38 (i := 19) (bs' := (bm 20 1048575)) rfl (e_stp (sz := 1) (E := 5) (R := R8) (i := 5) (iv := w64 (w_2.Offset + x_33)) (l := l_35) (e := iand .u8 x_40 x_36) tk rfl rfl rfl rfl Clo.int (by kernel_rfl) (by kernel_rfl) e_l_42) rfl (by kernel_rfl) ?_
           refine SD.norm (itsN := [.gone, .gone, .rd 1 R8 w_2.Bytes, .blk 25 [.s 4, .s 5], .own 1 5 R8 x_4.Banks.1, .own 1 5 R8 l_42, .blk 27 (C_api_Write w_2 (.s 2)), .blk 25 [nl, nl], .elt (some (2, x_33)) false [ci .u8 x_36], .gone]) (by kernel_rfl) ?_
           refine SD.done (by kernel_rfl) fun a w h => ?_
           exact ⟨l_42, hp, h.at (js := [.g 0, .g 1, .g 2, .g 3, .g 4, .g 5, .g 6, .g 7]) (by kernel_rfl)⟩
         refine SC.skipJ fun a w h => ?_
         exact ⟨l_35, hp, h.at (js := [.g 0, .g 1, .g 2, .g 3, .g 4, .g 5, .g 6, .g 7]) (by kernel_rfl)⟩
       rintro a w ⟨l_34, hp, h⟩
       refine h.go ?_
       refine SC.reg ?_
       refine SL.sim tk 3 [(2, vi .i64 n_3), (3, vp 3 0), (4, vp 6 0), (6, vp 7 0), (7, vs 5), (9, vi .i64 (w64 (x_33 + 1)))] [] [] [] (by kernel_rfl) ?_
       refine SL.nilJ fun a w h => ?_
       exact ⟨n3, Nat.lt_succ_self _, l_34, w64 (x_33 + 1), next_inv hp hs3, h.at (js := [.g 0, .g 1, .g 2, .g 3, .g 4, .g 5, .g 6, .g 7]) (by kernel_rfl)⟩
     refine SC.exitJ rfl fun a w h => ?_
     have ho := done_inv hp hs3
     replace hp := ho3
     try rw [ho] at hp
     exact ⟨l_32, hp, h.at (js := [.g 0, .g 1, .g 2, .g 3, .g 4, .g 5, .g 7]) (by kernel_rfl)⟩
   rintro a w ⟨l_31, hp, h⟩
   refine h.go ?_
   refine SC.r tk [(6, vp 6 0)] [(6, 25, [.s 4, .s 5])] [] [] (by kernel_rfl) ?_
   obtain rfl := some_inv' hp
   exact SC.re (js := [.g 0, .g 1, .g 2, .z 4, .z 5]) tk (by kernel_rfl)
 replace hp := if_f hp he_30
 cases hp

theorem ok_wirelessref39_Done (F : Nat) (f_1 : T_api_Flash) (l_2 : (List T_api_Write)) (r : T_api_Flash) (hp : wirelessref39_Done F f_1 l_2 = some r) : Spec Tryd.prog 50 [.g [.s 0, .s 1], vs 2] [.rd 1 R8 f_1.Banks.1, .rd 1 R8 f_1.Banks.2, .rd 4 R_T_api_Write l_2] (.g [.s 3, .s 4]) [.gone, .gone, .gone, .rd 1 R8 r.Banks.1, .rd 1 R8 r.Banks.2] := by
 refine Spec.enter Tryd.func50 rfl Tryd.ntmps50 rfl rfl fun fx => ?_
 refine SC.seq ?_
 refine SC.reg ?_
 refine SL.eff (e_box (E := 25) [.s 0, .s 1] (by kernel_rfl)) rfl (by kernel_rfl) ?_
 refine SL.eff (e_alloc (E := 25) tk [nl, nl] (by kernel_rfl)) rfl (by kernel_rfl) ?_
 refine SL.nilThen ?_
 refine SC.cut (fun a w => ∃ (c_5 : T_api_Flash), wirelessref39_Done_j1 F c_5 = some r ∧ A 19 3 fx [(2, vp 3 0), (4, vp 6 0)] [.gone, .gone, .gone, .blk 25 [.s 4, .s 5], .rd 1 R8 c_5.Banks.1, .rd 1 R8 c_5.Banks.2, .blk 25 [nl, nl]] a w) ?_ ?_
 · refine SC.r tk [(1, vs 2), (2, vp 3 0), (4, vp 4 0), (5, vi .i64 0)] [] [] [] (by kernel_rfl) ?_
   refine SC.block ?_
   obtain ⟨o1, hi1, ho1⟩ := bind_inv hp
   clear hp
   refine SC.loop (fun n a w => ∃ (c_8 : T_api_Flash) (x_9 : Int), iter (fun s => wirelessref39_Done_l1 F l_2 s.1 s.2) n (c_8, x_9) = some o1 ∧ A 19 3 fx [(1, vs 2), (2, vp 3 0), (4, vp 6 0), (5, vi .i64 x_9)] [.gone, .gone, .rd 4 R_T_api_Write l_2, .blk 25 [.s 4, .s 5], .rd 1 R8 c_8.Banks.1, .rd 1 R8 c_8.Banks.2, .blk 25 [nl, nl]] a w) F (fun a w h => ⟨f_1, 0, hi1, h.at (js := [.g 0, .g 1, .g 2, .g 3, .g 0, .g 1, .g 4]) (by kernel_rfl)⟩) ?_
   rintro n1 a w ⟨c_8, x_9, hi1, h⟩
   obtain ⟨n1, q1, rfl, hp, hs1⟩ := iter_inv hi1
   replace hp : wirelessref39_Done_l1 F l_2 c_8 x_9 = some q1 := hp
   clear hi1
   refine h.go ?_
   refine SC.seq ?_
   refine SC.r tk [(1, vs 2), (2, vp 3 0), (4, vp 6 0), (5, vi .i64 x_9), (9, vb (decide (x_9 < (len l_2))))] [] [] [] (by kernel_rfl) ?_
   refine SC.if' rfl hp (fun hp => ?_) (fun hp => ?_)
   · refine SC.skipThen ?_
     refine SC.seq ?_
     refine SC.block ?_
     obtain ⟨x_10, e_x_10, hp⟩ := bind_inv hp
     refine SC.pre (pre_ix (i := 2) (iv := x_9) (sz := 4) (R := R_T_api_Write) (l := l_2) (by kernel_rfl) rfl e_x_10) ?_
     refine SC.draw MO (bm 9 500) (by kernel_rfl) fun kap_11 D_12 => ?_
     refine SD.takes tk D_12 [] kn0 [1, 2, 3, 4] [.el 7] [x_9] [O, I, I, I, I, O, O] [(1, vs 2), (2, vp 3 0), (4, vp 6 0), (5, vi .i64 x_9), (16, .g (C_api_Write x_10 (.s 8)))] rfl (by kernel_rfl) (by kernel_rfl) (by kernel_rfl) ?_
     refine SD.all1 (i := 0) (by kernel_rfl) ?_
     refine SW.eff D_12 (i := 0) (v := .g [.s 4, .s 5]) (bs' := [I, I, I, I, I, O, O]) rfl (.inl rfl) rfl (e_val tk (by kernel_rfl)) (by kernel_rfl) rfl (by kernel_rfl) ?_
     obtain ⟨x_13, e_x_13, hp⟩ := bind_inv hp
     refine SD.all1 (i := 5) (by kernel_rfl) ?_
     refine SW.eff D_12 (i := 5) (bs' := [I, I, I, I, I, I, O]) rfl (.inl rfl) rfl (e_c Tryd.call15 (ok_wirelessref39_Apply F c_8 x_10 (-1) _ e_x_13) [.g 4, .g 5, .g 8] [.g [.s 4, .s 5], .g (C_api_Write x_10 (.s 8)), vi .i64 (-1)] (.g [.s 9, .s 10]) (by kernel_rfl) (.inl rfl)) (by kernel_rfl) rfl (by kernel_rfl) ?_
     refine SD.norm (itsN := [.gone, .gone, .rd 4 R_T_api_Write l_2, .blk 25 [.s 4, .s 5], .rd 1 R8 c_8.Banks.1, .rd 1 R8 c_8.Banks.2, .blk 25 [nl, nl], .elt (some (2, x_9)) false (C_api_Write x_10 (.s 8)), .rd 1 R8 x_10.Bytes, .rd 1 R8 x_13.Banks.1, .rd 1 R8 x_13.Banks.2]) (by kernel_rfl) ?_
     refine SD.all1 (i := 6) (by kernel_rfl) ?_
     refine SW.store D_12 tk (i := 6) (q := 3) (T := 25) (cs := [.s 9, .s 10]) (bs' := [I, I, I, I, I, I, I]) rfl (by kernel_rfl) rfl rfl (by kernel_rfl) ?_
     refine SD.doneThen (by kernel_rfl) ?_
     refine SC.reg ?_
     refine SL.sim tk 3 [(1, vs 2), (2, vp 3 0), (4, vp 6 0), (5, vi .i64 (w64 (x_9 + 1)))] [] [] [] (by kernel_rfl) ?_
     refine SL.nilJ fun a w h => ?_
     exact ⟨n1, Nat.lt_succ_self _, x_13, w64 (x_9 + 1), next_inv hp hs1, h.at (js := [.g 0, .g 1, .g 2, .g 3, .g 9, .g 10, .g 6]) (by kernel_rfl)⟩
   refine SC.exitJ rfl fun a w h => ?_
   have ho := done_inv hp hs1
   replace hp := ho1
   try rw [ho] at hp
   exact ⟨c_8, hp, h.at (js := [.g 0, .g 1, .g 2, .g 3, .g 4, .g 5, .g 6]) (by kernel_rfl)⟩
 rintro a w ⟨c_5, hp, h⟩
 refine h.go ?_
 refine SC.r tk [(4, vp 6 0)] [(6, 25, [.s 4, .s 5])] [] [] (by kernel_rfl) ?_
 obtain rfl := some_inv' hp
 exact SC.re (js := [.g 0, .g 1, .g 2, .g 4, .g 5]) tk (by kernel_rfl)

theorem ok_wirelessref39_Put (F : Nat) (s_1 : T_api_Store) (key_2 : Int) (value_3 : (List Int)) (r : T_api_Store × Int) (hp : wirelessref39_Put F s_1 key_2 value_3 = some r) : Spec Tryd.prog 26 [.g (C_api_Store s_1 (.s 0) (.s 1) (.s 2)), vi .u16 key_2, vs 3] [.rd 1 R8 s_1.Flash.Banks.1, .rd 1 R8 s_1.Flash.Banks.2, .rd 2 R_T_api_Item s_1.Items, .rd 1 R8 value_3] (.u [.inr [.s 4, .s 5, ci .i64 r.1.Bank, ci .i64 r.1.Count, ci .i64 r.1.End, .s 6], .inl (ci .i64 r.2)]) [.gone, .gone, .gone, .gone, .rd 1 R8 r.1.Flash.Banks.1, .rd 1 R8 r.1.Flash.Banks.2, .rd 2 R_T_api_Item r.1.Items] := by
 refine Spec.enter Tryd.func26 rfl Tryd.ntmps26 rfl rfl fun fx => ?_
 refine SC.seq ?_
 refine SC.reg ?_
 refine SL.eff (e_box (E := 40) (C_api_Store s_1 (.s 0) (.s 1) (.s 2)) (by kernel_rfl)) rfl (by kernel_rfl) ?_
 refine SL.eff (e_alloc (E := 40) tk [nl, nl, ci .i64 0, ci .i64 0, ci .i64 0, nl] (by kernel_rfl)) rfl (by kernel_rfl) ?_
 refine SL.sim tk 1 [(1, vi .u16 key_2), (2, vs 3), (3, vp 4 0), (6, vp 5 0)] [] [] [] (by kernel_rfl) ?_
 refine SL.nilThen ?_
 refine SC.seq ?_
 refine SC.reg ?_
 refine SL.sim tk 3 [(3, vp 4 0), (6, vp 5 0), (13, .g (C_api_Store s_1 (.s 0) (.s 1) (.s 2))), (14, vi .u16 key_2), (15, vs 3)] [] [] [] (by kernel_rfl) ?_
 obtain ⟨x_4, e_x_4, hp⟩ := bind_inv hp
 refine SL.eff (e_c Tryd.call23 (ok_wirelessref39_Plan F s_1 key_2 value_3 _ e_x_4) [.g 0, .g 1, .g 2, .g 3] [.g (C_api_Store s_1 (.s 0) (.s 1) (.s 2)), vi .u16 key_2, vs 3] (.u [.inl (.s 6), .inl (ci .i64 x_4.2)]) (by kernel_rfl) (.inl rfl)) rfl (by kernel_rfl) ?_
 refine SL.norm (itsN := [.rd 1 R8 s_1.Flash.Banks.1, .rd 1 R8 s_1.Flash.Banks.2, .rd 2 R_T_api_Item s_1.Items, .rd 1 R8 value_3, .blk 40 (C_api_Store s_1 (.s 0) (.s 1) (.s 2)), .blk 40 [nl, nl, ci .i64 0, ci .i64 0, ci .i64 0, nl], .rd 4 R_T_api_Write x_4.1]) (by kernel_rfl) ?_
 refine SL.sim tk 5 [(3, vp 4 0), (6, vp 5 0), (8, vs 6), (9, vi .i64 x_4.2)] [] [] [] (by kernel_rfl) ?_
 refine SL.nilThen ?_
 refine SC.seq ?_
 refine SC.r tk [(3, vp 4 0), (6, vp 5 0), (8, vs 6), (9, vi .i64 x_4.2), (20, vb (x_4.2 != 0))] [] [] [] (by kernel_rfl) ?_
 refine SC.if' rfl hp (fun hp => ?_) (fun hp => ?_)
 · refine SC.r tk [(6, vp 5 0), (7, vi .i64 x_4.2)] [(5, 40, (C_api_Store s_1 (.s 0) (.s 1) (.s 2)))] [] [] (by kernel_rfl) ?_
   obtain rfl := some_inv' hp
   exact SC.re (js := [.g 0, .g 1, .g 2, .g 3, .g 0, .g 1, .g 2]) tk (by kernel_rfl)
 refine SC.skipThen ?_
 refine SC.seq ?_
 refine SC.reg ?_
 refine SL.sim tk 3 [(6, vp 5 0), (25, .g [.s 0, .s 1]), (26, vs 6)] [] [] [] (by kernel_rfl) ?_
 obtain ⟨x_5, e_x_5, hp⟩ := bind_inv hp
 refine SL.eff (e_c Tryd.call50 (ok_wirelessref39_Done F s_1.Flash x_4.1 _ e_x_5) [.g 0, .g 1, .g 6] [.g [.s 0, .s 1], vs 6] (.g [.s 7, .s 8]) (by kernel_rfl) (.inl rfl)) rfl (by kernel_rfl) ?_
 obtain ⟨x_6, e_x_6, hp⟩ := bind_inv hp
 refine SL.eff (e_c Tryd.call17 (ok_wirelessref39_Mount F x_5 _ e_x_6) [.g 7, .g 8] [.g [.s 7, .s 8]] (.u [.inr (C_api_Store x_6.1 (.s 9) (.s 10) (.s 11)), .inl (ci .i64 x_6.2)]) (by kernel_rfl) (.inl rfl)) rfl (by kernel_rfl) ?_
 refine SL.norm (itsN := [.rd 1 R8 s_1.Flash.Banks.1, .rd 1 R8 s_1.Flash.Banks.2, .rd 2 R_T_api_Item s_1.Items, .rd 1 R8 value_3, .blk 40 (C_api_Store s_1 (.s 0) (.s 1) (.s 2)), .blk 40 [nl, nl, ci .i64 0, ci .i64 0, ci .i64 0, nl], .rd 4 R_T_api_Write x_4.1, .rd 1 R8 x_5.Banks.1, .rd 1 R8 x_5.Banks.2, .rd 1 R8 x_6.1.Flash.Banks.1, .rd 1 R8 x_6.1.Flash.Banks.2, .rd 2 R_T_api_Item x_6.1.Items]) (by kernel_rfl) ?_
 refine SL.sim tk 3 [(6, vp 5 0), (29, .g (C_api_Store x_6.1 (.s 9) (.s 10) (.s 11))), (30, vi .i64 x_6.2)] [] [] [] (by kernel_rfl) ?_
 refine SL.eff (e_alloc (E := 40) tk [nl, nl, ci .i64 0, ci .i64 0, ci .i64 0, nl] (by kernel_rfl)) rfl (by kernel_rfl) ?_
 refine SL.sim tk 2 [(6, vp 5 0), (10, vp 12 0)] [(12, 40, (C_api_Store x_6.1 (.s 9) (.s 10) (.s 11)))] [] [] (by kernel_rfl) ?_
 refine SL.nilThen ?_
 refine SC.r tk [(6, vp 5 0), (7, vi .i64 0)] [(5, 40, (C_api_Store x_6.1 (.s 9) (.s 10) (.s 11)))] [] [] (by kernel_rfl) ?_
 obtain rfl := some_inv' hp
 exact SC.re (js := [.g 0, .g 1, .g 2, .g 3, .g 9, .g 10, .g 11]) tk (by kernel_rfl)

theorem ok_wirelessref39_SameFlash (F : Nat) (a_1 : T_api_Flash) (b_2 : T_api_Flash) (r : Bool) (hp : wirelessref39_SameFlash F a_1 b_2 = some r) : Spec Tryd.prog 12 [.g [.s 0, .s 1], .g [.s 2, .s 3]] [.rd 1 R8 a_1.Banks.1, .rd 1 R8 a_1.Banks.2, .rd 1 R8 b_2.Banks.1, .rd 1 R8 b_2.Banks.2] (vb r) [.gone, .gone, .gone, .gone] := by
 refine Spec.enter Tryd.func12 rfl Tryd.ntmps12 rfl rfl fun fx => ?_
 refine SC.seq ?_
 refine SC.reg ?_
 refine SL.eff (e_box (E := 25) [.s 0, .s 1] (by kernel_rfl)) rfl (by kernel_rfl) ?_
 refine SL.eff (e_box (E := 25) [.s 2, .s 3] (by kernel_rfl)) rfl (by kernel_rfl) ?_
 refine SL.sim tk 1 [(2, vp 4 0), (3, vp 5 0)] [] [] [] (by kernel_rfl) ?_
 refine SL.nilThen ?_
 refine SC.seq ?_
 refine SC.reg ?_
 refine SL.sim tk 1 [(2, vp 4 0), (3, vp 5 0), (5, vp 4 0)] [] [] [] (by kernel_rfl) ?_
 refine SL.eff (e_ixa (off := 0) (T := 25) (cs := [.s 0, .s 1]) tk rfl rfl (by kernel_rfl) (by kernel_rfl)) rfl (by kernel_rfl) ?_
 refine SL.sim tk 1 [(2, vp 4 0), (3, vp 5 0), (7, vs 0)] [] [] [] (by kernel_rfl) ?_
 refine SL.eff (e_b2s (l := a_1.Banks.1) tk rfl (.r (by kernel_rfl)) (by kernel_rfl)) rfl (by kernel_rfl) ?_
 refine SL.norm (itsN := [.rd 1 R8 a_1.Banks.1, .rd 1 R8 a_1.Banks.2, .rd 1 R8 b_2.Banks.1, .rd 1 R8 b_2.Banks.2, .blk 25 [.s 0, .s 1], .blk 25 [.s 2, .s 3], .str (str a_1.Banks.1)]) (by kernel_rfl) ?_
 refine SL.sim tk 1 [(2, vp 4 0), (3, vp 5 0), (8, vt 6), (9, vp 5 0)] [] [] [] (by kernel_rfl) ?_
 refine SL.eff (e_ixa (off := 0) (T := 25) (cs := [.s 2, .s 3]) tk rfl rfl (by kernel_rfl) (by kernel_rfl)) rfl (by kernel_rfl) ?_
 refine SL.sim tk 1 [(2, vp 4 0), (3, vp 5 0), (8, vt 6), (11, vs 2)] [] [] [] (by kernel_rfl) ?_
 refine SL.eff (e_b2s (l := b_2.Banks.1) tk rfl (.r (by kernel_rfl)) (by kernel_rfl)) rfl (by kernel_rfl) ?_
 refine SL.sim tk 2 [(2, vp 4 0), (3, vp 5 0), (14, vb ((str a_1.Banks.1) == (str b_2.Banks.1)))] [] [] [] (by kernel_rfl) ?_
 obtain ⟨z_4, hz, hpr⟩ := bind_inv hp
 clear hp
 refine SL.cutAt 10 (fun a w => A 25 4 fx [(24, vb z_4)] [.gone, .gone, .gone, .gone] a w) ?_ ?_
 · have hp := hz
   rcases Bool.eq_false_or_eq_true (((str a_1.Banks.1) == (str b_2.Banks.1))) with hg_3 | hg_3
   · replace hp := if_t hp hg_3
     refine SL.yes rfl rfl hg_3 ?_
     refine SL.sim tk 1 [(3, vp 5 0), (14, vb ((str a_1.Banks.1) == (str b_2.Banks.1))), (15, vp 4 0)] [] [] [] (by kernel_rfl) ?_
     refine SL.yes rfl rfl hg_3 ?_
     refine SL.eff (e_ixa (off := 1) (T := 25) (cs := [.s 0, .s 1]) tk rfl rfl (by kernel_rfl) (by kernel_rfl)) rfl (by kernel_rfl) ?_
     refine SL.yes rfl rfl hg_3 ?_
     refine SL.sim tk 1 [(3, vp 5 0), (14, vb ((str a_1.Banks.1) == (str b_2.Banks.1))), (17, vs 1)] [] [] [] (by kernel_rfl) ?_
     refine SL.yes rfl rfl hg_3 ?_
     refine SL.eff (e_b2s (l := a_1.Banks.2) tk rfl (.r (by kernel_rfl)) (by kernel_rfl)) rfl (by kernel_rfl) ?_
     refine SL.norm (itsN := [.rd 1 R8 a_1.Banks.1, .rd 1 R8 a_1.Banks.2, .rd 1 R8 b_2.Banks.1, .rd 1 R8 b_2.Banks.2, .blk 25 [.s 0, .s 1], .blk 25 [.s 2, .s 3], .str (str a_1.Banks.1), .str (str b_2.Banks.1), .str (str a_1.Banks.2)]) (by kernel_rfl) ?_
     refine SL.yes rfl rfl hg_3 ?_
     refine SL.sim tk 1 [(14, vb ((str a_1.Banks.1) == (str b_2.Banks.1))), (18, vt 8), (19, vp 5 0)] [] [] [] (by kernel_rfl) ?_
     refine SL.yes rfl rfl hg_3 ?_
     refine SL.eff (e_ixa (off := 1) (T := 25) (cs := [.s 2, .s 3]) tk rfl rfl (by kernel_rfl) (by kernel_rfl)) rfl (by kernel_rfl) ?_
     refine SL.yes rfl rfl hg_3 ?_
     refine SL.sim tk 1 [(14, vb ((str a_1.Banks.1) == (str b_2.Banks.1))), (18, vt 8), (21, vs 3)] [] [] [] (by kernel_rfl) ?_
     refine SL.yes rfl rfl hg_3 ?_
     refine SL.eff (e_b2s (l := b_2.Banks.2) tk rfl (.r (by kernel_rfl)) (by kernel_rfl)) rfl (by kernel_rfl) ?_
     refine SL.yes rfl rfl hg_3 ?_
     refine SL.sim tk 1 [(14, vb ((str a_1.Banks.1) == (str b_2.Banks.1))), (23, vb ((str a_1.Banks.2) == (str b_2.Banks.2)))] [] [] [] (by kernel_rfl) ?_
     refine SL.pickt rfl hg_3 rfl rfl ?_
     refine SL.nilJ fun a w h => ?_
     obtain rfl := some_inv' hp
     exact h.at (js := [.g 0, .g 1, .g 2, .g 3]) (by kernel_rfl)
   replace hp := if_f hp hg_3
   refine SL.no rfl rfl hg_3 rfl ?_
   refine SL.no rfl rfl hg_3 rfl ?_
   refine SL.no rfl rfl hg_3 rfl ?_
   refine SL.no rfl rfl hg_3 rfl ?_
   refine SL.no rfl rfl hg_3 rfl ?_
   refine SL.no rfl rfl hg_3 rfl ?_
   refine SL.no rfl rfl hg_3 rfl ?_
   refine SL.no rfl rfl hg_3 rfl ?_
   refine SL.no rfl rfl hg_3 rfl ?_
   refine SL.pickf rfl hg_3 rfl rfl ?_
   refine SL.nilJ fun a w h => ?_
   obtain rfl := some_inv' hp
   exact h.at (js := [.g 0, .g 1, .g 2, .g 3]) (by kernel_rfl)
 intro a w h
 have hp := hpr; clear hpr hz
 refine h.goL ?_
 refine SL.sim tk 1 [(4, vb z_4)] [] [] [] (by kernel_rfl) ?_
 refine SL.nilThen ?_
 obtain rfl := some_inv' hp
 exact SC.re (js := [.g 0, .g 1, .g 2, .g 3]) tk (by kernel_rfl)
end V
end Go.Proofs.YtojcklkcjnnkaaaDoor
