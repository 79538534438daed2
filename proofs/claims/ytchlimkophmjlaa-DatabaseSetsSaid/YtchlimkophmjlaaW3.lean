/-
  Walks, written by program: each Go function returns what its pure twin says.
-/
import Derived.Test.YtchlimkophmjlaaW2
namespace Go.Proofs.Ytchlimkophmjlaa
namespace V
theorem ok_wirelessref43_SameDB (F : Nat) (a_1 : (List T_api_Attribute)) (b_2 : (List T_api_Attribute)) (r : Bool) (hp : wirelessref43_SameDB F a_1 b_2 = some r) : Spec Try.prog 17 [vs 0, vs 1] [.rd 5 R_T_api_Attribute a_1, .rd 5 R_T_api_Attribute b_2] (vb r) [.gone, .gone] := by
 refine Spec.enter Try.func17 rfl Try.ntmps17 rfl rfl fun fx => ?_
 refine SC.r tk [(0, vs 0), (1, vs 1)] [] [] [] (by kernel_rfl) ?_
 refine SC.seq ?_
 refine SC.r tk [(0, vs 0), (1, vs 1), (10, vb ((len a_1) != (len b_2)))] [] [] [] (by kernel_rfl) ?_
 refine SC.if' rfl hp (fun hp => ?_) (fun hp => ?_)
 · refine SC.r tk [(4, vb false)] [] [] [] (by kernel_rfl) ?_
   obtain rfl := some_inv' hp
   exact SC.re (js := [.g 0, .g 1]) tk (by kernel_rfl)
 · refine SC.skipThen ?_
   refine SC.cut (fun a w => wirelessref43_SameDB_j1 F = some r ∧ A 68 2 fx [] [.gone, .gone] a w) ?_ ?_
   · refine SC.r tk [(0, vs 0), (1, vs 1), (5, vi .i64 0)] [] [] [] (by kernel_rfl) ?_
     refine SC.block ?_
     obtain ⟨o1, hi1, ho1⟩ := bind_inv hp
     clear hp
     refine SC.loop (fun n a w => ∃ (x_3 : Int), iter (fun s => wirelessref43_SameDB_l1 F a_1 b_2 s) n (x_3) = some o1 ∧ A 68 2 fx [(0, vs 0), (1, vs 1), (5, vi .i64 x_3)] [.rd 5 R_T_api_Attribute a_1, .rd 5 R_T_api_Attribute b_2] a w) F (fun a w h => ⟨0, hi1, h.at (js := [.g 0, .g 1]) (by kernel_rfl)⟩) ?_
     rintro n1 a w ⟨x_3, hi1, h⟩
     obtain ⟨n1, q1, rfl, hp, hs1⟩ := iter_inv hi1
     replace hp : wirelessref43_SameDB_l1 F a_1 b_2 x_3 = some q1 := hp
     clear hi1
     refine h.go ?_
     refine SC.seq ?_
     refine SC.r tk [(0, vs 0), (1, vs 1), (5, vi .i64 x_3), (14, vb (decide (x_3 < (len a_1))))] [] [] [] (by kernel_rfl) ?_
     refine SC.if' rfl hp (fun hp => ?_) (fun hp => ?_)
     · refine SC.skipThen ?_
       refine SC.seq ?_
       refine SC.block ?_
       refine SC.cut (fun a w => ∃ (z_4 : Bool), wirelessref43_SameDB_j2 F x_3 z_4 = some q1 ∧ A 68 2 fx [(0, vs 0), (1, vs 1), (5, vi .i64 x_3), (67, vb z_4)] [.rd 5 R_T_api_Attribute a_1, .rd 5 R_T_api_Attribute b_2] a w) ?_ ?_
       · obtain ⟨x_5, e_x_5, hp⟩ := bind_inv hp
         obtain ⟨x_6, e_x_6, hp⟩ := bind_inv hp
         refine SC.pre (pre_ix (i := 0) (iv := x_3) (sz := 5) (R := R_T_api_Attribute) (l := a_1) (by kernel_rfl) rfl e_x_5) ?_
         refine SC.pre (pre_ix (i := 1) (iv := x_3) (sz := 5) (R := R_T_api_Attribute) (l := b_2) (by kernel_rfl) rfl e_x_6) ?_
         refine SC.draw MO [I, I, I, I, I, I] (by kernel_rfl) fun kap_7 D_8 => ?_
         refine SD.takes tk D_8 [] kn0 [0, 1, 2, 3, 4, 5, 6, 7, 8, 9, 10, 11] [.el 2, .el 4] [x_3, x_3] [I, I, I, I, I, I, I, I, I, I, I, I, O, O, O, O, O, O, O, O, O, O, O, O, O, O, O, O, O, O, O, O, O, O, O, O, O, O, O, O, O, O, O, O, O, O, O, O, O, O, O] [(0, vs 0), (1, vs 1), (5, vi .i64 x_3), (28, vb (x_5.Handle != x_6.Handle))] rfl (by kernel_rfl) (by kernel_rfl) (by kernel_rfl) ?_
         rcases Bool.eq_false_or_eq_true ((x_5.Handle != x_6.Handle)) with hg_9 | hg_9
         · replace hp := if_t hp hg_9
           refine SD.takes tk D_8 [(28, true)] (knS rfl hg_9 kn0) [12, 13, 14, 15, 16, 17, 18, 19, 20, 21, 22, 23, 24] [] [] [I, I, I, I, I, I, I, I, I, I, I, I, I, I, I, I, I, I, I, I, I, I, I, I, I, O, O, O, O, O, O, O, O, O, O, O, O, O, O, O, O, O, O, O, O, O, O, O, O, O, O] [(0, vs 0), (1, vs 1), (5, vi .i64 x_3), (29, .u []), (30, .u []), (31, .u []), (32, .u []), (33, .u []), (34, .u []), (35, .u []), (36, .u []), (37, .u []), (38, .u []), (39, .u []), (41, vb true)] rfl (by kernel_rfl) (by kernel_rfl) (by kernel_rfl) ?_
           refine SD.takes tk D_8 [(41, true)] (knS rfl rfl kn0) [25, 26, 27, 28, 29, 30, 31, 32, 33, 34, 35, 36, 37] [] [] [I, I, I, I, I, I, I, I, I, I, I, I, I, I, I, I, I, I, I, I, I, I, I, I, I, I, I, I, I, I, I, I, I, I, I, I, I, I, O, O, O, O, O, O, O, O, O, O, O, O, O] [(0, vs 0), (1, vs 1), (5, vi .i64 x_3), (29, .u []), (30, .u []), (31, .u []), (32, .u []), (33, .u []), (34, .u []), (35, .u []), (36, .u []), (37, .u []), (38, .u []), (39, .u []), (42, .u []), (43, .u []), (44, .u []), (45, .u []), (46, .u []), (47, .u []), (48, .u []), (49, .u []), (50, .u []), (51, .u []), (52, .u []), (54, vb true)] rfl (by kernel_rfl) (by kernel_rfl) (by kernel_rfl) ?_
           refine SD.takes tk D_8 [(54, true)] (knS rfl rfl kn0) [38, 39, 40, 41, 42, 43, 44, 45, 46, 47, 48, 49, 50] [] [] [I, I, I, I, I, I, I, I, I, I, I, I, I, I, I, I, I, I, I, I, I, I, I, I, I, I, I, I, I, I, I, I, I, I, I, I, I, I, I, I, I, I, I, I, I, I, I, I, I, I, I] [(0, vs 0), (1, vs 1), (5, vi .i64 x_3), (29, .u []), (30, .u []), (31, .u []), (32, .u []), (33, .u []), (34, .u []), (35, .u []), (36, .u []), (37, .u []), (38, .u []), (39, .u []), (42, .u []), (43, .u []), (44, .u []), (45, .u []), (46, .u []), (47, .u []), (48, .u []), (49, .u []), (50, .u []), (51, .u []), (52, .u []), (55, .u []), (56, .u []), (57, .u []), (58, .u []), (59, .u []), (60, .u []), (61, .u []), (62, .u []), (63, .u []), (64, .u []), (65, .u []), (66, .u []), (67, vb true)] rfl (by kernel_rfl) (by kernel_rfl) (by kernel_rfl) ?_
           refine SD.done (by kernel_rfl) fun a w h => ?_
           exact ⟨true, hp, h.at (js := [.g 0, .g 1]) (by kernel_rfl)⟩
         · replace hp := if_f hp hg_9
           refine SD.takes tk D_8 [(28, false)] (knS rfl hg_9 kn0) [12, 13, 17, 18] [] [] [I, I, I, I, I, I, I, I, I, I, I, I, I, I, O, O, O, I, I, O, O, O, O, O, O, O, O, O, O, O, O, O, O, O, O, O, O, O, O, O, O, O, O, O, O, O, O, O, O, O, O] [(0, vs 0), (1, vs 1), (5, vi .i64 x_3), (28, vb (x_5.Handle != x_6.Handle)), (29, vs 0), (30, vi .i64 x_3), (34, vs 1), (35, vi .i64 x_3)] rfl (by kernel_rfl) (by kernel_rfl) (by kernel_rfl) ?_
           obtain ⟨x_1130, e_x_1130, hp⟩ := bind_inv hp
           obtain ⟨x_1530, e_x_1530, hp⟩ := bind_inv hp
           refine SD.lay 26 [I, I, I, I, I, I, I, I, I, I, I, I, I, I, I, I, I, I, I, I, I, I, I, I, I, O, O, O, O, O, O, O, O, O, O, O, O, O, O, O, O, O, O, O, O, O, O, O, O, O, O] [(0, vs 0), (1, vs 1), (5, vi .i64 x_3), (29, vs 0), (30, vi .i64 x_3), (31, vp 6 0), (32, vp 6 1), (33, .g (C_api_UUID x_1130.f_Type)), (34, vs 1), (35, vi .i64 x_3), (36, vp 8 0), (37, vp 8 1), (38, .g (C_api_UUID x_1530.f_Type)), (39, vb (!((x_1130.f_Type.High == x_1530.f_Type.High) && (x_1130.f_Type.Low == x_1530.f_Type.Low)))), (41, vb (!((x_1130.f_Type.High == x_1530.f_Type.High) && (x_1130.f_Type.Low == x_1530.f_Type.Low))))] [.rd 5 R_T_api_Attribute a_1, .rd 5 R_T_api_Attribute b_2, .elt (some (0, x_3)) false (C_api_Attribute x_5 (.s 3)), .rd 1 R8 x_5.Value, .elt (some (1, x_3)) false (C_api_Attribute x_6 (.s 5)), .rd 1 R8 x_6.Value, .elt none false (C_api_Attribute x_1130 (.s 7)), .rd 1 R8 x_1130.Value, .elt none false (C_api_Attribute x_1530 (.s 9)), .rd 1 R8 x_1530.Value] ?_ (fun c_9_0 => ?_)
           · rcases Bool.eq_false_or_eq_true ((!((x_1130.f_Type.High == x_1530.f_Type.High) && (x_1130.f_Type.Low == x_1530.f_Type.Low)))) with hg_4170 | hg_4170
             · replace hp := if_t hp hg_4170
               refine SD.takes tk D_8 [(41, true)] (knS rfl hg_4170 kn0) [25, 26, 27, 28, 29, 30, 31, 32, 33, 34, 35, 36, 37] [] [] [I, I, I, I, I, I, I, I, I, I, I, I, I, I, I, I, I, I, I, I, I, I, I, I, I, I, I, I, I, I, I, I, I, I, I, I, I, I, O, O, O, O, O, O, O, O, O, O, O, O, O] [(0, vs 0), (1, vs 1), (5, vi .i64 x_3), (29, vs 0), (30, vi .i64 x_3), (31, vp 6 0), (32, vp 6 1), (33, .g (C_api_UUID x_1130.f_Type)), (34, vs 1), (35, vi .i64 x_3), (36, vp 8 0), (37, vp 8 1), (38, .g (C_api_UUID x_1530.f_Type)), (39, vb (!((x_1130.f_Type.High == x_1530.f_Type.High) && (x_1130.f_Type.Low == x_1530.f_Type.Low)))), (42, .u []), (43, .u []), (44, .u []), (45, .u []), (46, .u []), (47, .u []), (48, .u []), (49, .u []), (50, .u []), (51, .u []), (52, .u []), (54, vb true)] rfl (by kernel_rfl) (by kernel_rfl) (by kernel_rfl) ?_
               refine SD.takes tk D_8 [(54, true)] (knS rfl rfl kn0) [38, 39, 40, 41, 42, 43, 44, 45, 46, 47, 48, 49, 50] [] [] [I, I, I, I, I, I, I, I, I, I, I, I, I, I, I, I, I, I, I, I, I, I, I, I, I, I, I, I, I, I, I, I, I, I, I, I, I, I, I, I, I, I, I, I, I, I, I, I, I, I, I] [(0, vs 0), (1, vs 1), (5, vi .i64 x_3), (29, vs 0), (30, vi .i64 x_3), (31, vp 6 0), (32, vp 6 1), (33, .g (C_api_UUID x_1130.f_Type)), (34, vs 1), (35, vi .i64 x_3), (36, vp 8 0), (37, vp 8 1), (38, .g (C_api_UUID x_1530.f_Type)), (39, vb (!((x_1130.f_Type.High == x_1530.f_Type.High) && (x_1130.f_Type.Low == x_1530.f_Type.Low)))), (42, .u []), (43, .u []), (44, .u []), (45, .u []), (46, .u []), (47, .u []), (48, .u []), (49, .u []), (50, .u []), (51, .u []), (52, .u []), (55, .u []), (56, .u []), (57, .u []), (58, .u []), (59, .u []), (60, .u []), (61, .u []), (62, .u []), (63, .u []), (64, .u []), (65, .u []), (66, .u []), (67, vb true)] rfl (by kernel_rfl) (by kernel_rfl) (by kernel_rfl) ?_
               refine SD.done (by kernel_rfl) fun a w h => ?_
               exact ⟨true, hp, h.at (js := [.g 0, .g 1]) (by kernel_rfl)⟩
             · replace hp := if_f hp hg_4170
               refine SD.takes tk D_8 [(41, false)] (knS rfl hg_4170 kn0) [25, 26, 30, 31] [] [] [I, I, I, I, I, I, I, I, I, I, I, I, I, I, I, I, I, I, I, I, I, I, I, I, I, I, I, O, O, O, I, I, O, O, O, O, O, O, O, O, O, O, O, O, O, O, O, O, O, O, O] [(0, vs 0), (1, vs 1), (5, vi .i64 x_3), (29, vs 0), (30, vi .i64 x_3), (31, vp 6 0), (32, vp 6 1), (33, .g (C_api_UUID x_1130.f_Type)), (34, vs 1), (35, vi .i64 x_3), (36, vp 8 0), (37, vp 8 1), (38, .g (C_api_UUID x_1530.f_Type)), (39, vb (!((x_1130.f_Type.High == x_1530.f_Type.High) && (x_1130.f_Type.Low == x_1530.f_Type.Low)))), (41, vb (!((x_1130.f_Type.High == x_1530.f_Type.High) && (x_1130.f_Type.Low == x_1530.f_Type.Low)))), (42, vs 0), (43, vi .i64 x_3), (47, vs 1), (48, vi .i64 x_3)] rfl (by kernel_rfl) (by kernel_rfl) (by kernel_rfl) ?_
               obtain ⟨x_6331, e_x_6331, hp⟩ := bind_inv hp
               obtain ⟨x_6731, e_x_6731, hp⟩ := bind_inv hp
               refine SD.lay 13 [I, I, I, I, I, I, I, I, I, I, I, I, I, I, I, I, I, I, I, I, I, I, I, I, I, I, I, I, I, I, I, I, I, I, I, I, I, I, O, O, O, O, O, O, O, O, O, O, O, O, O] [(0, vs 0), (1, vs 1), (5, vi .i64 x_3), (29, vs 0), (30, vi .i64 x_3), (31, vp 6 0), (32, vp 6 1), (33, .g (C_api_UUID x_1130.f_Type)), (34, vs 1), (35, vi .i64 x_3), (36, vp 8 0), (37, vp 8 1), (38, .g (C_api_UUID x_1530.f_Type)), (39, vb (!((x_1130.f_Type.High == x_1530.f_Type.High) && (x_1130.f_Type.Low == x_1530.f_Type.Low)))), (42, vs 0), (43, vi .i64 x_3), (44, vp 10 0), (45, vp 10 3), (46, vi .i64 x_6331.Perms), (47, vs 1), (48, vi .i64 x_3), (49, vp 12 0), (50, vp 12 3), (51, vi .i64 x_6731.Perms), (52, vb (x_6331.Perms != x_6731.Perms)), (54, vb (x_6331.Perms != x_6731.Perms))] [.rd 5 R_T_api_Attribute a_1, .rd 5 R_T_api_Attribute b_2, .elt (some (0, x_3)) false (C_api_Attribute x_5 (.s 3)), .rd 1 R8 x_5.Value, .elt (some (1, x_3)) false (C_api_Attribute x_6 (.s 5)), .rd 1 R8 x_6.Value, .elt none false (C_api_Attribute x_1130 (.s 7)), .rd 1 R8 x_1130.Value, .elt none false (C_api_Attribute x_1530 (.s 9)), .rd 1 R8 x_1530.Value, .elt none false (C_api_Attribute x_6331 (.s 11)), .rd 1 R8 x_6331.Value, .elt none false (C_api_Attribute x_6731 (.s 13)), .rd 1 R8 x_6731.Value] ?_ (fun c_4170_0 => ?_)
               · rcases Bool.eq_false_or_eq_true ((x_6331.Perms != x_6731.Perms)) with hg_8331 | hg_8331
                 · replace hp := if_t hp hg_8331
                   refine SD.takes tk D_8 [(54, true)] (knS rfl hg_8331 kn0) [38, 39, 40, 41, 42, 43, 44, 45, 46, 47, 48, 49, 50] [] [] [I, I, I, I, I, I, I, I, I, I, I, I, I, I, I, I, I, I, I, I, I, I, I, I, I, I, I, I, I, I, I, I, I, I, I, I, I, I, I, I, I, I, I, I, I, I, I, I, I, I, I] [(0, vs 0), (1, vs 1), (5, vi .i64 x_3), (29, vs 0), (30, vi .i64 x_3), (31, vp 6 0), (32, vp 6 1), (33, .g (C_api_UUID x_1130.f_Type)), (34, vs 1), (35, vi .i64 x_3), (36, vp 8 0), (37, vp 8 1), (38, .g (C_api_UUID x_1530.f_Type)), (39, vb (!((x_1130.f_Type.High == x_1530.f_Type.High) && (x_1130.f_Type.Low == x_1530.f_Type.Low)))), (42, vs 0), (43, vi .i64 x_3), (44, vp 10 0), (45, vp 10 3), (46, vi .i64 x_6331.Perms), (47, vs 1), (48, vi .i64 x_3), (49, vp 12 0), (50, vp 12 3), (51, vi .i64 x_6731.Perms), (52, vb (x_6331.Perms != x_6731.Perms)), (55, .u []), (56, .u []), (57, .u []), (58, .u []), (59, .u []), (60, .u []), (61, .u []), (62, .u []), (63, .u []), (64, .u []), (65, .u []), (66, .u []), (67, vb true)] rfl (by kernel_rfl) (by kernel_rfl) (by kernel_rfl) ?_
                   refine SD.done (by kernel_rfl) fun a w h => ?_
                   exact ⟨true, hp, h.at (js := [.g 0, .g 1]) (by kernel_rfl)⟩
                 · replace hp := if_f hp hg_8331
                   refine SD.takes tk D_8 [(54, false)] (knS rfl hg_8331 kn0) [38, 39, 43, 44] [] [] [I, I, I, I, I, I, I, I, I, I, I, I, I, I, I, I, I, I, I, I, I, I, I, I, I, I, I, I, I, I, I, I, I, I, I, I, I, I, I, I, O, O, O, I, I, O, O, O, O, O, O] [(0, vs 0), (1, vs 1), (5, vi .i64 x_3), (29, vs 0), (30, vi .i64 x_3), (31, vp 6 0), (32, vp 6 1), (33, .g (C_api_UUID x_1130.f_Type)), (34, vs 1), (35, vi .i64 x_3), (36, vp 8 0), (37, vp 8 1), (38, .g (C_api_UUID x_1530.f_Type)), (39, vb (!((x_1130.f_Type.High == x_1530.f_Type.High) && (x_1130.f_Type.Low == x_1530.f_Type.Low)))), (42, vs 0), (43, vi .i64 x_3), (44, vp 10 0), (45, vp 10 3), (46, vi .i64 x_6331.Perms), (47, vs 1), (48, vi .i64 x_3), (49, vp 12 0), (50, vp 12 3), (51, vi .i64 x_6731.Perms), (52, vb (x_6331.Perms != x_6731.Perms)), (54, vb (x_6331.Perms != x_6731.Perms)), (55, vs 0), (56, vi .i64 x_3), (60, vs 1), (61, vi .i64 x_3)] rfl (by kernel_rfl) (by kernel_rfl) (by kernel_rfl) ?_
                   obtain ⟨x_11532, e_x_11532, hp⟩ := bind_inv hp
                   obtain ⟨x_11932, e_x_11932, hp⟩ := bind_inv hp
                   obtain ⟨x_12172, e_x_12172, hp⟩ := bind_inv hp
                   refine SD.lay 0 [I, I, I, I, I, I, I, I, I, I, I, I, I, I, I, I, I, I, I, I, I, I, I, I, I, I, I, I, I, I, I, I, I, I, I, I, I, I, I, I, I, I, I, I, I, I, I, I, I, I, I] [(0, vs 0), (1, vs 1), (5, vi .i64 x_3), (29, vs 0), (30, vi .i64 x_3), (31, vp 6 0), (32, vp 6 1), (33, .g (C_api_UUID x_1130.f_Type)), (34, vs 1), (35, vi .i64 x_3), (36, vp 8 0), (37, vp 8 1), (38, .g (C_api_UUID x_1530.f_Type)), (39, vb (!((x_1130.f_Type.High == x_1530.f_Type.High) && (x_1130.f_Type.Low == x_1530.f_Type.Low)))), (42, vs 0), (43, vi .i64 x_3), (44, vp 10 0), (45, vp 10 3), (46, vi .i64 x_6331.Perms), (47, vs 1), (48, vi .i64 x_3), (49, vp 12 0), (50, vp 12 3), (51, vi .i64 x_6731.Perms), (52, vb (x_6331.Perms != x_6731.Perms)), (55, vs 0), (56, vi .i64 x_3), (57, vp 14 0), (58, vp 14 4), (59, vs 15), (60, vs 1), (61, vi .i64 x_3), (62, vp 16 0), (63, vp 16 4), (64, vs 17), (65, vb x_12172), (66, vb (!x_12172)), (67, vb (!x_12172))] [.rd 5 R_T_api_Attribute a_1, .rd 5 R_T_api_Attribute b_2, .elt (some (0, x_3)) false (C_api_Attribute x_5 (.s 3)), .rd 1 R8 x_5.Value, .elt (some (1, x_3)) false (C_api_Attribute x_6 (.s 5)), .rd 1 R8 x_6.Value, .elt none false (C_api_Attribute x_1130 (.s 7)), .rd 1 R8 x_1130.Value, .elt none false (C_api_Attribute x_1530 (.s 9)), .rd 1 R8 x_1530.Value, .elt none false (C_api_Attribute x_6331 (.s 11)), .rd 1 R8 x_6331.Value, .elt none false (C_api_Attribute x_6731 (.s 13)), .rd 1 R8 x_6731.Value, .elt none false (C_api_Attribute x_11532 (.s 15)), .rd 1 R8 x_11532.Value, .elt none false (C_api_Attribute x_11932 (.s 17)), .rd 1 R8 x_11932.Value] ?_ (fun c_8331_0 => ?_)
                   · refine SD.done (by kernel_rfl) fun a w h => ?_
                     exact ⟨(!x_12172), hp, h.at (js := [.g 0, .g 1]) (by kernel_rfl)⟩
                   · refine SD.lay 3 [I, I, I, I, I, I, I, I, I, I, I, I, I, I, I, I, I, I, I, I, I, I, I, I, I, I, I, I, I, I, I, I, I, I, I, I, I, I, I, I, I, I, I, I, I, I, I, I, O, O, O] [(0, vs 0), (1, vs 1), (5, vi .i64 x_3), (29, vs 0), (30, vi .i64 x_3), (31, vp 6 0), (32, vp 6 1), (33, .g (C_api_UUID x_1130.f_Type)), (34, vs 1), (35, vi .i64 x_3), (36, vp 8 0), (37, vp 8 1), (38, .g (C_api_UUID x_1530.f_Type)), (39, vb (!((x_1130.f_Type.High == x_1530.f_Type.High) && (x_1130.f_Type.Low == x_1530.f_Type.Low)))), (42, vs 0), (43, vi .i64 x_3), (44, vp 10 0), (45, vp 10 3), (46, vi .i64 x_6331.Perms), (47, vs 1), (48, vi .i64 x_3), (49, vp 12 0), (50, vp 12 3), (51, vi .i64 x_6731.Perms), (52, vb (x_6331.Perms != x_6731.Perms)), (54, vb (x_6331.Perms != x_6731.Perms)), (55, vs 0), (56, vi .i64 x_3), (57, vp 14 0), (58, vp 14 4), (59, vs 15), (60, vs 1), (61, vi .i64 x_3), (62, vp 16 0), (63, vp 16 4), (64, vs 17)] [.rd 5 R_T_api_Attribute a_1, .rd 5 R_T_api_Attribute b_2, .elt (some (0, x_3)) false (C_api_Attribute x_5 (.s 3)), .rd 1 R8 x_5.Value, .elt (some (1, x_3)) false (C_api_Attribute x_6 (.s 5)), .rd 1 R8 x_6.Value, .elt none false (C_api_Attribute x_1130 (.s 7)), .rd 1 R8 x_1130.Value, .elt none false (C_api_Attribute x_1530 (.s 9)), .rd 1 R8 x_1530.Value, .elt none false (C_api_Attribute x_6331 (.s 11)), .rd 1 R8 x_6331.Value, .elt none false (C_api_Attribute x_6731 (.s 13)), .rd 1 R8 x_6731.Value, .elt none false (C_api_Attribute x_11532 (.s 15)), .rd 1 R8 x_11532.Value, .elt none false (C_api_Attribute x_11932 (.s 17)), .rd 1 R8 x_11932.Value] ?_ (fun c_8331_1 => ?_)
                     · refine SD.all1 (i := 48) (by kernel_rfl) ?_
                       refine SW.eff D_8 (i := 48) (bs' := [I, I, I, I, I, I, I, I, I, I, I, I, I, I, I, I, I, I, I, I, I, I, I, I, I, I, I, I, I, I, I, I, I, I, I, I, I, I, I, I, I, I, I, I, I, I, I, I, I, O, O]) rfl (.inr ⟨_, _, _, _, rfl, rfl, rfl, hg_8331⟩) rfl (e_c Try.call33 (ok_wirelessref23_Same F x_11532.Value x_11932.Value _ e_x_12172) [.g 15, .g 17] [vs 15, vs 17] (vb x_12172) (by kernel_rfl) (.inl rfl)) (by kernel_rfl) rfl (by kernel_rfl) ?_
                       refine SD.takes tk D_8 [(54, false)] (knS rfl hg_8331 kn0) [49, 50] [] [] [I, I, I, I, I, I, I, I, I, I, I, I, I, I, I, I, I, I, I, I, I, I, I, I, I, I, I, I, I, I, I, I, I, I, I, I, I, I, I, I, I, I, I, I, I, I, I, I, I, I, I] [(0, vs 0), (1, vs 1), (5, vi .i64 x_3), (29, vs 0), (30, vi .i64 x_3), (31, vp 6 0), (32, vp 6 1), (33, .g (C_api_UUID x_1130.f_Type)), (34, vs 1), (35, vi .i64 x_3), (36, vp 8 0), (37, vp 8 1), (38, .g (C_api_UUID x_1530.f_Type)), (39, vb (!((x_1130.f_Type.High == x_1530.f_Type.High) && (x_1130.f_Type.Low == x_1530.f_Type.Low)))), (42, vs 0), (43, vi .i64 x_3), (44, vp 10 0), (45, vp 10 3), (46, vi .i64 x_6331.Perms), (47, vs 1), (48, vi .i64 x_3), (49, vp 12 0), (50, vp 12 3), (51, vi .i64 x_6731.Perms), (52, vb (x_6331.Perms != x_6731.Perms)), (55, vs 0), (56, vi .i64 x_3), (57, vp 14 0), (58, vp 14 4), (59, vs 15), (60, vs 1), (61, vi .i64 x_3), (62, vp 16 0), (63, vp 16 4), (64, vs 17), (65, vb x_12172), (66, vb (!x_12172)), (67, vb (!x_12172))] rfl (by kernel_rfl) (by kernel_rfl) (by kernel_rfl) ?_
                       exact SD.vie D_8 [.g 0, .g 1, .g 2, .g 3, .g 4, .g 5, .g 6, .g 7, .g 8, .g 9, .g 10, .g 11, .g 12, .g 13, .g 14, .g 15, .g 16, .g 17] c_8331_0 (by kernel_rfl)
                     · refine SD.lay 4 [I, I, I, I, I, I, I, I, I, I, I, I, I, I, I, I, I, I, I, I, I, I, I, I, I, I, I, I, I, I, I, I, I, I, I, I, I, I, I, I, I, I, I, I, I, I, I, O, O, O, O] [(0, vs 0), (1, vs 1), (5, vi .i64 x_3), (29, vs 0), (30, vi .i64 x_3), (31, vp 6 0), (32, vp 6 1), (33, .g (C_api_UUID x_1130.f_Type)), (34, vs 1), (35, vi .i64 x_3), (36, vp 8 0), (37, vp 8 1), (38, .g (C_api_UUID x_1530.f_Type)), (39, vb (!((x_1130.f_Type.High == x_1530.f_Type.High) && (x_1130.f_Type.Low == x_1530.f_Type.Low)))), (42, vs 0), (43, vi .i64 x_3), (44, vp 10 0), (45, vp 10 3), (46, vi .i64 x_6331.Perms), (47, vs 1), (48, vi .i64 x_3), (49, vp 12 0), (50, vp 12 3), (51, vi .i64 x_6731.Perms), (52, vb (x_6331.Perms != x_6731.Perms)), (54, vb (x_6331.Perms != x_6731.Perms)), (55, vs 0), (56, vi .i64 x_3), (57, vp 14 0), (58, vp 14 4), (59, vs 15), (60, vs 1), (61, vi .i64 x_3), (62, vp 16 0), (63, vp 16 4)] [.rd 5 R_T_api_Attribute a_1, .rd 5 R_T_api_Attribute b_2, .elt (some (0, x_3)) false (C_api_Attribute x_5 (.s 3)), .rd 1 R8 x_5.Value, .elt (some (1, x_3)) false (C_api_Attribute x_6 (.s 5)), .rd 1 R8 x_6.Value, .elt none false (C_api_Attribute x_1130 (.s 7)), .rd 1 R8 x_1130.Value, .elt none false (C_api_Attribute x_1530 (.s 9)), .rd 1 R8 x_1530.Value, .elt none false (C_api_Attribute x_6331 (.s 11)), .rd 1 R8 x_6331.Value, .elt none false (C_api_Attribute x_6731 (.s 13)), .rd 1 R8 x_6731.Value, .elt none false (C_api_Attribute x_11532 (.s 15)), .rd 1 R8 x_11532.Value, .elt none false (C_api_Attribute x_11932 (.s 17)), .rd 1 R8 x_11932.Value] ?_ (fun c_8331_2 => ?_)
                       · refine SD.all1 (i := 47) (by kernel_rfl) ?_
                         refine SW.eff D_8 (i := 47) (v := vs 17) (bs' := [I, I, I, I, I, I, I, I, I, I, I, I, I, I, I, I, I, I, I, I, I, I, I, I, I, I, I, I, I, I, I, I, I, I, I, I, I, I, I, I, I, I, I, I, I, I, I, I, O, O, O]) rfl (.inr ⟨_, _, _, _, rfl, rfl, rfl, hg_8331⟩) rfl (e_val tk (by kernel_rfl)) (by kernel_rfl) rfl (by kernel_rfl) ?_
                         exact SD.vie D_8 [.g 0, .g 1, .g 2, .g 3, .g 4, .g 5, .g 6, .g 7, .g 8, .g 9, .g 10, .g 11, .g 12, .g 13, .g 14, .g 15, .g 16, .g 17] c_8331_1 (by kernel_rfl)
                       · refine SD.lay 5 [I, I, I, I, I, I, I, I, I, I, I, I, I, I, I, I, I, I, I, I, I, I, I, I, I, I, I, I, I, I, I, I, I, I, I, I, I, I, I, I, I, I, I, I, I, I, O, O, O, O, O] [(0, vs 0), (1, vs 1), (5, vi .i64 x_3), (29, vs 0), (30, vi .i64 x_3), (31, vp 6 0), (32, vp 6 1), (33, .g (C_api_UUID x_1130.f_Type)), (34, vs 1), (35, vi .i64 x_3), (36, vp 8 0), (37, vp 8 1), (38, .g (C_api_UUID x_1530.f_Type)), (39, vb (!((x_1130.f_Type.High == x_1530.f_Type.High) && (x_1130.f_Type.Low == x_1530.f_Type.Low)))), (42, vs 0), (43, vi .i64 x_3), (44, vp 10 0), (45, vp 10 3), (46, vi .i64 x_6331.Perms), (47, vs 1), (48, vi .i64 x_3), (49, vp 12 0), (50, vp 12 3), (51, vi .i64 x_6731.Perms), (52, vb (x_6331.Perms != x_6731.Perms)), (54, vb (x_6331.Perms != x_6731.Perms)), (55, vs 0), (56, vi .i64 x_3), (57, vp 14 0), (58, vp 14 4), (59, vs 15), (60, vs 1), (61, vi .i64 x_3), (62, vp 16 0)] [.rd 5 R_T_api_Attribute a_1, .rd 5 R_T_api_Attribute b_2, .elt (some (0, x_3)) false (C_api_Attribute x_5 (.s 3)), .rd 1 R8 x_5.Value, .elt (some (1, x_3)) false (C_api_Attribute x_6 (.s 5)), .rd 1 R8 x_6.Value, .elt none false (C_api_Attribute x_1130 (.s 7)), .rd 1 R8 x_1130.Value, .elt none false (C_api_Attribute x_1530 (.s 9)), .rd 1 R8 x_1530.Value, .elt none false (C_api_Attribute x_6331 (.s 11)), .rd 1 R8 x_6331.Value, .elt none false (C_api_Attribute x_6731 (.s 13)), .rd 1 R8 x_6731.Value, .elt none false (C_api_Attribute x_11532 (.s 15)), .rd 1 R8 x_11532.Value, .elt none false (C_api_Attribute x_11932 (.s 17)), .rd 1 R8 x_11932.Value] ?_ (fun c_8331_3 => ?_)
                         · refine SD.all1 (i := 46) (by kernel_rfl) ?_
                           refine SW.eff D_8 (i := 46) (v := vp 16 4) (bs' := [I, I, I, I, I, I, I, I, I, I, I, I, I, I, I, I, I, I, I, I, I, I, I, I, I, I, I, I, I, I, I, I, I, I, I, I, I, I, I, I, I, I, I, I, I, I, I, O, O, O, O]) rfl (.inr ⟨_, _, _, _, rfl, rfl, rfl, hg_8331⟩) rfl (e_val tk (by kernel_rfl)) (by kernel_rfl) rfl (by kernel_rfl) ?_
                           exact SD.vie D_8 [.g 0, .g 1, .g 2, .g 3, .g 4, .g 5, .g 6, .g 7, .g 8, .g 9, .g 10, .g 11, .g 12, .g 13, .g 14, .g 15, .g 16, .g 17] c_8331_2 (by kernel_rfl)
                         · refine SD.lay 6 [I, I, I, I, I, I, I, I, I, I, I, I, I, I, I, I, I, I, I, I, I, I, I, I, I, I, I, I, I, I, I, I, I, I, I, I, I, I, I, I, I, I, I, I, I, O, O, O, O, O, O] [(0, vs 0), (1, vs 1), (5, vi .i64 x_3), (29, vs 0), (30, vi .i64 x_3), (31, vp 6 0), (32, vp 6 1), (33, .g (C_api_UUID x_1130.f_Type)), (34, vs 1), (35, vi .i64 x_3), (36, vp 8 0), (37, vp 8 1), (38, .g (C_api_UUID x_1530.f_Type)), (39, vb (!((x_1130.f_Type.High == x_1530.f_Type.High) && (x_1130.f_Type.Low == x_1530.f_Type.Low)))), (42, vs 0), (43, vi .i64 x_3), (44, vp 10 0), (45, vp 10 3), (46, vi .i64 x_6331.Perms), (47, vs 1), (48, vi .i64 x_3), (49, vp 12 0), (50, vp 12 3), (51, vi .i64 x_6731.Perms), (52, vb (x_6331.Perms != x_6731.Perms)), (54, vb (x_6331.Perms != x_6731.Perms)), (55, vs 0), (56, vi .i64 x_3), (57, vp 14 0), (58, vp 14 4), (59, vs 15), (60, vs 1), (61, vi .i64 x_3)] [.rd 5 R_T_api_Attribute a_1, .rd 5 R_T_api_Attribute b_2, .elt (some (0, x_3)) false (C_api_Attribute x_5 (.s 3)), .rd 1 R8 x_5.Value, .elt (some (1, x_3)) false (C_api_Attribute x_6 (.s 5)), .rd 1 R8 x_6.Value, .elt none false (C_api_Attribute x_1130 (.s 7)), .rd 1 R8 x_1130.Value, .elt none false (C_api_Attribute x_1530 (.s 9)), .rd 1 R8 x_1530.Value, .elt none false (C_api_Attribute x_6331 (.s 11)), .rd 1 R8 x_6331.Value, .elt none false (C_api_Attribute x_6731 (.s 13)), .rd 1 R8 x_6731.Value, .elt none false (C_api_Attribute x_11532 (.s 15)), .rd 1 R8 x_11532.Value] ?_ (fun c_8331_4 => ?_)
                           · refine SD.pre (pre_ix (i := 1) (iv := x_3) (sz := 5) (R := R_T_api_Attribute) (l := b_2) (by kernel_rfl) rfl e_x_11932) ?_
                             refine SD.all1 (i := 45) (by kernel_rfl) ?_
                             refine SW.eff D_8 (i := 45) (v := vp 16 0) (bs' := [I, I, I, I, I, I, I, I, I, I, I, I, I, I, I, I, I, I, I, I, I, I, I, I, I, I, I, I, I, I, I, I, I, I, I, I, I, I, I, I, I, I, I, I, I, I, O, O, O, O, O]) rfl (.inr ⟨_, _, _, _, rfl, rfl, rfl, hg_8331⟩) rfl (e_valE tk (.el 16) [x_3] (by kernel_rfl)) (by kernel_rfl) rfl (by kernel_rfl) ?_
                             exact SD.vie D_8 [.g 0, .g 1, .g 2, .g 3, .g 4, .g 5, .g 6, .g 7, .g 8, .g 9, .g 10, .g 11, .g 12, .g 13, .g 14, .g 15, .g 16, .g 17] c_8331_3 (by kernel_rfl)
                           · refine SD.lay 4 [I, I, I, I, I, I, I, I, I, I, I, I, I, I, I, I, I, I, I, I, I, I, I, I, I, I, I, I, I, I, I, I, I, I, I, I, I, I, I, I, I, I, O, I, I, I, I, I, O, O, O] [(0, vs 0), (1, vs 1), (5, vi .i64 x_3), (29, vs 0), (30, vi .i64 x_3), (31, vp 6 0), (32, vp 6 1), (33, .g (C_api_UUID x_1130.f_Type)), (34, vs 1), (35, vi .i64 x_3), (36, vp 8 0), (37, vp 8 1), (38, .g (C_api_UUID x_1530.f_Type)), (39, vb (!((x_1130.f_Type.High == x_1530.f_Type.High) && (x_1130.f_Type.Low == x_1530.f_Type.Low)))), (42, vs 0), (43, vi .i64 x_3), (44, vp 10 0), (45, vp 10 3), (46, vi .i64 x_6331.Perms), (47, vs 1), (48, vi .i64 x_3), (49, vp 12 0), (50, vp 12 3), (51, vi .i64 x_6731.Perms), (52, vb (x_6331.Perms != x_6731.Perms)), (54, vb (x_6331.Perms != x_6731.Perms)), (55, vs 0), (56, vi .i64 x_3), (57, vp 14 0), (58, vp 14 4), (60, vs 1), (61, vi .i64 x_3), (62, vp 16 0), (63, vp 16 4), (64, vs 17)] [.rd 5 R_T_api_Attribute a_1, .rd 5 R_T_api_Attribute b_2, .elt (some (0, x_3)) false (C_api_Attribute x_5 (.s 3)), .rd 1 R8 x_5.Value, .elt (some (1, x_3)) false (C_api_Attribute x_6 (.s 5)), .rd 1 R8 x_6.Value, .elt none false (C_api_Attribute x_1130 (.s 7)), .rd 1 R8 x_1130.Value, .elt none false (C_api_Attribute x_1530 (.s 9)), .rd 1 R8 x_1530.Value, .elt none false (C_api_Attribute x_6331 (.s 11)), .rd 1 R8 x_6331.Value, .elt none false (C_api_Attribute x_6731 (.s 13)), .rd 1 R8 x_6731.Value, .elt none false (C_api_Attribute x_11532 (.s 15)), .rd 1 R8 x_11532.Value, .elt none false (C_api_Attribute x_11932 (.s 17)), .rd 1 R8 x_11932.Value] ?_ (fun c_8331_5 => ?_)
                             · refine SD.all1 (i := 42) (by kernel_rfl) ?_
                               refine SW.eff D_8 (i := 42) (v := vs 15) (bs' := [I, I, I, I, I, I, I, I, I, I, I, I, I, I, I, I, I, I, I, I, I, I, I, I, I, I, I, I, I, I, I, I, I, I, I, I, I, I, I, I, I, I, I, I, I, I, I, I, O, O, O]) rfl (.inr ⟨_, _, _, _, rfl, rfl, rfl, hg_8331⟩) rfl (e_val tk (by kernel_rfl)) (by kernel_rfl) rfl (by kernel_rfl) ?_
                               exact SD.vie D_8 [.g 0, .g 1, .g 2, .g 3, .g 4, .g 5, .g 6, .g 7, .g 8, .g 9, .g 10, .g 11, .g 12, .g 13, .g 14, .g 15, .g 16, .g 17] c_8331_1 (by kernel_rfl)
                             · refine SD.lay 5 [I, I, I, I, I, I, I, I, I, I, I, I, I, I, I, I, I, I, I, I, I, I, I, I, I, I, I, I, I, I, I, I, I, I, I, I, I, I, I, I, I, I, O, I, I, I, I, O, O, O, O] [(0, vs 0), (1, vs 1), (5, vi .i64 x_3), (29, vs 0), (30, vi .i64 x_3), (31, vp 6 0), (32, vp 6 1), (33, .g (C_api_UUID x_1130.f_Type)), (34, vs 1), (35, vi .i64 x_3), (36, vp 8 0), (37, vp 8 1), (38, .g (C_api_UUID x_1530.f_Type)), (39, vb (!((x_1130.f_Type.High == x_1530.f_Type.High) && (x_1130.f_Type.Low == x_1530.f_Type.Low)))), (42, vs 0), (43, vi .i64 x_3), (44, vp 10 0), (45, vp 10 3), (46, vi .i64 x_6331.Perms), (47, vs 1), (48, vi .i64 x_3), (49, vp 12 0), (50, vp 12 3), (51, vi .i64 x_6731.Perms), (52, vb (x_6331.Perms != x_6731.Perms)), (54, vb (x_6331.Perms != x_6731.Perms)), (55, vs 0), (56, vi .i64 x_3), (57, vp 14 0), (58, vp 14 4), (60, vs 1), (61, vi .i64 x_3), (62, vp 16 0), (63, vp 16 4)] [.rd 5 R_T_api_Attribute a_1, .rd 5 R_T_api_Attribute b_2, .elt (some (0, x_3)) false (C_api_Attribute x_5 (.s 3)), .rd 1 R8 x_5.Value, .elt (some (1, x_3)) false (C_api_Attribute x_6 (.s 5)), .rd 1 R8 x_6.Value, .elt none false (C_api_Attribute x_1130 (.s 7)), .rd 1 R8 x_1130.Value, .elt none false (C_api_Attribute x_1530 (.s 9)), .rd 1 R8 x_1530.Value, .elt none false (C_api_Attribute x_6331 (.s 11)), .rd 1 R8 x_6331.Value, .elt none false (C_api_Attribute x_6731 (.s 13)), .rd 1 R8 x_6731.Value, .elt none false (C_api_Attribute x_11532 (.s 15)), .rd 1 R8 x_11532.Value, .elt none false (C_api_Attribute x_11932 (.s 17)), .rd 1 R8 x_11932.Value] ?_ (fun c_8331_6 => ?_)
                               · refine SD.all2 (i := 42) (j := 47) (by kernel_rfl) ?_ ?_
                                 · refine SW.eff D_8 (i := 42) (v := vs 15) (bs' := [I, I, I, I, I, I, I, I, I, I, I, I, I, I, I, I, I, I, I, I, I, I, I, I, I, I, I, I, I, I, I, I, I, I, I, I, I, I, I, I, I, I, I, I, I, I, I, O, O, O, O]) rfl (.inr ⟨_, _, _, _, rfl, rfl, rfl, hg_8331⟩) rfl (e_val tk (by kernel_rfl)) (by kernel_rfl) rfl (by kernel_rfl) ?_
                                   exact SD.vie D_8 [.g 0, .g 1, .g 2, .g 3, .g 4, .g 5, .g 6, .g 7, .g 8, .g 9, .g 10, .g 11, .g 12, .g 13, .g 14, .g 15, .g 16, .g 17] c_8331_2 (by kernel_rfl)
                                 · refine SW.eff D_8 (i := 47) (v := vs 17) (bs' := [I, I, I, I, I, I, I, I, I, I, I, I, I, I, I, I, I, I, I, I, I, I, I, I, I, I, I, I, I, I, I, I, I, I, I, I, I, I, I, I, I, I, O, I, I, I, I, I, O, O, O]) rfl (.inr ⟨_, _, _, _, rfl, rfl, rfl, hg_8331⟩) rfl (e_val tk (by kernel_rfl)) (by kernel_rfl) rfl (by kernel_rfl) ?_
                                   exact SD.vie D_8 [.g 0, .g 1, .g 2, .g 3, .g 4, .g 5, .g 6, .g 7, .g 8, .g 9, .g 10, .g 11, .g 12, .g 13, .g 14, .g 15, .g 16, .g 17] c_8331_5 (by kernel_rfl)
                               · refine SD.lay 6 [I, I, I, I, I, I, I, I, I, I, I, I, I, I, I, I, I, I, I, I, I, I, I, I, I, I, I, I, I, I, I, I, I, I, I, I, I, I, I, I, I, I, O, I, I, I, O, O, O, O, O] [(0, vs 0), (1, vs 1), (5, vi .i64 x_3), (29, vs 0), (30, vi .i64 x_3), (31, vp 6 0), (32, vp 6 1), (33, .g (C_api_UUID x_1130.f_Type)), (34, vs 1), (35, vi .i64 x_3), (36, vp 8 0), (37, vp 8 1), (38, .g (C_api_UUID x_1530.f_Type)), (39, vb (!((x_1130.f_Type.High == x_1530.f_Type.High) && (x_1130.f_Type.Low == x_1530.f_Type.Low)))), (42, vs 0), (43, vi .i64 x_3), (44, vp 10 0), (45, vp 10 3), (46, vi .i64 x_6331.Perms), (47, vs 1), (48, vi .i64 x_3), (49, vp 12 0), (50, vp 12 3), (51, vi .i64 x_6731.Perms), (52, vb (x_6331.Perms != x_6731.Perms)), (54, vb (x_6331.Perms != x_6731.Perms)), (55, vs 0), (56, vi .i64 x_3), (57, vp 14 0), (58, vp 14 4), (60, vs 1), (61, vi .i64 x_3), (62, vp 16 0)] [.rd 5 R_T_api_Attribute a_1, .rd 5 R_T_api_Attribute b_2, .elt (some (0, x_3)) false (C_api_Attribute x_5 (.s 3)), .rd 1 R8 x_5.Value, .elt (some (1, x_3)) false (C_api_Attribute x_6 (.s 5)), .rd 1 R8 x_6.Value, .elt none false (C_api_Attribute x_1130 (.s 7)), .rd 1 R8 x_1130.Value, .elt none false (C_api_Attribute x_1530 (.s 9)), .rd 1 R8 x_1530.Value, .elt none false (C_api_Attribute x_6331 (.s 11)), .rd 1 R8 x_6331.Value, .elt none false (C_api_Attribute x_6731 (.s 13)), .rd 1 R8 x_6731.Value, .elt none false (C_api_Attribute x_11532 (.s 15)), .rd 1 R8 x_11532.Value, .elt none false (C_api_Attribute x_11932 (.s 17)), .rd 1 R8 x_11932.Value] ?_ (fun c_8331_7 => ?_)
                                 · refine SD.all2 (i := 42) (j := 46) (by kernel_rfl) ?_ ?_
                                   · refine SW.eff D_8 (i := 42) (v := vs 15) (bs' := [I, I, I, I, I, I, I, I, I, I, I, I, I, I, I, I, I, I, I, I, I, I, I, I, I, I, I, I, I, I, I, I, I, I, I, I, I, I, I, I, I, I, I, I, I, I, O, O, O, O, O]) rfl (.inr ⟨_, _, _, _, rfl, rfl, rfl, hg_8331⟩) rfl (e_val tk (by kernel_rfl)) (by kernel_rfl) rfl (by kernel_rfl) ?_
                                     exact SD.vie D_8 [.g 0, .g 1, .g 2, .g 3, .g 4, .g 5, .g 6, .g 7, .g 8, .g 9, .g 10, .g 11, .g 12, .g 13, .g 14, .g 15, .g 16, .g 17] c_8331_3 (by kernel_rfl)
                                   · refine SW.eff D_8 (i := 46) (v := vp 16 4) (bs' := [I, I, I, I, I, I, I, I, I, I, I, I, I, I, I, I, I, I, I, I, I, I, I, I, I, I, I, I, I, I, I, I, I, I, I, I, I, I, I, I, I, I, O, I, I, I, I, O, O, O, O]) rfl (.inr ⟨_, _, _, _, rfl, rfl, rfl, hg_8331⟩) rfl (e_val tk (by kernel_rfl)) (by kernel_rfl) rfl (by kernel_rfl) ?_
                                     exact SD.vie D_8 [.g 0, .g 1, .g 2, .g 3, .g 4, .g 5, .g 6, .g 7, .g 8, .g 9, .g 10, .g 11, .g 12, .g 13, .g 14, .g 15, .g 16, .g 17] c_8331_6 (by kernel_rfl)
                                 · refine SD.lay 7 [I, I, I, I, I, I, I, I, I, I, I, I, I, I, I, I, I, I, I, I, I, I, I, I, I, I, I, I, I, I, I, I, I, I, I, I, I, I, I, I, I, I, O, I, I, O, O, O, O, O, O] [(0, vs 0), (1, vs 1), (5, vi .i64 x_3), (29, vs 0), (30, vi .i64 x_3), (31, vp 6 0), (32, vp 6 1), (33, .g (C_api_UUID x_1130.f_Type)), (34, vs 1), (35, vi .i64 x_3), (36, vp 8 0), (37, vp 8 1), (38, .g (C_api_UUID x_1530.f_Type)), (39, vb (!((x_1130.f_Type.High == x_1530.f_Type.High) && (x_1130.f_Type.Low == x_1530.f_Type.Low)))), (42, vs 0), (43, vi .i64 x_3), (44, vp 10 0), (45, vp 10 3), (46, vi .i64 x_6331.Perms), (47, vs 1), (48, vi .i64 x_3), (49, vp 12 0), (50, vp 12 3), (51, vi .i64 x_6731.Perms), (52, vb (x_6331.Perms != x_6731.Perms)), (54, vb (x_6331.Perms != x_6731.Perms)), (55, vs 0), (56, vi .i64 x_3), (57, vp 14 0), (58, vp 14 4), (60, vs 1), (61, vi .i64 x_3)] [.rd 5 R_T_api_Attribute a_1, .rd 5 R_T_api_Attribute b_2, .elt (some (0, x_3)) false (C_api_Attribute x_5 (.s 3)), .rd 1 R8 x_5.Value, .elt (some (1, x_3)) false (C_api_Attribute x_6 (.s 5)), .rd 1 R8 x_6.Value, .elt none false (C_api_Attribute x_1130 (.s 7)), .rd 1 R8 x_1130.Value, .elt none false (C_api_Attribute x_1530 (.s 9)), .rd 1 R8 x_1530.Value, .elt none false (C_api_Attribute x_6331 (.s 11)), .rd 1 R8 x_6331.Value, .elt none false (C_api_Attribute x_6731 (.s 13)), .rd 1 R8 x_6731.Value, .elt none false (C_api_Attribute x_11532 (.s 15)), .rd 1 R8 x_11532.Value] ?_ (fun c_8331_8 => ?_)
                                   · refine SD.all2 (i := 42) (j := 45) (by kernel_rfl) ?_ ?_
                                     · refine SW.eff D_8 (i := 42) (v := vs 15) (bs' := [I, I, I, I, I, I, I, I, I, I, I, I, I, I, I, I, I, I, I, I, I, I, I, I, I, I, I, I, I, I, I, I, I, I, I, I, I, I, I, I, I, I, I, I, I, O, O, O, O, O, O]) rfl (.inr ⟨_, _, _, _, rfl, rfl, rfl, hg_8331⟩) rfl (e_val tk (by kernel_rfl)) (by kernel_rfl) rfl (by kernel_rfl) ?_
                                       exact SD.vie D_8 [.g 0, .g 1, .g 2, .g 3, .g 4, .g 5, .g 6, .g 7, .g 8, .g 9, .g 10, .g 11, .g 12, .g 13, .g 14, .g 15] c_8331_4 (by kernel_rfl)
                                     · refine SW.pre (pre_ix (i := 1) (iv := x_3) (sz := 5) (R := R_T_api_Attribute) (l := b_2) (by kernel_rfl) rfl e_x_11932) ?_
                                       refine SW.eff D_8 (i := 45) (v := vp 16 0) (bs' := [I, I, I, I, I, I, I, I, I, I, I, I, I, I, I, I, I, I, I, I, I, I, I, I, I, I, I, I, I, I, I, I, I, I, I, I, I, I, I, I, I, I, O, I, I, I, O, O, O, O, O]) rfl (.inr ⟨_, _, _, _, rfl, rfl, rfl, hg_8331⟩) rfl (e_valE tk (.el 16) [x_3] (by kernel_rfl)) (by kernel_rfl) rfl (by kernel_rfl) ?_
                                       exact SD.vie D_8 [.g 0, .g 1, .g 2, .g 3, .g 4, .g 5, .g 6, .g 7, .g 8, .g 9, .g 10, .g 11, .g 12, .g 13, .g 14, .g 15, .g 16, .g 17] c_8331_7 (by kernel_rfl)
                                   · refine SD.lay 5 [I, I, I, I, I, I, I, I, I, I, I, I, I, I, I, I, I, I, I, I, I, I, I, I, I, I, I, I, I, I, I, I, I, I, I, I, I, I, I, I, I, O, O, I, I, I, I, I, O, O, O] [(0, vs 0), (1, vs 1), (5, vi .i64 x_3), (29, vs 0), (30, vi .i64 x_3), (31, vp 6 0), (32, vp 6 1), (33, .g (C_api_UUID x_1130.f_Type)), (34, vs 1), (35, vi .i64 x_3), (36, vp 8 0), (37, vp 8 1), (38, .g (C_api_UUID x_1530.f_Type)), (39, vb (!((x_1130.f_Type.High == x_1530.f_Type.High) && (x_1130.f_Type.Low == x_1530.f_Type.Low)))), (42, vs 0), (43, vi .i64 x_3), (44, vp 10 0), (45, vp 10 3), (46, vi .i64 x_6331.Perms), (47, vs 1), (48, vi .i64 x_3), (49, vp 12 0), (50, vp 12 3), (51, vi .i64 x_6731.Perms), (52, vb (x_6331.Perms != x_6731.Perms)), (54, vb (x_6331.Perms != x_6731.Perms)), (55, vs 0), (56, vi .i64 x_3), (57, vp 14 0), (60, vs 1), (61, vi .i64 x_3), (62, vp 16 0), (63, vp 16 4), (64, vs 17)] [.rd 5 R_T_api_Attribute a_1, .rd 5 R_T_api_Attribute b_2, .elt (some (0, x_3)) false (C_api_Attribute x_5 (.s 3)), .rd 1 R8 x_5.Value, .elt (some (1, x_3)) false (C_api_Attribute x_6 (.s 5)), .rd 1 R8 x_6.Value, .elt none false (C_api_Attribute x_1130 (.s 7)), .rd 1 R8 x_1130.Value, .elt none false (C_api_Attribute x_1530 (.s 9)), .rd 1 R8 x_1530.Value, .elt none false (C_api_Attribute x_6331 (.s 11)), .rd 1 R8 x_6331.Value, .elt none false (C_api_Attribute x_6731 (.s 13)), .rd 1 R8 x_6731.Value, .elt none false (C_api_Attribute x_11532 (.s 15)), .rd 1 R8 x_11532.Value, .elt none false (C_api_Attribute x_11932 (.s 17)), .rd 1 R8 x_11932.Value] ?_ (fun c_8331_9 => ?_)
                                     · refine SD.all1 (i := 41) (by kernel_rfl) ?_
                                       refine SW.eff D_8 (i := 41) (v := vp 14 4) (bs' := [I, I, I, I, I, I, I, I, I, I, I, I, I, I, I, I, I, I, I, I, I, I, I, I, I, I, I, I, I, I, I, I, I, I, I, I, I, I, I, I, I, I, O, I, I, I, I, I, O, O, O]) rfl (.inr ⟨_, _, _, _, rfl, rfl, rfl, hg_8331⟩) rfl (e_val tk (by kernel_rfl)) (by kernel_rfl) rfl (by kernel_rfl) ?_
                                       exact SD.vie D_8 [.g 0, .g 1, .g 2, .g 3, .g 4, .g 5, .g 6, .g 7, .g 8, .g 9, .g 10, .g 11, .g 12, .g 13, .g 14, .g 15, .g 16, .g 17] c_8331_5 (by kernel_rfl)
                                     · refine SD.lay 6 [I, I, I, I, I, I, I, I, I, I, I, I, I, I, I, I, I, I, I, I, I, I, I, I, I, I, I, I, I, I, I, I, I, I, I, I, I, I, I, I, I, O, O, I, I, I, I, O, O, O, O] [(0, vs 0), (1, vs 1), (5, vi .i64 x_3), (29, vs 0), (30, vi .i64 x_3), (31, vp 6 0), (32, vp 6 1), (33, .g (C_api_UUID x_1130.f_Type)), (34, vs 1), (35, vi .i64 x_3), (36, vp 8 0), (37, vp 8 1), (38, .g (C_api_UUID x_1530.f_Type)), (39, vb (!((x_1130.f_Type.High == x_1530.f_Type.High) && (x_1130.f_Type.Low == x_1530.f_Type.Low)))), (42, vs 0), (43, vi .i64 x_3), (44, vp 10 0), (45, vp 10 3), (46, vi .i64 x_6331.Perms), (47, vs 1), (48, vi .i64 x_3), (49, vp 12 0), (50, vp 12 3), (51, vi .i64 x_6731.Perms), (52, vb (x_6331.Perms != x_6731.Perms)), (54, vb (x_6331.Perms != x_6731.Perms)), (55, vs 0), (56, vi .i64 x_3), (57, vp 14 0), (60, vs 1), (61, vi .i64 x_3), (62, vp 16 0), (63, vp 16 4)] [.rd 5 R_T_api_Attribute a_1, .rd 5 R_T_api_Attribute b_2, .elt (some (0, x_3)) false (C_api_Attribute x_5 (.s 3)), .rd 1 R8 x_5.Value, .elt (some (1, x_3)) false (C_api_Attribute x_6 (.s 5)), .rd 1 R8 x_6.Value, .elt none false (C_api_Attribute x_1130 (.s 7)), .rd 1 R8 x_1130.Value, .elt none false (C_api_Attribute x_1530 (.s 9)), .rd 1 R8 x_1530.Value, .elt none false (C_api_Attribute x_6331 (.s 11)), .rd 1 R8 x_6331.Value, .elt none false (C_api_Attribute x_6731 (.s 13)), .rd 1 R8 x_6731.Value, .elt none false (C_api_Attribute x_11532 (.s 15)), .rd 1 R8 x_11532.Value, .elt none false (C_api_Attribute x_11932 (.s 17)), .rd 1 R8 x_11932.Value] ?_ (fun c_8331_10 => ?_)
                                       · refine SD.all2 (i := 41) (j := 47) (by kernel_rfl) ?_ ?_
                                         · refine SW.eff D_8 (i := 41) (v := vp 14 4) (bs' := [I, I, I, I, I, I, I, I, I, I, I, I, I, I, I, I, I, I, I, I, I, I, I, I, I, I, I, I, I, I, I, I, I, I, I, I, I, I, I, I, I, I, O, I, I, I, I, O, O, O, O]) rfl (.inr ⟨_, _, _, _, rfl, rfl, rfl, hg_8331⟩) rfl (e_val tk (by kernel_rfl)) (by kernel_rfl) rfl (by kernel_rfl) ?_
                                           exact SD.vie D_8 [.g 0, .g 1, .g 2, .g 3, .g 4, .g 5, .g 6, .g 7, .g 8, .g 9, .g 10, .g 11, .g 12, .g 13, .g 14, .g 15, .g 16, .g 17] c_8331_6 (by kernel_rfl)
                                         · refine SW.eff D_8 (i := 47) (v := vs 17) (bs' := [I, I, I, I, I, I, I, I, I, I, I, I, I, I, I, I, I, I, I, I, I, I, I, I, I, I, I, I, I, I, I, I, I, I, I, I, I, I, I, I, I, O, O, I, I, I, I, I, O, O, O]) rfl (.inr ⟨_, _, _, _, rfl, rfl, rfl, hg_8331⟩) rfl (e_val tk (by kernel_rfl)) (by kernel_rfl) rfl (by kernel_rfl) ?_
                                           exact SD.vie D_8 [.g 0, .g 1, .g 2, .g 3, .g 4, .g 5, .g 6, .g 7, .g 8, .g 9, .g 10, .g 11, .g 12, .g 13, .g 14, .g 15, .g 16, .g 17] c_8331_9 (by kernel_rfl)
                                       · refine SD.lay 7 [I, I, I, I, I, I, I, I, I, I, I, I, I, I, I, I, I, I, I, I, I, I, I, I, I, I, I, I, I, I, I, I, I, I, I, I, I, I, I, I, I, O, O, I, I, I, O, O, O, O, O] [(0, vs 0), (1, vs 1), (5, vi .i64 x_3), (29, vs 0), (30, vi .i64 x_3), (31, vp 6 0), (32, vp 6 1), (33, .g (C_api_UUID x_1130.f_Type)), (34, vs 1), (35, vi .i64 x_3), (36, vp 8 0), (37, vp 8 1), (38, .g (C_api_UUID x_1530.f_Type)), (39, vb (!((x_1130.f_Type.High == x_1530.f_Type.High) && (x_1130.f_Type.Low == x_1530.f_Type.Low)))), (42, vs 0), (43, vi .i64 x_3), (44, vp 10 0), (45, vp 10 3), (46, vi .i64 x_6331.Perms), (47, vs 1), (48, vi .i64 x_3), (49, vp 12 0), (50, vp 12 3), (51, vi .i64 x_6731.Perms), (52, vb (x_6331.Perms != x_6731.Perms)), (54, vb (x_6331.Perms != x_6731.Perms)), (55, vs 0), (56, vi .i64 x_3), (57, vp 14 0), (60, vs 1), (61, vi .i64 x_3), (62, vp 16 0)] [.rd 5 R_T_api_Attribute a_1, .rd 5 R_T_api_Attribute b_2, .elt (some (0, x_3)) false (C_api_Attribute x_5 (.s 3)), .rd 1 R8 x_5.Value, .elt (some (1, x_3)) false (C_api_Attribute x_6 (.s 5)), .rd 1 R8 x_6.Value, .elt none false (C_api_Attribute x_1130 (.s 7)), .rd 1 R8 x_1130.Value, .elt none false (C_api_Attribute x_1530 (.s 9)), .rd 1 R8 x_1530.Value, .elt none false (C_api_Attribute x_6331 (.s 11)), .rd 1 R8 x_6331.Value, .elt none false (C_api_Attribute x_6731 (.s 13)), .rd 1 R8 x_6731.Value, .elt none false (C_api_Attribute x_11532 (.s 15)), .rd 1 R8 x_11532.Value, .elt none false (C_api_Attribute x_11932 (.s 17)), .rd 1 R8 x_11932.Value] ?_ (fun c_8331_11 => ?_)
                                         · refine SD.all2 (i := 41) (j := 46) (by kernel_rfl) ?_ ?_
                                           · refine SW.eff D_8 (i := 41) (v := vp 14 4) (bs' := [I, I, I, I, I, I, I, I, I, I, I, I, I, I, I, I, I, I, I, I, I, I, I, I, I, I, I, I, I, I, I, I, I, I, I, I, I, I, I, I, I, I, O, I, I, I, O, O, O, O, O]) rfl (.inr ⟨_, _, _, _, rfl, rfl, rfl, hg_8331⟩) rfl (e_val tk (by kernel_rfl)) (by kernel_rfl) rfl (by kernel_rfl) ?_
                                             exact SD.vie D_8 [.g 0, .g 1, .g 2, .g 3, .g 4, .g 5, .g 6, .g 7, .g 8, .g 9, .g 10, .g 11, .g 12, .g 13, .g 14, .g 15, .g 16, .g 17] c_8331_7 (by kernel_rfl)
                                           · refine SW.eff D_8 (i := 46) (v := vp 16 4) (bs' := [I, I, I, I, I, I, I, I, I, I, I, I, I, I, I, I, I, I, I, I, I, I, I, I, I, I, I, I, I, I, I, I, I, I, I, I, I, I, I, I, I, O, O, I, I, I, I, O, O, O, O]) rfl (.inr ⟨_, _, _, _, rfl, rfl, rfl, hg_8331⟩) rfl (e_val tk (by kernel_rfl)) (by kernel_rfl) rfl (by kernel_rfl) ?_
                                             exact SD.vie D_8 [.g 0, .g 1, .g 2, .g 3, .g 4, .g 5, .g 6, .g 7, .g 8, .g 9, .g 10, .g 11, .g 12, .g 13, .g 14, .g 15, .g 16, .g 17] c_8331_10 (by kernel_rfl)
                                         · refine SD.lay 8 [I, I, I, I, I, I, I, I, I, I, I, I, I, I, I, I, I, I, I, I, I, I, I, I, I, I, I, I, I, I, I, I, I, I, I, I, I, I, I, I, I, O, O, I, I, O, O, O, O, O, O] [(0, vs 0), (1, vs 1), (5, vi .i64 x_3), (29, vs 0), (30, vi .i64 x_3), (31, vp 6 0), (32, vp 6 1), (33, .g (C_api_UUID x_1130.f_Type)), (34, vs 1), (35, vi .i64 x_3), (36, vp 8 0), (37, vp 8 1), (38, .g (C_api_UUID x_1530.f_Type)), (39, vb (!((x_1130.f_Type.High == x_1530.f_Type.High) && (x_1130.f_Type.Low == x_1530.f_Type.Low)))), (42, vs 0), (43, vi .i64 x_3), (44, vp 10 0), (45, vp 10 3), (46, vi .i64 x_6331.Perms), (47, vs 1), (48, vi .i64 x_3), (49, vp 12 0), (50, vp 12 3), (51, vi .i64 x_6731.Perms), (52, vb (x_6331.Perms != x_6731.Perms)), (54, vb (x_6331.Perms != x_6731.Perms)), (55, vs 0), (56, vi .i64 x_3), (57, vp 14 0), (60, vs 1), (61, vi .i64 x_3)] [.rd 5 R_T_api_Attribute a_1, .rd 5 R_T_api_Attribute b_2, .elt (some (0, x_3)) false (C_api_Attribute x_5 (.s 3)), .rd 1 R8 x_5.Value, .elt (some (1, x_3)) false (C_api_Attribute x_6 (.s 5)), .rd 1 R8 x_6.Value, .elt none false (C_api_Attribute x_1130 (.s 7)), .rd 1 R8 x_1130.Value, .elt none false (C_api_Attribute x_1530 (.s 9)), .rd 1 R8 x_1530.Value, .elt none false (C_api_Attribute x_6331 (.s 11)), .rd 1 R8 x_6331.Value, .elt none false (C_api_Attribute x_6731 (.s 13)), .rd 1 R8 x_6731.Value, .elt none false (C_api_Attribute x_11532 (.s 15)), .rd 1 R8 x_11532.Value] ?_ (fun c_8331_12 => ?_)
                                           · refine SD.all2 (i := 41) (j := 45) (by kernel_rfl) ?_ ?_
                                             · refine SW.eff D_8 (i := 41) (v := vp 14 4) (bs' := [I, I, I, I, I, I, I, I, I, I, I, I, I, I, I, I, I, I, I, I, I, I, I, I, I, I, I, I, I, I, I, I, I, I, I, I, I, I, I, I, I, I, O, I, I, O, O, O, O, O, O]) rfl (.inr ⟨_, _, _, _, rfl, rfl, rfl, hg_8331⟩) rfl (e_val tk (by kernel_rfl)) (by kernel_rfl) rfl (by kernel_rfl) ?_
                                               exact SD.vie D_8 [.g 0, .g 1, .g 2, .g 3, .g 4, .g 5, .g 6, .g 7, .g 8, .g 9, .g 10, .g 11, .g 12, .g 13, .g 14, .g 15] c_8331_8 (by kernel_rfl)
                                             · refine SW.pre (pre_ix (i := 1) (iv := x_3) (sz := 5) (R := R_T_api_Attribute) (l := b_2) (by kernel_rfl) rfl e_x_11932) ?_
                                               refine SW.eff D_8 (i := 45) (v := vp 16 0) (bs' := [I, I, I, I, I, I, I, I, I, I, I, I, I, I, I, I, I, I, I, I, I, I, I, I, I, I, I, I, I, I, I, I, I, I, I, I, I, I, I, I, I, O, O, I, I, I, O, O, O, O, O]) rfl (.inr ⟨_, _, _, _, rfl, rfl, rfl, hg_8331⟩) rfl (e_valE tk (.el 16) [x_3] (by kernel_rfl)) (by kernel_rfl) rfl (by kernel_rfl) ?_
                                               exact SD.vie D_8 [.g 0, .g 1, .g 2, .g 3, .g 4, .g 5, .g 6, .g 7, .g 8, .g 9, .g 10, .g 11, .g 12, .g 13, .g 14, .g 15, .g 16, .g 17] c_8331_11 (by kernel_rfl)
                                           · refine SD.lay 6 [I, I, I, I, I, I, I, I, I, I, I, I, I, I, I, I, I, I, I, I, I, I, I, I, I, I, I, I, I, I, I, I, I, I, I, I, I, I, I, I, O, O, O, I, I, I, I, I, O, O, O] [(0, vs 0), (1, vs 1), (5, vi .i64 x_3), (29, vs 0), (30, vi .i64 x_3), (31, vp 6 0), (32, vp 6 1), (33, .g (C_api_UUID x_1130.f_Type)), (34, vs 1), (35, vi .i64 x_3), (36, vp 8 0), (37, vp 8 1), (38, .g (C_api_UUID x_1530.f_Type)), (39, vb (!((x_1130.f_Type.High == x_1530.f_Type.High) && (x_1130.f_Type.Low == x_1530.f_Type.Low)))), (42, vs 0), (43, vi .i64 x_3), (44, vp 10 0), (45, vp 10 3), (46, vi .i64 x_6331.Perms), (47, vs 1), (48, vi .i64 x_3), (49, vp 12 0), (50, vp 12 3), (51, vi .i64 x_6731.Perms), (52, vb (x_6331.Perms != x_6731.Perms)), (54, vb (x_6331.Perms != x_6731.Perms)), (55, vs 0), (56, vi .i64 x_3), (60, vs 1), (61, vi .i64 x_3), (62, vp 14 0), (63, vp 14 4), (64, vs 15)] [.rd 5 R_T_api_Attribute a_1, .rd 5 R_T_api_Attribute b_2, .elt (some (0, x_3)) false (C_api_Attribute x_5 (.s 3)), .rd 1 R8 x_5.Value, .elt (some (1, x_3)) false (C_api_Attribute x_6 (.s 5)), .rd 1 R8 x_6.Value, .elt none false (C_api_Attribute x_1130 (.s 7)), .rd 1 R8 x_1130.Value, .elt none false (C_api_Attribute x_1530 (.s 9)), .rd 1 R8 x_1530.Value, .elt none false (C_api_Attribute x_6331 (.s 11)), .rd 1 R8 x_6331.Value, .elt none false (C_api_Attribute x_6731 (.s 13)), .rd 1 R8 x_6731.Value, .elt none false (C_api_Attribute x_11932 (.s 15)), .rd 1 R8 x_11932.Value] ?_ (fun c_8331_13 => ?_)
                                             · refine SD.pre (pre_ix (i := 0) (iv := x_3) (sz := 5) (R := R_T_api_Attribute) (l := a_1) (by kernel_rfl) rfl e_x_11532) ?_
                                               refine SD.all1 (i := 40) (by kernel_rfl) ?_
                                               refine SW.eff D_8 (i := 40) (v := vp 16 0) (bs' := [I, I, I, I, I, I, I, I, I, I, I, I, I, I, I, I, I, I, I, I, I, I, I, I, I, I, I, I, I, I, I, I, I, I, I, I, I, I, I, I, I, O, O, I, I, I, I, I, O, O, O]) rfl (.inr ⟨_, _, _, _, rfl, rfl, rfl, hg_8331⟩) rfl (e_valE tk (.el 16) [x_3] (by kernel_rfl)) (by kernel_rfl) rfl (by kernel_rfl) ?_
                                               exact SD.vie D_8 [.g 0, .g 1, .g 2, .g 3, .g 4, .g 5, .g 6, .g 7, .g 8, .g 9, .g 10, .g 11, .g 12, .g 13, .g 16, .g 17, .g 14, .g 15] c_8331_9 (by kernel_rfl)
                                             · refine SD.lay 7 [I, I, I, I, I, I, I, I, I, I, I, I, I, I, I, I, I, I, I, I, I, I, I, I, I, I, I, I, I, I, I, I, I, I, I, I, I, I, I, I, O, O, O, I, I, I, I, O, O, O, O] [(0, vs 0), (1, vs 1), (5, vi .i64 x_3), (29, vs 0), (30, vi .i64 x_3), (31, vp 6 0), (32, vp 6 1), (33, .g (C_api_UUID x_1130.f_Type)), (34, vs 1), (35, vi .i64 x_3), (36, vp 8 0), (37, vp 8 1), (38, .g (C_api_UUID x_1530.f_Type)), (39, vb (!((x_1130.f_Type.High == x_1530.f_Type.High) && (x_1130.f_Type.Low == x_1530.f_Type.Low)))), (42, vs 0), (43, vi .i64 x_3), (44, vp 10 0), (45, vp 10 3), (46, vi .i64 x_6331.Perms), (47, vs 1), (48, vi .i64 x_3), (49, vp 12 0), (50, vp 12 3), (51, vi .i64 x_6731.Perms), (52, vb (x_6331.Perms != x_6731.Perms)), (54, vb (x_6331.Perms != x_6731.Perms)), (55, vs 0), (56, vi .i64 x_3), (60, vs 1), (61, vi .i64 x_3), (62, vp 14 0), (63, vp 14 4)] [.rd 5 R_T_api_Attribute a_1, .rd 5 R_T_api_Attribute b_2, .elt (some (0, x_3)) false (C_api_Attribute x_5 (.s 3)), .rd 1 R8 x_5.Value, .elt (some (1, x_3)) false (C_api_Attribute x_6 (.s 5)), .rd 1 R8 x_6.Value, .elt none false (C_api_Attribute x_1130 (.s 7)), .rd 1 R8 x_1130.Value, .elt none false (C_api_Attribute x_1530 (.s 9)), .rd 1 R8 x_1530.Value, .elt none false (C_api_Attribute x_6331 (.s 11)), .rd 1 R8 x_6331.Value, .elt none false (C_api_Attribute x_6731 (.s 13)), .rd 1 R8 x_6731.Value, .elt none false (C_api_Attribute x_11932 (.s 15)), .rd 1 R8 x_11932.Value] ?_ (fun c_8331_14 => ?_)
                                               · refine SD.all2 (i := 40) (j := 47) (by kernel_rfl) ?_ ?_
                                                 · refine SW.pre (pre_ix (i := 0) (iv := x_3) (sz := 5) (R := R_T_api_Attribute) (l := a_1) (by kernel_rfl) rfl e_x_11532) ?_
                                                   refine SW.eff D_8 (i := 40) (v := vp 16 0) (bs' := [I, I, I, I, I, I, I, I, I, I, I, I, I, I, I, I, I, I, I, I, I, I, I, I, I, I, I, I, I, I, I, I, I, I, I, I, I, I, I, I, I, O, O, I, I, I, I, O, O, O, O]) rfl (.inr ⟨_, _, _, _, rfl, rfl, rfl, hg_8331⟩) rfl (e_valE tk (.el 16) [x_3] (by kernel_rfl)) (by kernel_rfl) rfl (by kernel_rfl) ?_
                                                   exact SD.vie D_8 [.g 0, .g 1, .g 2, .g 3, .g 4, .g 5, .g 6, .g 7, .g 8, .g 9, .g 10, .g 11, .g 12, .g 13, .g 16, .g 17, .g 14, .g 15] c_8331_10 (by kernel_rfl)
                                                 · refine SW.eff D_8 (i := 47) (v := vs 15) (bs' := [I, I, I, I, I, I, I, I, I, I, I, I, I, I, I, I, I, I, I, I, I, I, I, I, I, I, I, I, I, I, I, I, I, I, I, I, I, I, I, I, O, O, O, I, I, I, I, I, O, O, O]) rfl (.inr ⟨_, _, _, _, rfl, rfl, rfl, hg_8331⟩) rfl (e_val tk (by kernel_rfl)) (by kernel_rfl) rfl (by kernel_rfl) ?_
                                                   exact SD.vie D_8 [.g 0, .g 1, .g 2, .g 3, .g 4, .g 5, .g 6, .g 7, .g 8, .g 9, .g 10, .g 11, .g 12, .g 13, .g 14, .g 15] c_8331_13 (by kernel_rfl)
                                               · refine SD.lay 8 [I, I, I, I, I, I, I, I, I, I, I, I, I, I, I, I, I, I, I, I, I, I, I, I, I, I, I, I, I, I, I, I, I, I, I, I, I, I, I, I, O, O, O, I, I, I, O, O, O, O, O] [(0, vs 0), (1, vs 1), (5, vi .i64 x_3), (29, vs 0), (30, vi .i64 x_3), (31, vp 6 0), (32, vp 6 1), (33, .g (C_api_UUID x_1130.f_Type)), (34, vs 1), (35, vi .i64 x_3), (36, vp 8 0), (37, vp 8 1), (38, .g (C_api_UUID x_1530.f_Type)), (39, vb (!((x_1130.f_Type.High == x_1530.f_Type.High) && (x_1130.f_Type.Low == x_1530.f_Type.Low)))), (42, vs 0), (43, vi .i64 x_3), (44, vp 10 0), (45, vp 10 3), (46, vi .i64 x_6331.Perms), (47, vs 1), (48, vi .i64 x_3), (49, vp 12 0), (50, vp 12 3), (51, vi .i64 x_6731.Perms), (52, vb (x_6331.Perms != x_6731.Perms)), (54, vb (x_6331.Perms != x_6731.Perms)), (55, vs 0), (56, vi .i64 x_3), (60, vs 1), (61, vi .i64 x_3), (62, vp 14 0)] [.rd 5 R_T_api_Attribute a_1, .rd 5 R_T_api_Attribute b_2, .elt (some (0, x_3)) false (C_api_Attribute x_5 (.s 3)), .rd 1 R8 x_5.Value, .elt (some (1, x_3)) false (C_api_Attribute x_6 (.s 5)), .rd 1 R8 x_6.Value, .elt none false (C_api_Attribute x_1130 (.s 7)), .rd 1 R8 x_1130.Value, .elt none false (C_api_Attribute x_1530 (.s 9)), .rd 1 R8 x_1530.Value, .elt none false (C_api_Attribute x_6331 (.s 11)), .rd 1 R8 x_6331.Value, .elt none false (C_api_Attribute x_6731 (.s 13)), .rd 1 R8 x_6731.Value, .elt none false (C_api_Attribute x_11932 (.s 15)), .rd 1 R8 x_11932.Value] ?_ (fun c_8331_15 => ?_)
                                                 · refine SD.all2 (i := 40) (j := 46) (by kernel_rfl) ?_ ?_
                                                   · refine SW.pre (pre_ix (i := 0) (iv := x_3) (sz := 5) (R := R_T_api_Attribute) (l := a_1) (by kernel_rfl) rfl e_x_11532) ?_
                                                     refine SW.eff D_8 (i := 40) (v := vp 16 0) (bs' := [I, I, I, I, I, I, I, I, I, I, I, I, I, I, I, I, I, I, I, I, I, I, I, I, I, I, I, I, I, I, I, I, I, I, I, I, I, I, I, I, I, O, O, I, I, I, O, O, O, O, O]) rfl (.inr ⟨_, _, _, _, rfl, rfl, rfl, hg_8331⟩) rfl (e_valE tk (.el 16) [x_3] (by kernel_rfl)) (by kernel_rfl) rfl (by kernel_rfl) ?_
                                                     exact SD.vie D_8 [.g 0, .g 1, .g 2, .g 3, .g 4, .g 5, .g 6, .g 7, .g 8, .g 9, .g 10, .g 11, .g 12, .g 13, .g 16, .g 17, .g 14, .g 15] c_8331_11 (by kernel_rfl)
                                                   · refine SW.eff D_8 (i := 46) (v := vp 14 4) (bs' := [I, I, I, I, I, I, I, I, I, I, I, I, I, I, I, I, I, I, I, I, I, I, I, I, I, I, I, I, I, I, I, I, I, I, I, I, I, I, I, I, O, O, O, I, I, I, I, O, O, O, O]) rfl (.inr ⟨_, _, _, _, rfl, rfl, rfl, hg_8331⟩) rfl (e_val tk (by kernel_rfl)) (by kernel_rfl) rfl (by kernel_rfl) ?_
                                                     exact SD.vie D_8 [.g 0, .g 1, .g 2, .g 3, .g 4, .g 5, .g 6, .g 7, .g 8, .g 9, .g 10, .g 11, .g 12, .g 13, .g 14, .g 15] c_8331_14 (by kernel_rfl)
                                                 · refine SD.all2 (i := 40) (j := 45) (by kernel_rfl) ?_ ?_
                                                   · refine SW.pre (pre_ix (i := 0) (iv := x_3) (sz := 5) (R := R_T_api_Attribute) (l := a_1) (by kernel_rfl) rfl e_x_11532) ?_
                                                     refine SW.eff D_8 (i := 40) (v := vp 14 0) (bs' := [I, I, I, I, I, I, I, I, I, I, I, I, I, I, I, I, I, I, I, I, I, I, I, I, I, I, I, I, I, I, I, I, I, I, I, I, I, I, I, I, I, O, O, I, I, O, O, O, O, O, O]) rfl (.inr ⟨_, _, _, _, rfl, rfl, rfl, hg_8331⟩) rfl (e_valE tk (.el 14) [x_3] (by kernel_rfl)) (by kernel_rfl) rfl (by kernel_rfl) ?_
                                                     exact SD.vie D_8 [.g 0, .g 1, .g 2, .g 3, .g 4, .g 5, .g 6, .g 7, .g 8, .g 9, .g 10, .g 11, .g 12, .g 13, .g 14, .g 15] c_8331_12 (by kernel_rfl)
                                                   · refine SW.pre (pre_ix (i := 1) (iv := x_3) (sz := 5) (R := R_T_api_Attribute) (l := b_2) (by kernel_rfl) rfl e_x_11932) ?_
                                                     refine SW.eff D_8 (i := 45) (v := vp 14 0) (bs' := [I, I, I, I, I, I, I, I, I, I, I, I, I, I, I, I, I, I, I, I, I, I, I, I, I, I, I, I, I, I, I, I, I, I, I, I, I, I, I, I, O, O, O, I, I, I, O, O, O, O, O]) rfl (.inr ⟨_, _, _, _, rfl, rfl, rfl, hg_8331⟩) rfl (e_valE tk (.el 14) [x_3] (by kernel_rfl)) (by kernel_rfl) rfl (by kernel_rfl) ?_
                                                     exact SD.vie D_8 [.g 0, .g 1, .g 2, .g 3, .g 4, .g 5, .g 6, .g 7, .g 8, .g 9, .g 10, .g 11, .g 12, .g 13, .g 14, .g 15] c_8331_15 (by kernel_rfl)
               · refine SD.lay 17 [I, I, I, I, I, I, I, I, I, I, I, I, I, I, I, I, I, I, I, I, I, I, I, I, I, I, I, I, I, I, I, I, I, I, O, O, O, O, O, O, O, O, O, O, O, O, O, O, O, O, O] [(0, vs 0), (1, vs 1), (5, vi .i64 x_3), (29, vs 0), (30, vi .i64 x_3), (31, vp 6 0), (32, vp 6 1), (33, .g (C_api_UUID x_1130.f_Type)), (34, vs 1), (35, vi .i64 x_3), (36, vp 8 0), (37, vp 8 1), (38, .g (C_api_UUID x_1530.f_Type)), (39, vb (!((x_1130.f_Type.High == x_1530.f_Type.High) && (x_1130.f_Type.Low == x_1530.f_Type.Low)))), (41, vb (!((x_1130.f_Type.High == x_1530.f_Type.High) && (x_1130.f_Type.Low == x_1530.f_Type.Low)))), (42, vs 0), (43, vi .i64 x_3), (44, vp 10 0), (45, vp 10 3), (46, vi .i64 x_6331.Perms), (47, vs 1), (48, vi .i64 x_3), (49, vp 12 0), (50, vp 12 3)] [.rd 5 R_T_api_Attribute a_1, .rd 5 R_T_api_Attribute b_2, .elt (some (0, x_3)) false (C_api_Attribute x_5 (.s 3)), .rd 1 R8 x_5.Value, .elt (some (1, x_3)) false (C_api_Attribute x_6 (.s 5)), .rd 1 R8 x_6.Value, .elt none false (C_api_Attribute x_1130 (.s 7)), .rd 1 R8 x_1130.Value, .elt none false (C_api_Attribute x_1530 (.s 9)), .rd 1 R8 x_1530.Value, .elt none false (C_api_Attribute x_6331 (.s 11)), .rd 1 R8 x_6331.Value, .elt none false (C_api_Attribute x_6731 (.s 13)), .rd 1 R8 x_6731.Value] ?_ (fun c_4170_1 => ?_)
                 · refine SD.all1 (i := 34) (by kernel_rfl) ?_
                   refine SW.eff D_8 (i := 34) (v := vi .i64 x_6731.Perms) (bs' := [I, I, I, I, I, I, I, I, I, I, I, I, I, I, I, I, I, I, I, I, I, I, I, I, I, I, I, I, I, I, I, I, I, I, I, O, O, O, O, O, O, O, O, O, O, O, O, O, O, O, O]) rfl (.inr ⟨_, _, _, _, rfl, rfl, rfl, hg_4170⟩) rfl (e_val tk (by kernel_rfl)) (by kernel_rfl) rfl (by kernel_rfl) ?_
                   refine SD.takes tk D_8 [(41, false)] (knS rfl hg_4170 kn0) [35, 36, 37] [] [] [I, I, I, I, I, I, I, I, I, I, I, I, I, I, I, I, I, I, I, I, I, I, I, I, I, I, I, I, I, I, I, I, I, I, I, I, I, I, O, O, O, O, O, O, O, O, O, O, O, O, O] [(0, vs 0), (1, vs 1), (5, vi .i64 x_3), (29, vs 0), (30, vi .i64 x_3), (31, vp 6 0), (32, vp 6 1), (33, .g (C_api_UUID x_1130.f_Type)), (34, vs 1), (35, vi .i64 x_3), (36, vp 8 0), (37, vp 8 1), (38, .g (C_api_UUID x_1530.f_Type)), (39, vb (!((x_1130.f_Type.High == x_1530.f_Type.High) && (x_1130.f_Type.Low == x_1530.f_Type.Low)))), (42, vs 0), (43, vi .i64 x_3), (44, vp 10 0), (45, vp 10 3), (46, vi .i64 x_6331.Perms), (47, vs 1), (48, vi .i64 x_3), (49, vp 12 0), (50, vp 12 3), (51, vi .i64 x_6731.Perms), (52, vb (x_6331.Perms != x_6731.Perms)), (54, vb (x_6331.Perms != x_6731.Perms))] rfl (by kernel_rfl) (by kernel_rfl) (by kernel_rfl) ?_
                   exact SD.vie D_8 [.g 0, .g 1, .g 2, .g 3, .g 4, .g 5, .g 6, .g 7, .g 8, .g 9, .g 10, .g 11, .g 12, .g 13] c_4170_0 (by kernel_rfl)
                 · refine SD.lay 18 [I, I, I, I, I, I, I, I, I, I, I, I, I, I, I, I, I, I, I, I, I, I, I, I, I, I, I, I, I, I, I, I, I, O, O, O, O, O, O, O, O, O, O, O, O, O, O, O, O, O, O] [(0, vs 0), (1, vs 1), (5, vi .i64 x_3), (29, vs 0), (30, vi .i64 x_3), (31, vp 6 0), (32, vp 6 1), (33, .g (C_api_UUID x_1130.f_Type)), (34, vs 1), (35, vi .i64 x_3), (36, vp 8 0), (37, vp 8 1), (38, .g (C_api_UUID x_1530.f_Type)), (39, vb (!((x_1130.f_Type.High == x_1530.f_Type.High) && (x_1130.f_Type.Low == x_1530.f_Type.Low)))), (41, vb (!((x_1130.f_Type.High == x_1530.f_Type.High) && (x_1130.f_Type.Low == x_1530.f_Type.Low)))), (42, vs 0), (43, vi .i64 x_3), (44, vp 10 0), (45, vp 10 3), (46, vi .i64 x_6331.Perms), (47, vs 1), (48, vi .i64 x_3), (49, vp 12 0)] [.rd 5 R_T_api_Attribute a_1, .rd 5 R_T_api_Attribute b_2, .elt (some (0, x_3)) false (C_api_Attribute x_5 (.s 3)), .rd 1 R8 x_5.Value, .elt (some (1, x_3)) false (C_api_Attribute x_6 (.s 5)), .rd 1 R8 x_6.Value, .elt none false (C_api_Attribute x_1130 (.s 7)), .rd 1 R8 x_1130.Value, .elt none false (C_api_Attribute x_1530 (.s 9)), .rd 1 R8 x_1530.Value, .elt none false (C_api_Attribute x_6331 (.s 11)), .rd 1 R8 x_6331.Value, .elt none false (C_api_Attribute x_6731 (.s 13)), .rd 1 R8 x_6731.Value] ?_ (fun c_4170_2 => ?_)
                   · refine SD.all1 (i := 33) (by kernel_rfl) ?_
                     refine SW.eff D_8 (i := 33) (v := vp 12 3) (bs' := [I, I, I, I, I, I, I, I, I, I, I, I, I, I, I, I, I, I, I, I, I, I, I, I, I, I, I, I, I, I, I, I, I, I, O, O, O, O, O, O, O, O, O, O, O, O, O, O, O, O, O]) rfl (.inr ⟨_, _, _, _, rfl, rfl, rfl, hg_4170⟩) rfl (e_val tk (by kernel_rfl)) (by kernel_rfl) rfl (by kernel_rfl) ?_
                     exact SD.vie D_8 [.g 0, .g 1, .g 2, .g 3, .g 4, .g 5, .g 6, .g 7, .g 8, .g 9, .g 10, .g 11, .g 12, .g 13] c_4170_1 (by kernel_rfl)
                   · refine SD.lay 19 [I, I, I, I, I, I, I, I, I, I, I, I, I, I, I, I, I, I, I, I, I, I, I, I, I, I, I, I, I, I, I, I, O, O, O, O, O, O, O, O, O, O, O, O, O, O, O, O, O, O, O] [(0, vs 0), (1, vs 1), (5, vi .i64 x_3), (29, vs 0), (30, vi .i64 x_3), (31, vp 6 0), (32, vp 6 1), (33, .g (C_api_UUID x_1130.f_Type)), (34, vs 1), (35, vi .i64 x_3), (36, vp 8 0), (37, vp 8 1), (38, .g (C_api_UUID x_1530.f_Type)), (39, vb (!((x_1130.f_Type.High == x_1530.f_Type.High) && (x_1130.f_Type.Low == x_1530.f_Type.Low)))), (41, vb (!((x_1130.f_Type.High == x_1530.f_Type.High) && (x_1130.f_Type.Low == x_1530.f_Type.Low)))), (42, vs 0), (43, vi .i64 x_3), (44, vp 10 0), (45, vp 10 3), (46, vi .i64 x_6331.Perms), (47, vs 1), (48, vi .i64 x_3)] [.rd 5 R_T_api_Attribute a_1, .rd 5 R_T_api_Attribute b_2, .elt (some (0, x_3)) false (C_api_Attribute x_5 (.s 3)), .rd 1 R8 x_5.Value, .elt (some (1, x_3)) false (C_api_Attribute x_6 (.s 5)), .rd 1 R8 x_6.Value, .elt none false (C_api_Attribute x_1130 (.s 7)), .rd 1 R8 x_1130.Value, .elt none false (C_api_Attribute x_1530 (.s 9)), .rd 1 R8 x_1530.Value, .elt none false (C_api_Attribute x_6331 (.s 11)), .rd 1 R8 x_6331.Value] ?_ (fun c_4170_3 => ?_)
                     · refine SD.pre (pre_ix (i := 1) (iv := x_3) (sz := 5) (R := R_T_api_Attribute) (l := b_2) (by kernel_rfl) rfl e_x_6731) ?_
                       refine SD.all1 (i := 32) (by kernel_rfl) ?_
                       refine SW.eff D_8 (i := 32) (v := vp 12 0) (bs' := [I, I, I, I, I, I, I, I, I, I, I, I, I, I, I, I, I, I, I, I, I, I, I, I, I, I, I, I, I, I, I, I, I, O, O, O, O, O, O, O, O, O, O, O, O, O, O, O, O, O, O]) rfl (.inr ⟨_, _, _, _, rfl, rfl, rfl, hg_4170⟩) rfl (e_valE tk (.el 12) [x_3] (by kernel_rfl)) (by kernel_rfl) rfl (by kernel_rfl) ?_
                       exact SD.vie D_8 [.g 0, .g 1, .g 2, .g 3, .g 4, .g 5, .g 6, .g 7, .g 8, .g 9, .g 10, .g 11, .g 12, .g 13] c_4170_2 (by kernel_rfl)
                     · refine SD.lay 17 [I, I, I, I, I, I, I, I, I, I, I, I, I, I, I, I, I, I, I, I, I, I, I, I, I, I, I, I, I, O, I, I, I, I, I, O, O, O, O, O, O, O, O, O, O, O, O, O, O, O, O] [(0, vs 0), (1, vs 1), (5, vi .i64 x_3), (29, vs 0), (30, vi .i64 x_3), (31, vp 6 0), (32, vp 6 1), (33, .g (C_api_UUID x_1130.f_Type)), (34, vs 1), (35, vi .i64 x_3), (36, vp 8 0), (37, vp 8 1), (38, .g (C_api_UUID x_1530.f_Type)), (39, vb (!((x_1130.f_Type.High == x_1530.f_Type.High) && (x_1130.f_Type.Low == x_1530.f_Type.Low)))), (41, vb (!((x_1130.f_Type.High == x_1530.f_Type.High) && (x_1130.f_Type.Low == x_1530.f_Type.Low)))), (42, vs 0), (43, vi .i64 x_3), (44, vp 10 0), (45, vp 10 3), (47, vs 1), (48, vi .i64 x_3), (49, vp 12 0), (50, vp 12 3), (51, vi .i64 x_6731.Perms)] [.rd 5 R_T_api_Attribute a_1, .rd 5 R_T_api_Attribute b_2, .elt (some (0, x_3)) false (C_api_Attribute x_5 (.s 3)), .rd 1 R8 x_5.Value, .elt (some (1, x_3)) false (C_api_Attribute x_6 (.s 5)), .rd 1 R8 x_6.Value, .elt none false (C_api_Attribute x_1130 (.s 7)), .rd 1 R8 x_1130.Value, .elt none false (C_api_Attribute x_1530 (.s 9)), .rd 1 R8 x_1530.Value, .elt none false (C_api_Attribute x_6331 (.s 11)), .rd 1 R8 x_6331.Value, .elt none false (C_api_Attribute x_6731 (.s 13)), .rd 1 R8 x_6731.Value] ?_ (fun c_4170_4 => ?_)
                       · refine SD.all1 (i := 29) (by kernel_rfl) ?_
                         refine SW.eff D_8 (i := 29) (v := vi .i64 x_6331.Perms) (bs' := [I, I, I, I, I, I, I, I, I, I, I, I, I, I, I, I, I, I, I, I, I, I, I, I, I, I, I, I, I, I, I, I, I, I, I, O, O, O, O, O, O, O, O, O, O, O, O, O, O, O, O]) rfl (.inr ⟨_, _, _, _, rfl, rfl, rfl, hg_4170⟩) rfl (e_val tk (by kernel_rfl)) (by kernel_rfl) rfl (by kernel_rfl) ?_
                         refine SD.takes tk D_8 [(41, false)] (knS rfl hg_4170 kn0) [35, 36, 37] [] [] [I, I, I, I, I, I, I, I, I, I, I, I, I, I, I, I, I, I, I, I, I, I, I, I, I, I, I, I, I, I, I, I, I, I, I, I, I, I, O, O, O, O, O, O, O, O, O, O, O, O, O] [(0, vs 0), (1, vs 1), (5, vi .i64 x_3), (29, vs 0), (30, vi .i64 x_3), (31, vp 6 0), (32, vp 6 1), (33, .g (C_api_UUID x_1130.f_Type)), (34, vs 1), (35, vi .i64 x_3), (36, vp 8 0), (37, vp 8 1), (38, .g (C_api_UUID x_1530.f_Type)), (39, vb (!((x_1130.f_Type.High == x_1530.f_Type.High) && (x_1130.f_Type.Low == x_1530.f_Type.Low)))), (42, vs 0), (43, vi .i64 x_3), (44, vp 10 0), (45, vp 10 3), (46, vi .i64 x_6331.Perms), (47, vs 1), (48, vi .i64 x_3), (49, vp 12 0), (50, vp 12 3), (51, vi .i64 x_6731.Perms), (52, vb (x_6331.Perms != x_6731.Perms)), (54, vb (x_6331.Perms != x_6731.Perms))] rfl (by kernel_rfl) (by kernel_rfl) (by kernel_rfl) ?_
                         exact SD.vie D_8 [.g 0, .g 1, .g 2, .g 3, .g 4, .g 5, .g 6, .g 7, .g 8, .g 9, .g 10, .g 11, .g 12, .g 13] c_4170_0 (by kernel_rfl)
                       · refine SD.lay 18 [I, I, I, I, I, I, I, I, I, I, I, I, I, I, I, I, I, I, I, I, I, I, I, I, I, I, I, I, I, O, I, I, I, I, O, O, O, O, O, O, O, O, O, O, O, O, O, O, O, O, O] [(0, vs 0), (1, vs 1), (5, vi .i64 x_3), (29, vs 0), (30, vi .i64 x_3), (31, vp 6 0), (32, vp 6 1), (33, .g (C_api_UUID x_1130.f_Type)), (34, vs 1), (35, vi .i64 x_3), (36, vp 8 0), (37, vp 8 1), (38, .g (C_api_UUID x_1530.f_Type)), (39, vb (!((x_1130.f_Type.High == x_1530.f_Type.High) && (x_1130.f_Type.Low == x_1530.f_Type.Low)))), (41, vb (!((x_1130.f_Type.High == x_1530.f_Type.High) && (x_1130.f_Type.Low == x_1530.f_Type.Low)))), (42, vs 0), (43, vi .i64 x_3), (44, vp 10 0), (45, vp 10 3), (47, vs 1), (48, vi .i64 x_3), (49, vp 12 0), (50, vp 12 3)] [.rd 5 R_T_api_Attribute a_1, .rd 5 R_T_api_Attribute b_2, .elt (some (0, x_3)) false (C_api_Attribute x_5 (.s 3)), .rd 1 R8 x_5.Value, .elt (some (1, x_3)) false (C_api_Attribute x_6 (.s 5)), .rd 1 R8 x_6.Value, .elt none false (C_api_Attribute x_1130 (.s 7)), .rd 1 R8 x_1130.Value, .elt none false (C_api_Attribute x_1530 (.s 9)), .rd 1 R8 x_1530.Value, .elt none false (C_api_Attribute x_6331 (.s 11)), .rd 1 R8 x_6331.Value, .elt none false (C_api_Attribute x_6731 (.s 13)), .rd 1 R8 x_6731.Value] ?_ (fun c_4170_5 => ?_)
                         · refine SD.all2 (i := 29) (j := 34) (by kernel_rfl) ?_ ?_
                           · refine SW.eff D_8 (i := 29) (v := vi .i64 x_6331.Perms) (bs' := [I, I, I, I, I, I, I, I, I, I, I, I, I, I, I, I, I, I, I, I, I, I, I, I, I, I, I, I, I, I, I, I, I, I, O, O, O, O, O, O, O, O, O, O, O, O, O, O, O, O, O]) rfl (.inr ⟨_, _, _, _, rfl, rfl, rfl, hg_4170⟩) rfl (e_val tk (by kernel_rfl)) (by kernel_rfl) rfl (by kernel_rfl) ?_
                             exact SD.vie D_8 [.g 0, .g 1, .g 2, .g 3, .g 4, .g 5, .g 6, .g 7, .g 8, .g 9, .g 10, .g 11, .g 12, .g 13] c_4170_1 (by kernel_rfl)
                           · refine SW.eff D_8 (i := 34) (v := vi .i64 x_6731.Perms) (bs' := [I, I, I, I, I, I, I, I, I, I, I, I, I, I, I, I, I, I, I, I, I, I, I, I, I, I, I, I, I, O, I, I, I, I, I, O, O, O, O, O, O, O, O, O, O, O, O, O, O, O, O]) rfl (.inr ⟨_, _, _, _, rfl, rfl, rfl, hg_4170⟩) rfl (e_val tk (by kernel_rfl)) (by kernel_rfl) rfl (by kernel_rfl) ?_
                             exact SD.vie D_8 [.g 0, .g 1, .g 2, .g 3, .g 4, .g 5, .g 6, .g 7, .g 8, .g 9, .g 10, .g 11, .g 12, .g 13] c_4170_4 (by kernel_rfl)
                         · refine SD.lay 19 [I, I, I, I, I, I, I, I, I, I, I, I, I, I, I, I, I, I, I, I, I, I, I, I, I, I, I, I, I, O, I, I, I, O, O, O, O, O, O, O, O, O, O, O, O, O, O, O, O, O, O] [(0, vs 0), (1, vs 1), (5, vi .i64 x_3), (29, vs 0), (30, vi .i64 x_3), (31, vp 6 0), (32, vp 6 1), (33, .g (C_api_UUID x_1130.f_Type)), (34, vs 1), (35, vi .i64 x_3), (36, vp 8 0), (37, vp 8 1), (38, .g (C_api_UUID x_1530.f_Type)), (39, vb (!((x_1130.f_Type.High == x_1530.f_Type.High) && (x_1130.f_Type.Low == x_1530.f_Type.Low)))), (41, vb (!((x_1130.f_Type.High == x_1530.f_Type.High) && (x_1130.f_Type.Low == x_1530.f_Type.Low)))), (42, vs 0), (43, vi .i64 x_3), (44, vp 10 0), (45, vp 10 3), (47, vs 1), (48, vi .i64 x_3), (49, vp 12 0)] [.rd 5 R_T_api_Attribute a_1, .rd 5 R_T_api_Attribute b_2, .elt (some (0, x_3)) false (C_api_Attribute x_5 (.s 3)), .rd 1 R8 x_5.Value, .elt (some (1, x_3)) false (C_api_Attribute x_6 (.s 5)), .rd 1 R8 x_6.Value, .elt none false (C_api_Attribute x_1130 (.s 7)), .rd 1 R8 x_1130.Value, .elt none false (C_api_Attribute x_1530 (.s 9)), .rd 1 R8 x_1530.Value, .elt none false (C_api_Attribute x_6331 (.s 11)), .rd 1 R8 x_6331.Value, .elt none false (C_api_Attribute x_6731 (.s 13)), .rd 1 R8 x_6731.Value] ?_ (fun c_4170_6 => ?_)
                           · refine SD.all2 (i := 29) (j := 33) (by kernel_rfl) ?_ ?_
                             · refine SW.eff D_8 (i := 29) (v := vi .i64 x_6331.Perms) (bs' := [I, I, I, I, I, I, I, I, I, I, I, I, I, I, I, I, I, I, I, I, I, I, I, I, I, I, I, I, I, I, I, I, I, O, O, O, O, O, O, O, O, O, O, O, O, O, O, O, O, O, O]) rfl (.inr ⟨_, _, _, _, rfl, rfl, rfl, hg_4170⟩) rfl (e_val tk (by kernel_rfl)) (by kernel_rfl) rfl (by kernel_rfl) ?_
                               exact SD.vie D_8 [.g 0, .g 1, .g 2, .g 3, .g 4, .g 5, .g 6, .g 7, .g 8, .g 9, .g 10, .g 11, .g 12, .g 13] c_4170_2 (by kernel_rfl)
                             · refine SW.eff D_8 (i := 33) (v := vp 12 3) (bs' := [I, I, I, I, I, I, I, I, I, I, I, I, I, I, I, I, I, I, I, I, I, I, I, I, I, I, I, I, I, O, I, I, I, I, O, O, O, O, O, O, O, O, O, O, O, O, O, O, O, O, O]) rfl (.inr ⟨_, _, _, _, rfl, rfl, rfl, hg_4170⟩) rfl (e_val tk (by kernel_rfl)) (by kernel_rfl) rfl (by kernel_rfl) ?_
                               exact SD.vie D_8 [.g 0, .g 1, .g 2, .g 3, .g 4, .g 5, .g 6, .g 7, .g 8, .g 9, .g 10, .g 11, .g 12, .g 13] c_4170_5 (by kernel_rfl)
                           · refine SD.lay 20 [I, I, I, I, I, I, I, I, I, I, I, I, I, I, I, I, I, I, I, I, I, I, I, I, I, I, I, I, I, O, I, I, O, O, O, O, O, O, O, O, O, O, O, O, O, O, O, O, O, O, O] [(0, vs 0), (1, vs 1), (5, vi .i64 x_3), (29, vs 0), (30, vi .i64 x_3), (31, vp 6 0), (32, vp 6 1), (33, .g (C_api_UUID x_1130.f_Type)), (34, vs 1), (35, vi .i64 x_3), (36, vp 8 0), (37, vp 8 1), (38, .g (C_api_UUID x_1530.f_Type)), (39, vb (!((x_1130.f_Type.High == x_1530.f_Type.High) && (x_1130.f_Type.Low == x_1530.f_Type.Low)))), (41, vb (!((x_1130.f_Type.High == x_1530.f_Type.High) && (x_1130.f_Type.Low == x_1530.f_Type.Low)))), (42, vs 0), (43, vi .i64 x_3), (44, vp 10 0), (45, vp 10 3), (47, vs 1), (48, vi .i64 x_3)] [.rd 5 R_T_api_Attribute a_1, .rd 5 R_T_api_Attribute b_2, .elt (some (0, x_3)) false (C_api_Attribute x_5 (.s 3)), .rd 1 R8 x_5.Value, .elt (some (1, x_3)) false (C_api_Attribute x_6 (.s 5)), .rd 1 R8 x_6.Value, .elt none false (C_api_Attribute x_1130 (.s 7)), .rd 1 R8 x_1130.Value, .elt none false (C_api_Attribute x_1530 (.s 9)), .rd 1 R8 x_1530.Value, .elt none false (C_api_Attribute x_6331 (.s 11)), .rd 1 R8 x_6331.Value] ?_ (fun c_4170_7 => ?_)
                             · refine SD.all2 (i := 29) (j := 32) (by kernel_rfl) ?_ ?_
                               · refine SW.eff D_8 (i := 29) (v := vi .i64 x_6331.Perms) (bs' := [I, I, I, I, I, I, I, I, I, I, I, I, I, I, I, I, I, I, I, I, I, I, I, I, I, I, I, I, I, I, I, I, O, O, O, O, O, O, O, O, O, O, O, O, O, O, O, O, O, O, O]) rfl (.inr ⟨_, _, _, _, rfl, rfl, rfl, hg_4170⟩) rfl (e_val tk (by kernel_rfl)) (by kernel_rfl) rfl (by kernel_rfl) ?_
                                 exact SD.vie D_8 [.g 0, .g 1, .g 2, .g 3, .g 4, .g 5, .g 6, .g 7, .g 8, .g 9, .g 10, .g 11] c_4170_3 (by kernel_rfl)
                               · refine SW.pre (pre_ix (i := 1) (iv := x_3) (sz := 5) (R := R_T_api_Attribute) (l := b_2) (by kernel_rfl) rfl e_x_6731) ?_
                                 refine SW.eff D_8 (i := 32) (v := vp 12 0) (bs' := [I, I, I, I, I, I, I, I, I, I, I, I, I, I, I, I, I, I, I, I, I, I, I, I, I, I, I, I, I, O, I, I, I, O, O, O, O, O, O, O, O, O, O, O, O, O, O, O, O, O, O]) rfl (.inr ⟨_, _, _, _, rfl, rfl, rfl, hg_4170⟩) rfl (e_valE tk (.el 12) [x_3] (by kernel_rfl)) (by kernel_rfl) rfl (by kernel_rfl) ?_
                                 exact SD.vie D_8 [.g 0, .g 1, .g 2, .g 3, .g 4, .g 5, .g 6, .g 7, .g 8, .g 9, .g 10, .g 11, .g 12, .g 13] c_4170_6 (by kernel_rfl)
                             · refine SD.lay 18 [I, I, I, I, I, I, I, I, I, I, I, I, I, I, I, I, I, I, I, I, I, I, I, I, I, I, I, I, O, O, I, I, I, I, I, O, O, O, O, O, O, O, O, O, O, O, O, O, O, O, O] [(0, vs 0), (1, vs 1), (5, vi .i64 x_3), (29, vs 0), (30, vi .i64 x_3), (31, vp 6 0), (32, vp 6 1), (33, .g (C_api_UUID x_1130.f_Type)), (34, vs 1), (35, vi .i64 x_3), (36, vp 8 0), (37, vp 8 1), (38, .g (C_api_UUID x_1530.f_Type)), (39, vb (!((x_1130.f_Type.High == x_1530.f_Type.High) && (x_1130.f_Type.Low == x_1530.f_Type.Low)))), (41, vb (!((x_1130.f_Type.High == x_1530.f_Type.High) && (x_1130.f_Type.Low == x_1530.f_Type.Low)))), (42, vs 0), (43, vi .i64 x_3), (44, vp 10 0), (47, vs 1), (48, vi .i64 x_3), (49, vp 12 0), (50, vp 12 3), (51, vi .i64 x_6731.Perms)] [.rd 5 R_T_api_Attribute a_1, .rd 5 R_T_api_Attribute b_2, .elt (some (0, x_3)) false (C_api_Attribute x_5 (.s 3)), .rd 1 R8 x_5.Value, .elt (some (1, x_3)) false (C_api_Attribute x_6 (.s 5)), .rd 1 R8 x_6.Value, .elt none false (C_api_Attribute x_1130 (.s 7)), .rd 1 R8 x_1130.Value, .elt none false (C_api_Attribute x_1530 (.s 9)), .rd 1 R8 x_1530.Value, .elt none false (C_api_Attribute x_6331 (.s 11)), .rd 1 R8 x_6331.Value, .elt none false (C_api_Attribute x_6731 (.s 13)), .rd 1 R8 x_6731.Value] ?_ (fun c_4170_8 => ?_)
                               · refine SD.all1 (i := 28) (by kernel_rfl) ?_
                                 refine SW.eff D_8 (i := 28) (v := vp 10 3) (bs' := [I, I, I, I, I, I, I, I, I, I, I, I, I, I, I, I, I, I, I, I, I, I, I, I, I, I, I, I, I, O, I, I, I, I, I, O, O, O, O, O, O, O, O, O, O, O, O, O, O, O, O]) rfl (.inr ⟨_, _, _, _, rfl, rfl, rfl, hg_4170⟩) rfl (e_val tk (by kernel_rfl)) (by kernel_rfl) rfl (by kernel_rfl) ?_
                                 exact SD.vie D_8 [.g 0, .g 1, .g 2, .g 3, .g 4, .g 5, .g 6, .g 7, .g 8, .g 9, .g 10, .g 11, .g 12, .g 13] c_4170_4 (by kernel_rfl)
                               · refine SD.lay 19 [I, I, I, I, I, I, I, I, I, I, I, I, I, I, I, I, I, I, I, I, I, I, I, I, I, I, I, I, O, O, I, I, I, I, O, O, O, O, O, O, O, O, O, O, O, O, O, O, O, O, O] [(0, vs 0), (1, vs 1), (5, vi .i64 x_3), (29, vs 0), (30, vi .i64 x_3), (31, vp 6 0), (32, vp 6 1), (33, .g (C_api_UUID x_1130.f_Type)), (34, vs 1), (35, vi .i64 x_3), (36, vp 8 0), (37, vp 8 1), (38, .g (C_api_UUID x_1530.f_Type)), (39, vb (!((x_1130.f_Type.High == x_1530.f_Type.High) && (x_1130.f_Type.Low == x_1530.f_Type.Low)))), (41, vb (!((x_1130.f_Type.High == x_1530.f_Type.High) && (x_1130.f_Type.Low == x_1530.f_Type.Low)))), (42, vs 0), (43, vi .i64 x_3), (44, vp 10 0), (47, vs 1), (48, vi .i64 x_3), (49, vp 12 0), (50, vp 12 3)] [.rd 5 R_T_api_Attribute a_1, .rd 5 R_T_api_Attribute b_2, .elt (some (0, x_3)) false (C_api_Attribute x_5 (.s 3)), .rd 1 R8 x_5.Value, .elt (some (1, x_3)) false (C_api_Attribute x_6 (.s 5)), .rd 1 R8 x_6.Value, .elt none false (C_api_Attribute x_1130 (.s 7)), .rd 1 R8 x_1130.Value, .elt none false (C_api_Attribute x_1530 (.s 9)), .rd 1 R8 x_1530.Value, .elt none false (C_api_Attribute x_6331 (.s 11)), .rd 1 R8 x_6331.Value, .elt none false (C_api_Attribute x_6731 (.s 13)), .rd 1 R8 x_6731.Value] ?_ (fun c_4170_9 => ?_)
                                 · refine SD.all2 (i := 28) (j := 34) (by kernel_rfl) ?_ ?_
                                   · refine SW.eff D_8 (i := 28) (v := vp 10 3) (bs' := [I, I, I, I, I, I, I, I, I, I, I, I, I, I, I, I, I, I, I, I, I, I, I, I, I, I, I, I, I, O, I, I, I, I, O, O, O, O, O, O, O, O, O, O, O, O, O, O, O, O, O]) rfl (.inr ⟨_, _, _, _, rfl, rfl, rfl, hg_4170⟩) rfl (e_val tk (by kernel_rfl)) (by kernel_rfl) rfl (by kernel_rfl) ?_
                                     exact SD.vie D_8 [.g 0, .g 1, .g 2, .g 3, .g 4, .g 5, .g 6, .g 7, .g 8, .g 9, .g 10, .g 11, .g 12, .g 13] c_4170_5 (by kernel_rfl)
                                   · refine SW.eff D_8 (i := 34) (v := vi .i64 x_6731.Perms) (bs' := [I, I, I, I, I, I, I, I, I, I, I, I, I, I, I, I, I, I, I, I, I, I, I, I, I, I, I, I, O, O, I, I, I, I, I, O, O, O, O, O, O, O, O, O, O, O, O, O, O, O, O]) rfl (.inr ⟨_, _, _, _, rfl, rfl, rfl, hg_4170⟩) rfl (e_val tk (by kernel_rfl)) (by kernel_rfl) rfl (by kernel_rfl) ?_
                                     exact SD.vie D_8 [.g 0, .g 1, .g 2, .g 3, .g 4, .g 5, .g 6, .g 7, .g 8, .g 9, .g 10, .g 11, .g 12, .g 13] c_4170_8 (by kernel_rfl)
                                 · refine SD.lay 20 [I, I, I, I, I, I, I, I, I, I, I, I, I, I, I, I, I, I, I, I, I, I, I, I, I, I, I, I, O, O, I, I, I, O, O, O, O, O, O, O, O, O, O, O, O, O, O, O, O, O, O] [(0, vs 0), (1, vs 1), (5, vi .i64 x_3), (29, vs 0), (30, vi .i64 x_3), (31, vp 6 0), (32, vp 6 1), (33, .g (C_api_UUID x_1130.f_Type)), (34, vs 1), (35, vi .i64 x_3), (36, vp 8 0), (37, vp 8 1), (38, .g (C_api_UUID x_1530.f_Type)), (39, vb (!((x_1130.f_Type.High == x_1530.f_Type.High) && (x_1130.f_Type.Low == x_1530.f_Type.Low)))), (41, vb (!((x_1130.f_Type.High == x_1530.f_Type.High) && (x_1130.f_Type.Low == x_1530.f_Type.Low)))), (42, vs 0), (43, vi .i64 x_3), (44, vp 10 0), (47, vs 1), (48, vi .i64 x_3), (49, vp 12 0)] [.rd 5 R_T_api_Attribute a_1, .rd 5 R_T_api_Attribute b_2, .elt (some (0, x_3)) false (C_api_Attribute x_5 (.s 3)), .rd 1 R8 x_5.Value, .elt (some (1, x_3)) false (C_api_Attribute x_6 (.s 5)), .rd 1 R8 x_6.Value, .elt none false (C_api_Attribute x_1130 (.s 7)), .rd 1 R8 x_1130.Value, .elt none false (C_api_Attribute x_1530 (.s 9)), .rd 1 R8 x_1530.Value, .elt none false (C_api_Attribute x_6331 (.s 11)), .rd 1 R8 x_6331.Value, .elt none false (C_api_Attribute x_6731 (.s 13)), .rd 1 R8 x_6731.Value] ?_ (fun c_4170_10 => ?_)
                                   · refine SD.all2 (i := 28) (j := 33) (by kernel_rfl) ?_ ?_
                                     · refine SW.eff D_8 (i := 28) (v := vp 10 3) (bs' := [I, I, I, I, I, I, I, I, I, I, I, I, I, I, I, I, I, I, I, I, I, I, I, I, I, I, I, I, I, O, I, I, I, O, O, O, O, O, O, O, O, O, O, O, O, O, O, O, O, O, O]) rfl (.inr ⟨_, _, _, _, rfl, rfl, rfl, hg_4170⟩) rfl (e_val tk (by kernel_rfl)) (by kernel_rfl) rfl (by kernel_rfl) ?_
                                       exact SD.vie D_8 [.g 0, .g 1, .g 2, .g 3, .g 4, .g 5, .g 6, .g 7, .g 8, .g 9, .g 10, .g 11, .g 12, .g 13] c_4170_6 (by kernel_rfl)
                                     · refine SW.eff D_8 (i := 33) (v := vp 12 3) (bs' := [I, I, I, I, I, I, I, I, I, I, I, I, I, I, I, I, I, I, I, I, I, I, I, I, I, I, I, I, O, O, I, I, I, I, O, O, O, O, O, O, O, O, O, O, O, O, O, O, O, O, O]) rfl (.inr ⟨_, _, _, _, rfl, rfl, rfl, hg_4170⟩) rfl (e_val tk (by kernel_rfl)) (by kernel_rfl) rfl (by kernel_rfl) ?_
                                       exact SD.vie D_8 [.g 0, .g 1, .g 2, .g 3, .g 4, .g 5, .g 6, .g 7, .g 8, .g 9, .g 10, .g 11, .g 12, .g 13] c_4170_9 (by kernel_rfl)
                                   · refine SD.lay 21 [I, I, I, I, I, I, I, I, I, I, I, I, I, I, I, I, I, I, I, I, I, I, I, I, I, I, I, I, O, O, I, I, O, O, O, O, O, O, O, O, O, O, O, O, O, O, O, O, O, O, O] [(0, vs 0), (1, vs 1), (5, vi .i64 x_3), (29, vs 0), (30, vi .i64 x_3), (31, vp 6 0), (32, vp 6 1), (33, .g (C_api_UUID x_1130.f_Type)), (34, vs 1), (35, vi .i64 x_3), (36, vp 8 0), (37, vp 8 1), (38, .g (C_api_UUID x_1530.f_Type)), (39, vb (!((x_1130.f_Type.High == x_1530.f_Type.High) && (x_1130.f_Type.Low == x_1530.f_Type.Low)))), (41, vb (!((x_1130.f_Type.High == x_1530.f_Type.High) && (x_1130.f_Type.Low == x_1530.f_Type.Low)))), (42, vs 0), (43, vi .i64 x_3), (44, vp 10 0), (47, vs 1), (48, vi .i64 x_3)] [.rd 5 R_T_api_Attribute a_1, .rd 5 R_T_api_Attribute b_2, .elt (some (0, x_3)) false (C_api_Attribute x_5 (.s 3)), .rd 1 R8 x_5.Value, .elt (some (1, x_3)) false (C_api_Attribute x_6 (.s 5)), .rd 1 R8 x_6.Value, .elt none false (C_api_Attribute x_1130 (.s 7)), .rd 1 R8 x_1130.Value, .elt none false (C_api_Attribute x_1530 (.s 9)), .rd 1 R8 x_1530.Value, .elt none false (C_api_Attribute x_6331 (.s 11)), .rd 1 R8 x_6331.Value] ?_ (fun c_4170_11 => ?_)
                                     · refine SD.all2 (i := 28) (j := 32) (by kernel_rfl) ?_ ?_
                                       · refine SW.eff D_8 (i := 28) (v := vp 10 3) (bs' := [I, I, I, I, I, I, I, I, I, I, I, I, I, I, I, I, I, I, I, I, I, I, I, I, I, I, I, I, I, O, I, I, O, O, O, O, O, O, O, O, O, O, O, O, O, O, O, O, O, O, O]) rfl (.inr ⟨_, _, _, _, rfl, rfl, rfl, hg_4170⟩) rfl (e_val tk (by kernel_rfl)) (by kernel_rfl) rfl (by kernel_rfl) ?_
                                         exact SD.vie D_8 [.g 0, .g 1, .g 2, .g 3, .g 4, .g 5, .g 6, .g 7, .g 8, .g 9, .g 10, .g 11] c_4170_7 (by kernel_rfl)
                                       · refine SW.pre (pre_ix (i := 1) (iv := x_3) (sz := 5) (R := R_T_api_Attribute) (l := b_2) (by kernel_rfl) rfl e_x_6731) ?_
                                         refine SW.eff D_8 (i := 32) (v := vp 12 0) (bs' := [I, I, I, I, I, I, I, I, I, I, I, I, I, I, I, I, I, I, I, I, I, I, I, I, I, I, I, I, O, O, I, I, I, O, O, O, O, O, O, O, O, O, O, O, O, O, O, O, O, O, O]) rfl (.inr ⟨_, _, _, _, rfl, rfl, rfl, hg_4170⟩) rfl (e_valE tk (.el 12) [x_3] (by kernel_rfl)) (by kernel_rfl) rfl (by kernel_rfl) ?_
                                         exact SD.vie D_8 [.g 0, .g 1, .g 2, .g 3, .g 4, .g 5, .g 6, .g 7, .g 8, .g 9, .g 10, .g 11, .g 12, .g 13] c_4170_10 (by kernel_rfl)
                                     · refine SD.lay 19 [I, I, I, I, I, I, I, I, I, I, I, I, I, I, I, I, I, I, I, I, I, I, I, I, I, I, I, O, O, O, I, I, I, I, I, O, O, O, O, O, O, O, O, O, O, O, O, O, O, O, O] [(0, vs 0), (1, vs 1), (5, vi .i64 x_3), (29, vs 0), (30, vi .i64 x_3), (31, vp 6 0), (32, vp 6 1), (33, .g (C_api_UUID x_1130.f_Type)), (34, vs 1), (35, vi .i64 x_3), (36, vp 8 0), (37, vp 8 1), (38, .g (C_api_UUID x_1530.f_Type)), (39, vb (!((x_1130.f_Type.High == x_1530.f_Type.High) && (x_1130.f_Type.Low == x_1530.f_Type.Low)))), (41, vb (!((x_1130.f_Type.High == x_1530.f_Type.High) && (x_1130.f_Type.Low == x_1530.f_Type.Low)))), (42, vs 0), (43, vi .i64 x_3), (47, vs 1), (48, vi .i64 x_3), (49, vp 10 0), (50, vp 10 3), (51, vi .i64 x_6731.Perms)] [.rd 5 R_T_api_Attribute a_1, .rd 5 R_T_api_Attribute b_2, .elt (some (0, x_3)) false (C_api_Attribute x_5 (.s 3)), .rd 1 R8 x_5.Value, .elt (some (1, x_3)) false (C_api_Attribute x_6 (.s 5)), .rd 1 R8 x_6.Value, .elt none false (C_api_Attribute x_1130 (.s 7)), .rd 1 R8 x_1130.Value, .elt none false (C_api_Attribute x_1530 (.s 9)), .rd 1 R8 x_1530.Value, .elt none false (C_api_Attribute x_6731 (.s 11)), .rd 1 R8 x_6731.Value] ?_ (fun c_4170_12 => ?_)
                                       · refine SD.pre (pre_ix (i := 0) (iv := x_3) (sz := 5) (R := R_T_api_Attribute) (l := a_1) (by kernel_rfl) rfl e_x_6331) ?_
                                         refine SD.all1 (i := 27) (by kernel_rfl) ?_
                                         refine SW.eff D_8 (i := 27) (v := vp 12 0) (bs' := [I, I, I, I, I, I, I, I, I, I, I, I, I, I, I, I, I, I, I, I, I, I, I, I, I, I, I, I, O, O, I, I, I, I, I, O, O, O, O, O, O, O, O, O, O, O, O, O, O, O, O]) rfl (.inr ⟨_, _, _, _, rfl, rfl, rfl, hg_4170⟩) rfl (e_valE tk (.el 12) [x_3] (by kernel_rfl)) (by kernel_rfl) rfl (by kernel_rfl) ?_
                                         exact SD.vie D_8 [.g 0, .g 1, .g 2, .g 3, .g 4, .g 5, .g 6, .g 7, .g 8, .g 9, .g 12, .g 13, .g 10, .g 11] c_4170_8 (by kernel_rfl)
                                       · refine SD.lay 20 [I, I, I, I, I, I, I, I, I, I, I, I, I, I, I, I, I, I, I, I, I, I, I, I, I, I, I, O, O, O, I, I, I, I, O, O, O, O, O, O, O, O, O, O, O, O, O, O, O, O, O] [(0, vs 0), (1, vs 1), (5, vi .i64 x_3), (29, vs 0), (30, vi .i64 x_3), (31, vp 6 0), (32, vp 6 1), (33, .g (C_api_UUID x_1130.f_Type)), (34, vs 1), (35, vi .i64 x_3), (36, vp 8 0), (37, vp 8 1), (38, .g (C_api_UUID x_1530.f_Type)), (39, vb (!((x_1130.f_Type.High == x_1530.f_Type.High) && (x_1130.f_Type.Low == x_1530.f_Type.Low)))), (41, vb (!((x_1130.f_Type.High == x_1530.f_Type.High) && (x_1130.f_Type.Low == x_1530.f_Type.Low)))), (42, vs 0), (43, vi .i64 x_3), (47, vs 1), (48, vi .i64 x_3), (49, vp 10 0), (50, vp 10 3)] [.rd 5 R_T_api_Attribute a_1, .rd 5 R_T_api_Attribute b_2, .elt (some (0, x_3)) false (C_api_Attribute x_5 (.s 3)), .rd 1 R8 x_5.Value, .elt (some (1, x_3)) false (C_api_Attribute x_6 (.s 5)), .rd 1 R8 x_6.Value, .elt none false (C_api_Attribute x_1130 (.s 7)), .rd 1 R8 x_1130.Value, .elt none false (C_api_Attribute x_1530 (.s 9)), .rd 1 R8 x_1530.Value, .elt none false (C_api_Attribute x_6731 (.s 11)), .rd 1 R8 x_6731.Value] ?_ (fun c_4170_13 => ?_)
                                         · refine SD.all2 (i := 27) (j := 34) (by kernel_rfl) ?_ ?_
                                           · refine SW.pre (pre_ix (i := 0) (iv := x_3) (sz := 5) (R := R_T_api_Attribute) (l := a_1) (by kernel_rfl) rfl e_x_6331) ?_
                                             refine SW.eff D_8 (i := 27) (v := vp 12 0) (bs' := [I, I, I, I, I, I, I, I, I, I, I, I, I, I, I, I, I, I, I, I, I, I, I, I, I, I, I, I, O, O, I, I, I, I, O, O, O, O, O, O, O, O, O, O, O, O, O, O, O, O, O]) rfl (.inr ⟨_, _, _, _, rfl, rfl, rfl, hg_4170⟩) rfl (e_valE tk (.el 12) [x_3] (by kernel_rfl)) (by kernel_rfl) rfl (by kernel_rfl) ?_
                                             exact SD.vie D_8 [.g 0, .g 1, .g 2, .g 3, .g 4, .g 5, .g 6, .g 7, .g 8, .g 9, .g 12, .g 13, .g 10, .g 11] c_4170_9 (by kernel_rfl)
                                           · refine SW.eff D_8 (i := 34) (v := vi .i64 x_6731.Perms) (bs' := [I, I, I, I, I, I, I, I, I, I, I, I, I, I, I, I, I, I, I, I, I, I, I, I, I, I, I, O, O, O, I, I, I, I, I, O, O, O, O, O, O, O, O, O, O, O, O, O, O, O, O]) rfl (.inr ⟨_, _, _, _, rfl, rfl, rfl, hg_4170⟩) rfl (e_val tk (by kernel_rfl)) (by kernel_rfl) rfl (by kernel_rfl) ?_
                                             exact SD.vie D_8 [.g 0, .g 1, .g 2, .g 3, .g 4, .g 5, .g 6, .g 7, .g 8, .g 9, .g 10, .g 11] c_4170_12 (by kernel_rfl)
                                         · refine SD.lay 21 [I, I, I, I, I, I, I, I, I, I, I, I, I, I, I, I, I, I, I, I, I, I, I, I, I, I, I, O, O, O, I, I, I, O, O, O, O, O, O, O, O, O, O, O, O, O, O, O, O, O, O] [(0, vs 0), (1, vs 1), (5, vi .i64 x_3), (29, vs 0), (30, vi .i64 x_3), (31, vp 6 0), (32, vp 6 1), (33, .g (C_api_UUID x_1130.f_Type)), (34, vs 1), (35, vi .i64 x_3), (36, vp 8 0), (37, vp 8 1), (38, .g (C_api_UUID x_1530.f_Type)), (39, vb (!((x_1130.f_Type.High == x_1530.f_Type.High) && (x_1130.f_Type.Low == x_1530.f_Type.Low)))), (41, vb (!((x_1130.f_Type.High == x_1530.f_Type.High) && (x_1130.f_Type.Low == x_1530.f_Type.Low)))), (42, vs 0), (43, vi .i64 x_3), (47, vs 1), (48, vi .i64 x_3), (49, vp 10 0)] [.rd 5 R_T_api_Attribute a_1, .rd 5 R_T_api_Attribute b_2, .elt (some (0, x_3)) false (C_api_Attribute x_5 (.s 3)), .rd 1 R8 x_5.Value, .elt (some (1, x_3)) false (C_api_Attribute x_6 (.s 5)), .rd 1 R8 x_6.Value, .elt none false (C_api_Attribute x_1130 (.s 7)), .rd 1 R8 x_1130.Value, .elt none false (C_api_Attribute x_1530 (.s 9)), .rd 1 R8 x_1530.Value, .elt none false (C_api_Attribute x_6731 (.s 11)), .rd 1 R8 x_6731.Value] ?_ (fun c_4170_14 => ?_)
                                           · refine SD.all2 (i := 27) (j := 33) (by kernel_rfl) ?_ ?_
                                             · refine SW.pre (pre_ix (i := 0) (iv := x_3) (sz := 5) (R := R_T_api_Attribute) (l := a_1) (by kernel_rfl) rfl e_x_6331) ?_
                                               refine SW.eff D_8 (i := 27) (v := vp 12 0) (bs' := [I, I, I, I, I, I, I, I, I, I, I, I, I, I, I, I, I, I, I, I, I, I, I, I, I, I, I, I, O, O, I, I, I, O, O, O, O, O, O, O, O, O, O, O, O, O, O, O, O, O, O]) rfl (.inr ⟨_, _, _, _, rfl, rfl, rfl, hg_4170⟩) rfl (e_valE tk (.el 12) [x_3] (by kernel_rfl)) (by kernel_rfl) rfl (by kernel_rfl) ?_
                                               exact SD.vie D_8 [.g 0, .g 1, .g 2, .g 3, .g 4, .g 5, .g 6, .g 7, .g 8, .g 9, .g 12, .g 13, .g 10, .g 11] c_4170_10 (by kernel_rfl)
                                             · refine SW.eff D_8 (i := 33) (v := vp 10 3) (bs' := [I, I, I, I, I, I, I, I, I, I, I, I, I, I, I, I, I, I, I, I, I, I, I, I, I, I, I, O, O, O, I, I, I, I, O, O, O, O, O, O, O, O, O, O, O, O, O, O, O, O, O]) rfl (.inr ⟨_, _, _, _, rfl, rfl, rfl, hg_4170⟩) rfl (e_val tk (by kernel_rfl)) (by kernel_rfl) rfl (by kernel_rfl) ?_
                                               exact SD.vie D_8 [.g 0, .g 1, .g 2, .g 3, .g 4, .g 5, .g 6, .g 7, .g 8, .g 9, .g 10, .g 11] c_4170_13 (by kernel_rfl)
                                           · refine SD.all2 (i := 27) (j := 32) (by kernel_rfl) ?_ ?_
                                             · refine SW.pre (pre_ix (i := 0) (iv := x_3) (sz := 5) (R := R_T_api_Attribute) (l := a_1) (by kernel_rfl) rfl e_x_6331) ?_
                                               refine SW.eff D_8 (i := 27) (v := vp 10 0) (bs' := [I, I, I, I, I, I, I, I, I, I, I, I, I, I, I, I, I, I, I, I, I, I, I, I, I, I, I, I, O, O, I, I, O, O, O, O, O, O, O, O, O, O, O, O, O, O, O, O, O, O, O]) rfl (.inr ⟨_, _, _, _, rfl, rfl, rfl, hg_4170⟩) rfl (e_valE tk (.el 10) [x_3] (by kernel_rfl)) (by kernel_rfl) rfl (by kernel_rfl) ?_
                                               exact SD.vie D_8 [.g 0, .g 1, .g 2, .g 3, .g 4, .g 5, .g 6, .g 7, .g 8, .g 9, .g 10, .g 11] c_4170_11 (by kernel_rfl)
                                             · refine SW.pre (pre_ix (i := 1) (iv := x_3) (sz := 5) (R := R_T_api_Attribute) (l := b_2) (by kernel_rfl) rfl e_x_6731) ?_
                                               refine SW.eff D_8 (i := 32) (v := vp 10 0) (bs' := [I, I, I, I, I, I, I, I, I, I, I, I, I, I, I, I, I, I, I, I, I, I, I, I, I, I, I, O, O, O, I, I, I, O, O, O, O, O, O, O, O, O, O, O, O, O, O, O, O, O, O]) rfl (.inr ⟨_, _, _, _, rfl, rfl, rfl, hg_4170⟩) rfl (e_valE tk (.el 10) [x_3] (by kernel_rfl)) (by kernel_rfl) rfl (by kernel_rfl) ?_
                                               exact SD.vie D_8 [.g 0, .g 1, .g 2, .g 3, .g 4, .g 5, .g 6, .g 7, .g 8, .g 9, .g 10, .g 11] c_4170_14 (by kernel_rfl)
           · refine SD.lay 29 [I, I, I, I, I, I, I, I, I, I, I, I, I, I, I, I, I, I, I, I, I, I, O, O, O, O, O, O, O, O, O, O, O, O, O, O, O, O, O, O, O, O, O, O, O, O, O, O, O, O, O] [(0, vs 0), (1, vs 1), (5, vi .i64 x_3), (28, vb (x_5.Handle != x_6.Handle)), (29, vs 0), (30, vi .i64 x_3), (31, vp 6 0), (32, vp 6 1), (33, .g (C_api_UUID x_1130.f_Type)), (34, vs 1), (35, vi .i64 x_3), (36, vp 8 0), (37, vp 8 1), (38, .g (C_api_UUID x_1530.f_Type))] [.rd 5 R_T_api_Attribute a_1, .rd 5 R_T_api_Attribute b_2, .elt (some (0, x_3)) false (C_api_Attribute x_5 (.s 3)), .rd 1 R8 x_5.Value, .elt (some (1, x_3)) false (C_api_Attribute x_6 (.s 5)), .rd 1 R8 x_6.Value, .elt none false (C_api_Attribute x_1130 (.s 7)), .rd 1 R8 x_1130.Value, .elt none false (C_api_Attribute x_1530 (.s 9)), .rd 1 R8 x_1530.Value] ?_ (fun c_9_1 => ?_)
             · refine SD.all1 (i := 22) (by kernel_rfl) ?_
               refine SW.eff D_8 (i := 22) (bs' := [I, I, I, I, I, I, I, I, I, I, I, I, I, I, I, I, I, I, I, I, I, I, I, O, O, O, O, O, O, O, O, O, O, O, O, O, O, O, O, O, O, O, O, O, O, O, O, O, O, O, O]) rfl (.inr ⟨_, _, _, _, rfl, rfl, rfl, hg_9⟩) rfl (e_eqs tk (cs := (C_api_UUID x_1130.f_Type)) (ds := (C_api_UUID x_1530.f_Type)) [(x_1130.f_Type.High == x_1530.f_Type.High), (x_1130.f_Type.Low == x_1530.f_Type.Low)] (!((x_1130.f_Type.High == x_1530.f_Type.High) && (x_1130.f_Type.Low == x_1530.f_Type.Low))) rfl rfl (by kernel_rfl) (by kernel_rfl) (by kernel_rfl) (.inr ⟨rfl, (by kernel_rfl)⟩)) (by kernel_rfl) rfl (by kernel_rfl) ?_
               refine SD.takes tk D_8 [(28, false)] (knS rfl hg_9 kn0) [23, 24] [] [] [I, I, I, I, I, I, I, I, I, I, I, I, I, I, I, I, I, I, I, I, I, I, I, I, I, O, O, O, O, O, O, O, O, O, O, O, O, O, O, O, O, O, O, O, O, O, O, O, O, O, O] [(0, vs 0), (1, vs 1), (5, vi .i64 x_3), (29, vs 0), (30, vi .i64 x_3), (31, vp 6 0), (32, vp 6 1), (33, .g (C_api_UUID x_1130.f_Type)), (34, vs 1), (35, vi .i64 x_3), (36, vp 8 0), (37, vp 8 1), (38, .g (C_api_UUID x_1530.f_Type)), (39, vb (!((x_1130.f_Type.High == x_1530.f_Type.High) && (x_1130.f_Type.Low == x_1530.f_Type.Low)))), (41, vb (!((x_1130.f_Type.High == x_1530.f_Type.High) && (x_1130.f_Type.Low == x_1530.f_Type.Low))))] rfl (by kernel_rfl) (by kernel_rfl) (by kernel_rfl) ?_
               exact SD.vie D_8 [.g 0, .g 1, .g 2, .g 3, .g 4, .g 5, .g 6, .g 7, .g 8, .g 9] c_9_0 (by kernel_rfl)
             · refine SD.lay 30 [I, I, I, I, I, I, I, I, I, I, I, I, I, I, I, I, I, I, I, I, I, O, O, O, O, O, O, O, O, O, O, O, O, O, O, O, O, O, O, O, O, O, O, O, O, O, O, O, O, O, O] [(0, vs 0), (1, vs 1), (5, vi .i64 x_3), (28, vb (x_5.Handle != x_6.Handle)), (29, vs 0), (30, vi .i64 x_3), (31, vp 6 0), (32, vp 6 1), (33, .g (C_api_UUID x_1130.f_Type)), (34, vs 1), (35, vi .i64 x_3), (36, vp 8 0), (37, vp 8 1)] [.rd 5 R_T_api_Attribute a_1, .rd 5 R_T_api_Attribute b_2, .elt (some (0, x_3)) false (C_api_Attribute x_5 (.s 3)), .rd 1 R8 x_5.Value, .elt (some (1, x_3)) false (C_api_Attribute x_6 (.s 5)), .rd 1 R8 x_6.Value, .elt none false (C_api_Attribute x_1130 (.s 7)), .rd 1 R8 x_1130.Value, .elt none false (C_api_Attribute x_1530 (.s 9)), .rd 1 R8 x_1530.Value] ?_ (fun c_9_2 => ?_)
               · refine SD.all1 (i := 21) (by kernel_rfl) ?_
                 refine SW.eff D_8 (i := 21) (v := .g (C_api_UUID x_1530.f_Type)) (bs' := [I, I, I, I, I, I, I, I, I, I, I, I, I, I, I, I, I, I, I, I, I, I, O, O, O, O, O, O, O, O, O, O, O, O, O, O, O, O, O, O, O, O, O, O, O, O, O, O, O, O, O]) rfl (.inr ⟨_, _, _, _, rfl, rfl, rfl, hg_9⟩) rfl (e_val tk (by kernel_rfl)) (by kernel_rfl) rfl (by kernel_rfl) ?_
                 exact SD.vie D_8 [.g 0, .g 1, .g 2, .g 3, .g 4, .g 5, .g 6, .g 7, .g 8, .g 9] c_9_1 (by kernel_rfl)
               · refine SD.lay 31 [I, I, I, I, I, I, I, I, I, I, I, I, I, I, I, I, I, I, I, I, O, O, O, O, O, O, O, O, O, O, O, O, O, O, O, O, O, O, O, O, O, O, O, O, O, O, O, O, O, O, O] [(0, vs 0), (1, vs 1), (5, vi .i64 x_3), (28, vb (x_5.Handle != x_6.Handle)), (29, vs 0), (30, vi .i64 x_3), (31, vp 6 0), (32, vp 6 1), (33, .g (C_api_UUID x_1130.f_Type)), (34, vs 1), (35, vi .i64 x_3), (36, vp 8 0)] [.rd 5 R_T_api_Attribute a_1, .rd 5 R_T_api_Attribute b_2, .elt (some (0, x_3)) false (C_api_Attribute x_5 (.s 3)), .rd 1 R8 x_5.Value, .elt (some (1, x_3)) false (C_api_Attribute x_6 (.s 5)), .rd 1 R8 x_6.Value, .elt none false (C_api_Attribute x_1130 (.s 7)), .rd 1 R8 x_1130.Value, .elt none false (C_api_Attribute x_1530 (.s 9)), .rd 1 R8 x_1530.Value] ?_ (fun c_9_3 => ?_)
                 · refine SD.all1 (i := 20) (by kernel_rfl) ?_
                   refine SW.eff D_8 (i := 20) (v := vp 8 1) (bs' := [I, I, I, I, I, I, I, I, I, I, I, I, I, I, I, I, I, I, I, I, I, O, O, O, O, O, O, O, O, O, O, O, O, O, O, O, O, O, O, O, O, O, O, O, O, O, O, O, O, O, O]) rfl (.inr ⟨_, _, _, _, rfl, rfl, rfl, hg_9⟩) rfl (e_val tk (by kernel_rfl)) (by kernel_rfl) rfl (by kernel_rfl) ?_
                   exact SD.vie D_8 [.g 0, .g 1, .g 2, .g 3, .g 4, .g 5, .g 6, .g 7, .g 8, .g 9] c_9_2 (by kernel_rfl)
                 · refine SD.lay 32 [I, I, I, I, I, I, I, I, I, I, I, I, I, I, I, I, I, I, I, O, O, O, O, O, O, O, O, O, O, O, O, O, O, O, O, O, O, O, O, O, O, O, O, O, O, O, O, O, O, O, O] [(0, vs 0), (1, vs 1), (5, vi .i64 x_3), (28, vb (x_5.Handle != x_6.Handle)), (29, vs 0), (30, vi .i64 x_3), (31, vp 6 0), (32, vp 6 1), (33, .g (C_api_UUID x_1130.f_Type)), (34, vs 1), (35, vi .i64 x_3)] [.rd 5 R_T_api_Attribute a_1, .rd 5 R_T_api_Attribute b_2, .elt (some (0, x_3)) false (C_api_Attribute x_5 (.s 3)), .rd 1 R8 x_5.Value, .elt (some (1, x_3)) false (C_api_Attribute x_6 (.s 5)), .rd 1 R8 x_6.Value, .elt none false (C_api_Attribute x_1130 (.s 7)), .rd 1 R8 x_1130.Value] ?_ (fun c_9_4 => ?_)
                   · refine SD.pre (pre_ix (i := 1) (iv := x_3) (sz := 5) (R := R_T_api_Attribute) (l := b_2) (by kernel_rfl) rfl e_x_1530) ?_
                     refine SD.all1 (i := 19) (by kernel_rfl) ?_
                     refine SW.eff D_8 (i := 19) (v := vp 8 0) (bs' := [I, I, I, I, I, I, I, I, I, I, I, I, I, I, I, I, I, I, I, I, O, O, O, O, O, O, O, O, O, O, O, O, O, O, O, O, O, O, O, O, O, O, O, O, O, O, O, O, O, O, O]) rfl (.inr ⟨_, _, _, _, rfl, rfl, rfl, hg_9⟩) rfl (e_valE tk (.el 8) [x_3] (by kernel_rfl)) (by kernel_rfl) rfl (by kernel_rfl) ?_
                     exact SD.vie D_8 [.g 0, .g 1, .g 2, .g 3, .g 4, .g 5, .g 6, .g 7, .g 8, .g 9] c_9_3 (by kernel_rfl)
                   · refine SD.lay 30 [I, I, I, I, I, I, I, I, I, I, I, I, I, I, I, I, O, I, I, I, I, I, O, O, O, O, O, O, O, O, O, O, O, O, O, O, O, O, O, O, O, O, O, O, O, O, O, O, O, O, O] [(0, vs 0), (1, vs 1), (5, vi .i64 x_3), (28, vb (x_5.Handle != x_6.Handle)), (29, vs 0), (30, vi .i64 x_3), (31, vp 6 0), (32, vp 6 1), (34, vs 1), (35, vi .i64 x_3), (36, vp 8 0), (37, vp 8 1), (38, .g (C_api_UUID x_1530.f_Type))] [.rd 5 R_T_api_Attribute a_1, .rd 5 R_T_api_Attribute b_2, .elt (some (0, x_3)) false (C_api_Attribute x_5 (.s 3)), .rd 1 R8 x_5.Value, .elt (some (1, x_3)) false (C_api_Attribute x_6 (.s 5)), .rd 1 R8 x_6.Value, .elt none false (C_api_Attribute x_1130 (.s 7)), .rd 1 R8 x_1130.Value, .elt none false (C_api_Attribute x_1530 (.s 9)), .rd 1 R8 x_1530.Value] ?_ (fun c_9_5 => ?_)
                     · refine SD.all1 (i := 16) (by kernel_rfl) ?_
                       refine SW.eff D_8 (i := 16) (v := .g (C_api_UUID x_1130.f_Type)) (bs' := [I, I, I, I, I, I, I, I, I, I, I, I, I, I, I, I, I, I, I, I, I, I, O, O, O, O, O, O, O, O, O, O, O, O, O, O, O, O, O, O, O, O, O, O, O, O, O, O, O, O, O]) rfl (.inr ⟨_, _, _, _, rfl, rfl, rfl, hg_9⟩) rfl (e_val tk (by kernel_rfl)) (by kernel_rfl) rfl (by kernel_rfl) ?_
                       exact SD.vie D_8 [.g 0, .g 1, .g 2, .g 3, .g 4, .g 5, .g 6, .g 7, .g 8, .g 9] c_9_1 (by kernel_rfl)
                     · refine SD.lay 31 [I, I, I, I, I, I, I, I, I, I, I, I, I, I, I, I, O, I, I, I, I, O, O, O, O, O, O, O, O, O, O, O, O, O, O, O, O, O, O, O, O, O, O, O, O, O, O, O, O, O, O] [(0, vs 0), (1, vs 1), (5, vi .i64 x_3), (28, vb (x_5.Handle != x_6.Handle)), (29, vs 0), (30, vi .i64 x_3), (31, vp 6 0), (32, vp 6 1), (34, vs 1), (35, vi .i64 x_3), (36, vp 8 0), (37, vp 8 1)] [.rd 5 R_T_api_Attribute a_1, .rd 5 R_T_api_Attribute b_2, .elt (some (0, x_3)) false (C_api_Attribute x_5 (.s 3)), .rd 1 R8 x_5.Value, .elt (some (1, x_3)) false (C_api_Attribute x_6 (.s 5)), .rd 1 R8 x_6.Value, .elt none false (C_api_Attribute x_1130 (.s 7)), .rd 1 R8 x_1130.Value, .elt none false (C_api_Attribute x_1530 (.s 9)), .rd 1 R8 x_1530.Value] ?_ (fun c_9_6 => ?_)
                       · refine SD.all2 (i := 16) (j := 21) (by kernel_rfl) ?_ ?_
                         · refine SW.eff D_8 (i := 16) (v := .g (C_api_UUID x_1130.f_Type)) (bs' := [I, I, I, I, I, I, I, I, I, I, I, I, I, I, I, I, I, I, I, I, I, O, O, O, O, O, O, O, O, O, O, O, O, O, O, O, O, O, O, O, O, O, O, O, O, O, O, O, O, O, O]) rfl (.inr ⟨_, _, _, _, rfl, rfl, rfl, hg_9⟩) rfl (e_val tk (by kernel_rfl)) (by kernel_rfl) rfl (by kernel_rfl) ?_
                           exact SD.vie D_8 [.g 0, .g 1, .g 2, .g 3, .g 4, .g 5, .g 6, .g 7, .g 8, .g 9] c_9_2 (by kernel_rfl)
                         · refine SW.eff D_8 (i := 21) (v := .g (C_api_UUID x_1530.f_Type)) (bs' := [I, I, I, I, I, I, I, I, I, I, I, I, I, I, I, I, O, I, I, I, I, I, O, O, O, O, O, O, O, O, O, O, O, O, O, O, O, O, O, O, O, O, O, O, O, O, O, O, O, O, O]) rfl (.inr ⟨_, _, _, _, rfl, rfl, rfl, hg_9⟩) rfl (e_val tk (by kernel_rfl)) (by kernel_rfl) rfl (by kernel_rfl) ?_
                           exact SD.vie D_8 [.g 0, .g 1, .g 2, .g 3, .g 4, .g 5, .g 6, .g 7, .g 8, .g 9] c_9_5 (by kernel_rfl)
                       · refine SD.lay 32 [I, I, I, I, I, I, I, I, I, I, I, I, I, I, I, I, O, I, I, I, O, O, O, O, O, O, O, O, O, O, O, O, O, O, O, O, O, O, O, O, O, O, O, O, O, O, O, O, O, O, O] [(0, vs 0), (1, vs 1), (5, vi .i64 x_3), (28, vb (x_5.Handle != x_6.Handle)), (29, vs 0), (30, vi .i64 x_3), (31, vp 6 0), (32, vp 6 1), (34, vs 1), (35, vi .i64 x_3), (36, vp 8 0)] [.rd 5 R_T_api_Attribute a_1, .rd 5 R_T_api_Attribute b_2, .elt (some (0, x_3)) false (C_api_Attribute x_5 (.s 3)), .rd 1 R8 x_5.Value, .elt (some (1, x_3)) false (C_api_Attribute x_6 (.s 5)), .rd 1 R8 x_6.Value, .elt none false (C_api_Attribute x_1130 (.s 7)), .rd 1 R8 x_1130.Value, .elt none false (C_api_Attribute x_1530 (.s 9)), .rd 1 R8 x_1530.Value] ?_ (fun c_9_7 => ?_)
                         · refine SD.all2 (i := 16) (j := 20) (by kernel_rfl) ?_ ?_
                           · refine SW.eff D_8 (i := 16) (v := .g (C_api_UUID x_1130.f_Type)) (bs' := [I, I, I, I, I, I, I, I, I, I, I, I, I, I, I, I, I, I, I, I, O, O, O, O, O, O, O, O, O, O, O, O, O, O, O, O, O, O, O, O, O, O, O, O, O, O, O, O, O, O, O]) rfl (.inr ⟨_, _, _, _, rfl, rfl, rfl, hg_9⟩) rfl (e_val tk (by kernel_rfl)) (by kernel_rfl) rfl (by kernel_rfl) ?_
                             exact SD.vie D_8 [.g 0, .g 1, .g 2, .g 3, .g 4, .g 5, .g 6, .g 7, .g 8, .g 9] c_9_3 (by kernel_rfl)
                           · refine SW.eff D_8 (i := 20) (v := vp 8 1) (bs' := [I, I, I, I, I, I, I, I, I, I, I, I, I, I, I, I, O, I, I, I, I, O, O, O, O, O, O, O, O, O, O, O, O, O, O, O, O, O, O, O, O, O, O, O, O, O, O, O, O, O, O]) rfl (.inr ⟨_, _, _, _, rfl, rfl, rfl, hg_9⟩) rfl (e_val tk (by kernel_rfl)) (by kernel_rfl) rfl (by kernel_rfl) ?_
                             exact SD.vie D_8 [.g 0, .g 1, .g 2, .g 3, .g 4, .g 5, .g 6, .g 7, .g 8, .g 9] c_9_6 (by kernel_rfl)
                         · refine SD.lay 33 [I, I, I, I, I, I, I, I, I, I, I, I, I, I, I, I, O, I, I, O, O, O, O, O, O, O, O, O, O, O, O, O, O, O, O, O, O, O, O, O, O, O, O, O, O, O, O, O, O, O, O] [(0, vs 0), (1, vs 1), (5, vi .i64 x_3), (28, vb (x_5.Handle != x_6.Handle)), (29, vs 0), (30, vi .i64 x_3), (31, vp 6 0), (32, vp 6 1), (34, vs 1), (35, vi .i64 x_3)] [.rd 5 R_T_api_Attribute a_1, .rd 5 R_T_api_Attribute b_2, .elt (some (0, x_3)) false (C_api_Attribute x_5 (.s 3)), .rd 1 R8 x_5.Value, .elt (some (1, x_3)) false (C_api_Attribute x_6 (.s 5)), .rd 1 R8 x_6.Value, .elt none false (C_api_Attribute x_1130 (.s 7)), .rd 1 R8 x_1130.Value] ?_ (fun c_9_8 => ?_)
                           · refine SD.all2 (i := 16) (j := 19) (by kernel_rfl) ?_ ?_
                             · refine SW.eff D_8 (i := 16) (v := .g (C_api_UUID x_1130.f_Type)) (bs' := [I, I, I, I, I, I, I, I, I, I, I, I, I, I, I, I, I, I, I, O, O, O, O, O, O, O, O, O, O, O, O, O, O, O, O, O, O, O, O, O, O, O, O, O, O, O, O, O, O, O, O]) rfl (.inr ⟨_, _, _, _, rfl, rfl, rfl, hg_9⟩) rfl (e_val tk (by kernel_rfl)) (by kernel_rfl) rfl (by kernel_rfl) ?_
                               exact SD.vie D_8 [.g 0, .g 1, .g 2, .g 3, .g 4, .g 5, .g 6, .g 7] c_9_4 (by kernel_rfl)
                             · refine SW.pre (pre_ix (i := 1) (iv := x_3) (sz := 5) (R := R_T_api_Attribute) (l := b_2) (by kernel_rfl) rfl e_x_1530) ?_
                               refine SW.eff D_8 (i := 19) (v := vp 8 0) (bs' := [I, I, I, I, I, I, I, I, I, I, I, I, I, I, I, I, O, I, I, I, O, O, O, O, O, O, O, O, O, O, O, O, O, O, O, O, O, O, O, O, O, O, O, O, O, O, O, O, O, O, O]) rfl (.inr ⟨_, _, _, _, rfl, rfl, rfl, hg_9⟩) rfl (e_valE tk (.el 8) [x_3] (by kernel_rfl)) (by kernel_rfl) rfl (by kernel_rfl) ?_
                               exact SD.vie D_8 [.g 0, .g 1, .g 2, .g 3, .g 4, .g 5, .g 6, .g 7, .g 8, .g 9] c_9_7 (by kernel_rfl)
                           · refine SD.lay 31 [I, I, I, I, I, I, I, I, I, I, I, I, I, I, I, O, O, I, I, I, I, I, O, O, O, O, O, O, O, O, O, O, O, O, O, O, O, O, O, O, O, O, O, O, O, O, O, O, O, O, O] [(0, vs 0), (1, vs 1), (5, vi .i64 x_3), (28, vb (x_5.Handle != x_6.Handle)), (29, vs 0), (30, vi .i64 x_3), (31, vp 6 0), (34, vs 1), (35, vi .i64 x_3), (36, vp 8 0), (37, vp 8 1), (38, .g (C_api_UUID x_1530.f_Type))] [.rd 5 R_T_api_Attribute a_1, .rd 5 R_T_api_Attribute b_2, .elt (some (0, x_3)) false (C_api_Attribute x_5 (.s 3)), .rd 1 R8 x_5.Value, .elt (some (1, x_3)) false (C_api_Attribute x_6 (.s 5)), .rd 1 R8 x_6.Value, .elt none false (C_api_Attribute x_1130 (.s 7)), .rd 1 R8 x_1130.Value, .elt none false (C_api_Attribute x_1530 (.s 9)), .rd 1 R8 x_1530.Value] ?_ (fun c_9_9 => ?_)
                             · refine SD.all1 (i := 15) (by kernel_rfl) ?_
                               refine SW.eff D_8 (i := 15) (v := vp 6 1) (bs' := [I, I, I, I, I, I, I, I, I, I, I, I, I, I, I, I, O, I, I, I, I, I, O, O, O, O, O, O, O, O, O, O, O, O, O, O, O, O, O, O, O, O, O, O, O, O, O, O, O, O, O]) rfl (.inr ⟨_, _, _, _, rfl, rfl, rfl, hg_9⟩) rfl (e_val tk (by kernel_rfl)) (by kernel_rfl) rfl (by kernel_rfl) ?_
                               exact SD.vie D_8 [.g 0, .g 1, .g 2, .g 3, .g 4, .g 5, .g 6, .g 7, .g 8, .g 9] c_9_5 (by kernel_rfl)
                             · refine SD.lay 32 [I, I, I, I, I, I, I, I, I, I, I, I, I, I, I, O, O, I, I, I, I, O, O, O, O, O, O, O, O, O, O, O, O, O, O, O, O, O, O, O, O, O, O, O, O, O, O, O, O, O, O] [(0, vs 0), (1, vs 1), (5, vi .i64 x_3), (28, vb (x_5.Handle != x_6.Handle)), (29, vs 0), (30, vi .i64 x_3), (31, vp 6 0), (34, vs 1), (35, vi .i64 x_3), (36, vp 8 0), (37, vp 8 1)] [.rd 5 R_T_api_Attribute a_1, .rd 5 R_T_api_Attribute b_2, .elt (some (0, x_3)) false (C_api_Attribute x_5 (.s 3)), .rd 1 R8 x_5.Value, .elt (some (1, x_3)) false (C_api_Attribute x_6 (.s 5)), .rd 1 R8 x_6.Value, .elt none false (C_api_Attribute x_1130 (.s 7)), .rd 1 R8 x_1130.Value, .elt none false (C_api_Attribute x_1530 (.s 9)), .rd 1 R8 x_1530.Value] ?_ (fun c_9_10 => ?_)
                               · refine SD.all2 (i := 15) (j := 21) (by kernel_rfl) ?_ ?_
                                 · refine SW.eff D_8 (i := 15) (v := vp 6 1) (bs' := [I, I, I, I, I, I, I, I, I, I, I, I, I, I, I, I, O, I, I, I, I, O, O, O, O, O, O, O, O, O, O, O, O, O, O, O, O, O, O, O, O, O, O, O, O, O, O, O, O, O, O]) rfl (.inr ⟨_, _, _, _, rfl, rfl, rfl, hg_9⟩) rfl (e_val tk (by kernel_rfl)) (by kernel_rfl) rfl (by kernel_rfl) ?_
                                   exact SD.vie D_8 [.g 0, .g 1, .g 2, .g 3, .g 4, .g 5, .g 6, .g 7, .g 8, .g 9] c_9_6 (by kernel_rfl)
                                 · refine SW.eff D_8 (i := 21) (v := .g (C_api_UUID x_1530.f_Type)) (bs' := [I, I, I, I, I, I, I, I, I, I, I, I, I, I, I, O, O, I, I, I, I, I, O, O, O, O, O, O, O, O, O, O, O, O, O, O, O, O, O, O, O, O, O, O, O, O, O, O, O, O, O]) rfl (.inr ⟨_, _, _, _, rfl, rfl, rfl, hg_9⟩) rfl (e_val tk (by kernel_rfl)) (by kernel_rfl) rfl (by kernel_rfl) ?_
                                   exact SD.vie D_8 [.g 0, .g 1, .g 2, .g 3, .g 4, .g 5, .g 6, .g 7, .g 8, .g 9] c_9_9 (by kernel_rfl)
                               · refine SD.lay 33 [I, I, I, I, I, I, I, I, I, I, I, I, I, I, I, O, O, I, I, I, O, O, O, O, O, O, O, O, O, O, O, O, O, O, O, O, O, O, O, O, O, O, O, O, O, O, O, O, O, O, O] [(0, vs 0), (1, vs 1), (5, vi .i64 x_3), (28, vb (x_5.Handle != x_6.Handle)), (29, vs 0), (30, vi .i64 x_3), (31, vp 6 0), (34, vs 1), (35, vi .i64 x_3), (36, vp 8 0)] [.rd 5 R_T_api_Attribute a_1, .rd 5 R_T_api_Attribute b_2, .elt (some (0, x_3)) false (C_api_Attribute x_5 (.s 3)), .rd 1 R8 x_5.Value, .elt (some (1, x_3)) false (C_api_Attribute x_6 (.s 5)), .rd 1 R8 x_6.Value, .elt none false (C_api_Attribute x_1130 (.s 7)), .rd 1 R8 x_1130.Value, .elt none false (C_api_Attribute x_1530 (.s 9)), .rd 1 R8 x_1530.Value] ?_ (fun c_9_11 => ?_)
                                 · refine SD.all2 (i := 15) (j := 20) (by kernel_rfl) ?_ ?_
                                   · refine SW.eff D_8 (i := 15) (v := vp 6 1) (bs' := [I, I, I, I, I, I, I, I, I, I, I, I, I, I, I, I, O, I, I, I, O, O, O, O, O, O, O, O, O, O, O, O, O, O, O, O, O, O, O, O, O, O, O, O, O, O, O, O, O, O, O]) rfl (.inr ⟨_, _, _, _, rfl, rfl, rfl, hg_9⟩) rfl (e_val tk (by kernel_rfl)) (by kernel_rfl) rfl (by kernel_rfl) ?_
                                     exact SD.vie D_8 [.g 0, .g 1, .g 2, .g 3, .g 4, .g 5, .g 6, .g 7, .g 8, .g 9] c_9_7 (by kernel_rfl)
                                   · refine SW.eff D_8 (i := 20) (v := vp 8 1) (bs' := [I, I, I, I, I, I, I, I, I, I, I, I, I, I, I, O, O, I, I, I, I, O, O, O, O, O, O, O, O, O, O, O, O, O, O, O, O, O, O, O, O, O, O, O, O, O, O, O, O, O, O]) rfl (.inr ⟨_, _, _, _, rfl, rfl, rfl, hg_9⟩) rfl (e_val tk (by kernel_rfl)) (by kernel_rfl) rfl (by kernel_rfl) ?_
                                     exact SD.vie D_8 [.g 0, .g 1, .g 2, .g 3, .g 4, .g 5, .g 6, .g 7, .g 8, .g 9] c_9_10 (by kernel_rfl)
                                 · refine SD.lay 34 [I, I, I, I, I, I, I, I, I, I, I, I, I, I, I, O, O, I, I, O, O, O, O, O, O, O, O, O, O, O, O, O, O, O, O, O, O, O, O, O, O, O, O, O, O, O, O, O, O, O, O] [(0, vs 0), (1, vs 1), (5, vi .i64 x_3), (28, vb (x_5.Handle != x_6.Handle)), (29, vs 0), (30, vi .i64 x_3), (31, vp 6 0), (34, vs 1), (35, vi .i64 x_3)] [.rd 5 R_T_api_Attribute a_1, .rd 5 R_T_api_Attribute b_2, .elt (some (0, x_3)) false (C_api_Attribute x_5 (.s 3)), .rd 1 R8 x_5.Value, .elt (some (1, x_3)) false (C_api_Attribute x_6 (.s 5)), .rd 1 R8 x_6.Value, .elt none false (C_api_Attribute x_1130 (.s 7)), .rd 1 R8 x_1130.Value] ?_ (fun c_9_12 => ?_)
                                   · refine SD.all2 (i := 15) (j := 19) (by kernel_rfl) ?_ ?_
                                     · refine SW.eff D_8 (i := 15) (v := vp 6 1) (bs' := [I, I, I, I, I, I, I, I, I, I, I, I, I, I, I, I, O, I, I, O, O, O, O, O, O, O, O, O, O, O, O, O, O, O, O, O, O, O, O, O, O, O, O, O, O, O, O, O, O, O, O]) rfl (.inr ⟨_, _, _, _, rfl, rfl, rfl, hg_9⟩) rfl (e_val tk (by kernel_rfl)) (by kernel_rfl) rfl (by kernel_rfl) ?_
                                       exact SD.vie D_8 [.g 0, .g 1, .g 2, .g 3, .g 4, .g 5, .g 6, .g 7] c_9_8 (by kernel_rfl)
                                     · refine SW.pre (pre_ix (i := 1) (iv := x_3) (sz := 5) (R := R_T_api_Attribute) (l := b_2) (by kernel_rfl) rfl e_x_1530) ?_
                                       refine SW.eff D_8 (i := 19) (v := vp 8 0) (bs' := [I, I, I, I, I, I, I, I, I, I, I, I, I, I, I, O, O, I, I, I, O, O, O, O, O, O, O, O, O, O, O, O, O, O, O, O, O, O, O, O, O, O, O, O, O, O, O, O, O, O, O]) rfl (.inr ⟨_, _, _, _, rfl, rfl, rfl, hg_9⟩) rfl (e_valE tk (.el 8) [x_3] (by kernel_rfl)) (by kernel_rfl) rfl (by kernel_rfl) ?_
                                       exact SD.vie D_8 [.g 0, .g 1, .g 2, .g 3, .g 4, .g 5, .g 6, .g 7, .g 8, .g 9] c_9_11 (by kernel_rfl)
                                   · refine SD.lay 32 [I, I, I, I, I, I, I, I, I, I, I, I, I, I, O, O, O, I, I, I, I, I, O, O, O, O, O, O, O, O, O, O, O, O, O, O, O, O, O, O, O, O, O, O, O, O, O, O, O, O, O] [(0, vs 0), (1, vs 1), (5, vi .i64 x_3), (28, vb (x_5.Handle != x_6.Handle)), (29, vs 0), (30, vi .i64 x_3), (34, vs 1), (35, vi .i64 x_3), (36, vp 6 0), (37, vp 6 1), (38, .g (C_api_UUID x_1530.f_Type))] [.rd 5 R_T_api_Attribute a_1, .rd 5 R_T_api_Attribute b_2, .elt (some (0, x_3)) false (C_api_Attribute x_5 (.s 3)), .rd 1 R8 x_5.Value, .elt (some (1, x_3)) false (C_api_Attribute x_6 (.s 5)), .rd 1 R8 x_6.Value, .elt none false (C_api_Attribute x_1530 (.s 7)), .rd 1 R8 x_1530.Value] ?_ (fun c_9_13 => ?_)
                                     · refine SD.pre (pre_ix (i := 0) (iv := x_3) (sz := 5) (R := R_T_api_Attribute) (l := a_1) (by kernel_rfl) rfl e_x_1130) ?_
                                       refine SD.all1 (i := 14) (by kernel_rfl) ?_
                                       refine SW.eff D_8 (i := 14) (v := vp 8 0) (bs' := [I, I, I, I, I, I, I, I, I, I, I, I, I, I, I, O, O, I, I, I, I, I, O, O, O, O, O, O, O, O, O, O, O, O, O, O, O, O, O, O, O, O, O, O, O, O, O, O, O, O, O]) rfl (.inr ⟨_, _, _, _, rfl, rfl, rfl, hg_9⟩) rfl (e_valE tk (.el 8) [x_3] (by kernel_rfl)) (by kernel_rfl) rfl (by kernel_rfl) ?_
                                       exact SD.vie D_8 [.g 0, .g 1, .g 2, .g 3, .g 4, .g 5, .g 8, .g 9, .g 6, .g 7] c_9_9 (by kernel_rfl)
                                     · refine SD.lay 33 [I, I, I, I, I, I, I, I, I, I, I, I, I, I, O, O, O, I, I, I, I, O, O, O, O, O, O, O, O, O, O, O, O, O, O, O, O, O, O, O, O, O, O, O, O, O, O, O, O, O, O] [(0, vs 0), (1, vs 1), (5, vi .i64 x_3), (28, vb (x_5.Handle != x_6.Handle)), (29, vs 0), (30, vi .i64 x_3), (34, vs 1), (35, vi .i64 x_3), (36, vp 6 0), (37, vp 6 1)] [.rd 5 R_T_api_Attribute a_1, .rd 5 R_T_api_Attribute b_2, .elt (some (0, x_3)) false (C_api_Attribute x_5 (.s 3)), .rd 1 R8 x_5.Value, .elt (some (1, x_3)) false (C_api_Attribute x_6 (.s 5)), .rd 1 R8 x_6.Value, .elt none false (C_api_Attribute x_1530 (.s 7)), .rd 1 R8 x_1530.Value] ?_ (fun c_9_14 => ?_)
                                       · refine SD.all2 (i := 14) (j := 21) (by kernel_rfl) ?_ ?_
                                         · refine SW.pre (pre_ix (i := 0) (iv := x_3) (sz := 5) (R := R_T_api_Attribute) (l := a_1) (by kernel_rfl) rfl e_x_1130) ?_
                                           refine SW.eff D_8 (i := 14) (v := vp 8 0) (bs' := [I, I, I, I, I, I, I, I, I, I, I, I, I, I, I, O, O, I, I, I, I, O, O, O, O, O, O, O, O, O, O, O, O, O, O, O, O, O, O, O, O, O, O, O, O, O, O, O, O, O, O]) rfl (.inr ⟨_, _, _, _, rfl, rfl, rfl, hg_9⟩) rfl (e_valE tk (.el 8) [x_3] (by kernel_rfl)) (by kernel_rfl) rfl (by kernel_rfl) ?_
                                           exact SD.vie D_8 [.g 0, .g 1, .g 2, .g 3, .g 4, .g 5, .g 8, .g 9, .g 6, .g 7] c_9_10 (by kernel_rfl)
                                         · refine SW.eff D_8 (i := 21) (v := .g (C_api_UUID x_1530.f_Type)) (bs' := [I, I, I, I, I, I, I, I, I, I, I, I, I, I, O, O, O, I, I, I, I, I, O, O, O, O, O, O, O, O, O, O, O, O, O, O, O, O, O, O, O, O, O, O, O, O, O, O, O, O, O]) rfl (.inr ⟨_, _, _, _, rfl, rfl, rfl, hg_9⟩) rfl (e_val tk (by kernel_rfl)) (by kernel_rfl) rfl (by kernel_rfl) ?_
                                           exact SD.vie D_8 [.g 0, .g 1, .g 2, .g 3, .g 4, .g 5, .g 6, .g 7] c_9_13 (by kernel_rfl)
                                       · refine SD.lay 34 [I, I, I, I, I, I, I, I, I, I, I, I, I, I, O, O, O, I, I, I, O, O, O, O, O, O, O, O, O, O, O, O, O, O, O, O, O, O, O, O, O, O, O, O, O, O, O, O, O, O, O] [(0, vs 0), (1, vs 1), (5, vi .i64 x_3), (28, vb (x_5.Handle != x_6.Handle)), (29, vs 0), (30, vi .i64 x_3), (34, vs 1), (35, vi .i64 x_3), (36, vp 6 0)] [.rd 5 R_T_api_Attribute a_1, .rd 5 R_T_api_Attribute b_2, .elt (some (0, x_3)) false (C_api_Attribute x_5 (.s 3)), .rd 1 R8 x_5.Value, .elt (some (1, x_3)) false (C_api_Attribute x_6 (.s 5)), .rd 1 R8 x_6.Value, .elt none false (C_api_Attribute x_1530 (.s 7)), .rd 1 R8 x_1530.Value] ?_ (fun c_9_15 => ?_)
                                         · refine SD.all2 (i := 14) (j := 20) (by kernel_rfl) ?_ ?_
                                           · refine SW.pre (pre_ix (i := 0) (iv := x_3) (sz := 5) (R := R_T_api_Attribute) (l := a_1) (by kernel_rfl) rfl e_x_1130) ?_
                                             refine SW.eff D_8 (i := 14) (v := vp 8 0) (bs' := [I, I, I, I, I, I, I, I, I, I, I, I, I, I, I, O, O, I, I, I, O, O, O, O, O, O, O, O, O, O, O, O, O, O, O, O, O, O, O, O, O, O, O, O, O, O, O, O, O, O, O]) rfl (.inr ⟨_, _, _, _, rfl, rfl, rfl, hg_9⟩) rfl (e_valE tk (.el 8) [x_3] (by kernel_rfl)) (by kernel_rfl) rfl (by kernel_rfl) ?_
                                             exact SD.vie D_8 [.g 0, .g 1, .g 2, .g 3, .g 4, .g 5, .g 8, .g 9, .g 6, .g 7] c_9_11 (by kernel_rfl)
                                           · refine SW.eff D_8 (i := 20) (v := vp 6 1) (bs' := [I, I, I, I, I, I, I, I, I, I, I, I, I, I, O, O, O, I, I, I, I, O, O, O, O, O, O, O, O, O, O, O, O, O, O, O, O, O, O, O, O, O, O, O, O, O, O, O, O, O, O]) rfl (.inr ⟨_, _, _, _, rfl, rfl, rfl, hg_9⟩) rfl (e_val tk (by kernel_rfl)) (by kernel_rfl) rfl (by kernel_rfl) ?_
                                             exact SD.vie D_8 [.g 0, .g 1, .g 2, .g 3, .g 4, .g 5, .g 6, .g 7] c_9_14 (by kernel_rfl)
                                         · refine SD.all2 (i := 14) (j := 19) (by kernel_rfl) ?_ ?_
                                           · refine SW.pre (pre_ix (i := 0) (iv := x_3) (sz := 5) (R := R_T_api_Attribute) (l := a_1) (by kernel_rfl) rfl e_x_1130) ?_
                                             refine SW.eff D_8 (i := 14) (v := vp 6 0) (bs' := [I, I, I, I, I, I, I, I, I, I, I, I, I, I, I, O, O, I, I, O, O, O, O, O, O, O, O, O, O, O, O, O, O, O, O, O, O, O, O, O, O, O, O, O, O, O, O, O, O, O, O]) rfl (.inr ⟨_, _, _, _, rfl, rfl, rfl, hg_9⟩) rfl (e_valE tk (.el 6) [x_3] (by kernel_rfl)) (by kernel_rfl) rfl (by kernel_rfl) ?_
                                             exact SD.vie D_8 [.g 0, .g 1, .g 2, .g 3, .g 4, .g 5, .g 6, .g 7] c_9_12 (by kernel_rfl)
                                           · refine SW.pre (pre_ix (i := 1) (iv := x_3) (sz := 5) (R := R_T_api_Attribute) (l := b_2) (by kernel_rfl) rfl e_x_1530) ?_
                                             refine SW.eff D_8 (i := 19) (v := vp 6 0) (bs' := [I, I, I, I, I, I, I, I, I, I, I, I, I, I, O, O, O, I, I, I, O, O, O, O, O, O, O, O, O, O, O, O, O, O, O, O, O, O, O, O, O, O, O, O, O, O, O, O, O, O, O]) rfl (.inr ⟨_, _, _, _, rfl, rfl, rfl, hg_9⟩) rfl (e_valE tk (.el 6) [x_3] (by kernel_rfl)) (by kernel_rfl) rfl (by kernel_rfl) ?_
                                             exact SD.vie D_8 [.g 0, .g 1, .g 2, .g 3, .g 4, .g 5, .g 6, .g 7] c_9_15 (by kernel_rfl)
       · rintro a w ⟨z_4, hp, h⟩
         refine h.go ?_
         refine SC.if' rfl hp (fun hp => ?_) (fun hp => ?_)
         · refine SC.r tk [(4, vb false)] [] [] [] (by kernel_rfl) ?_
           have ho := done_inv hp hs1
           replace hp := ho1
           try rw [ho] at hp
           obtain rfl := some_inv' hp
           exact SC.re (js := [.g 0, .g 1]) tk (by kernel_rfl)
         · refine SC.skipThen ?_
           refine SC.reg ?_
           refine SL.sim tk 3 [(0, vs 0), (1, vs 1), (5, vi .i64 (w64 (x_3 + 1)))] [] [] [] (by kernel_rfl) ?_
           refine SL.nilJ fun a w h => ?_
           exact ⟨n1, Nat.lt_succ_self _, w64 (x_3 + 1), next_inv hp hs1, h.at (js := [.g 0, .g 1]) (by kernel_rfl)⟩
     · refine SC.exitJ rfl fun a w h => ?_
       have ho := done_inv hp hs1
       replace hp := ho1
       try rw [ho] at hp
       exact ⟨hp, h.at (js := [.g 0, .g 1]) (by kernel_rfl)⟩
   · rintro a w ⟨hp, h⟩
     refine h.go ?_
     refine SC.r tk [(4, vb true)] [] [] [] (by kernel_rfl) ?_
     obtain rfl := some_inv' hp
     exact SC.re (js := [.g 0, .g 1]) tk (by kernel_rfl)

theorem ok_wirelessref43_SameFound (F : Nat) (a_1 : (List T_api_Found)) (b_2 : (List T_api_Found)) (r : Bool) (hp : wirelessref43_SameFound F a_1 b_2 = some r) : Spec Try.prog 26 [vs 0, vs 1] [.rd 6 R_T_api_Found a_1, .rd 6 R_T_api_Found b_2] (vb r) [.gone, .gone] := by
 refine Spec.enter Try.func26 rfl Try.ntmps26 rfl rfl fun fx => ?_
 refine SC.r tk [(0, vs 0), (1, vs 1)] [] [] [] (by kernel_rfl) ?_
 refine SC.seq ?_
 refine SC.r tk [(0, vs 0), (1, vs 1), (10, vb ((len a_1) != (len b_2)))] [] [] [] (by kernel_rfl) ?_
 refine SC.if' rfl hp (fun hp => ?_) (fun hp => ?_)
 · refine SC.r tk [(4, vb false)] [] [] [] (by kernel_rfl) ?_
   obtain rfl := some_inv' hp
   exact SC.re (js := [.g 0, .g 1]) tk (by kernel_rfl)
 · refine SC.skipThen ?_
   refine SC.cut (fun a w => wirelessref43_SameFound_j1 F = some r ∧ A 26 2 fx [] [.gone, .gone] a w) ?_ ?_
   · refine SC.r tk [(0, vs 0), (1, vs 1), (5, vi .i64 0)] [] [] [] (by kernel_rfl) ?_
     refine SC.block ?_
     obtain ⟨o1, hi1, ho1⟩ := bind_inv hp
     clear hp
     refine SC.loop (fun n a w => ∃ (x_3 : Int), iter (fun s => wirelessref43_SameFound_l1 F a_1 b_2 s) n (x_3) = some o1 ∧ A 26 2 fx [(0, vs 0), (1, vs 1), (5, vi .i64 x_3)] [.rd 6 R_T_api_Found a_1, .rd 6 R_T_api_Found b_2] a w) F (fun a w h => ⟨0, hi1, h.at (js := [.g 0, .g 1]) (by kernel_rfl)⟩) ?_
     rintro n1 a w ⟨x_3, hi1, h⟩
     obtain ⟨n1, q1, rfl, hp, hs1⟩ := iter_inv hi1
     replace hp : wirelessref43_SameFound_l1 F a_1 b_2 x_3 = some q1 := hp
     clear hi1
     refine h.go ?_
     refine SC.seq ?_
     refine SC.r tk [(0, vs 0), (1, vs 1), (5, vi .i64 x_3), (14, vb (decide (x_3 < (len a_1))))] [] [] [] (by kernel_rfl) ?_
     refine SC.if' rfl hp (fun hp => ?_) (fun hp => ?_)
     · refine SC.skipThen ?_
       refine SC.seq ?_
       refine SC.block ?_
       refine SC.cut (fun a w => ∃ (z_4 : Bool), wirelessref43_SameFound_j2 F x_3 z_4 = some q1 ∧ A 26 2 fx [(0, vs 0), (1, vs 1), (5, vi .i64 x_3), (25, vb z_4)] [.rd 6 R_T_api_Found a_1, .rd 6 R_T_api_Found b_2] a w) ?_ ?_
       · obtain ⟨x_5, e_x_5, hp⟩ := bind_inv hp
         obtain ⟨x_6, e_x_6, hp⟩ := bind_inv hp
         refine SC.pre (pre_ix (i := 0) (iv := x_3) (sz := 6) (R := R_T_api_Found) (l := a_1) (by kernel_rfl) rfl e_x_5) ?_
         refine SC.pre (pre_ix (i := 1) (iv := x_3) (sz := 6) (R := R_T_api_Found) (l := b_2) (by kernel_rfl) rfl e_x_6) ?_
         refine SC.draw MO [true, true, true, true] (by kernel_rfl) fun kap_7 D_8 => ?_
         refine SD.takes tk D_8 [] kn0 [0, 1, 2, 3, 4, 5, 6, 7] [.el 2, .el 3] [x_3, x_3] [I, I, I, I, I, I, I, I, O] [(0, vs 0), (1, vs 1), (5, vi .i64 x_3), (20, .g (C_api_Found x_5)), (24, .g (C_api_Found x_6))] rfl (by kernel_rfl) (by kernel_rfl) (by kernel_rfl) ?_
         refine SD.all1 (i := 8) (by kernel_rfl) ?_
         refine SW.eff D_8 (i := 8) (bs' := [I, I, I, I, I, I, I, I, I]) rfl (.inl rfl) rfl (e_eqs tk (cs := (C_api_Found x_5)) (ds := (C_api_Found x_6)) [(x_5.Handle == x_6.Handle), (x_5.Last == x_6.Last), (x_5.Value == x_6.Value), (x_5.Props == x_6.Props), (x_5.f_Type.High == x_6.f_Type.High), (x_5.f_Type.Low == x_6.f_Type.Low)] (!((x_5.Handle == x_6.Handle) && ((x_5.Last == x_6.Last) && ((x_5.Value == x_6.Value) && ((x_5.Props == x_6.Props) && ((x_5.f_Type.High == x_6.f_Type.High) && (x_5.f_Type.Low == x_6.f_Type.Low))))))) rfl rfl (by kernel_rfl) (by kernel_rfl) (by kernel_rfl) (.inr ⟨rfl, (by kernel_rfl)⟩)) (by kernel_rfl) rfl (by kernel_rfl) ?_
         refine SD.done (by kernel_rfl) fun a w h => ?_
         exact ⟨(!((x_5.Handle == x_6.Handle) && ((x_5.Last == x_6.Last) && ((x_5.Value == x_6.Value) && ((x_5.Props == x_6.Props) && ((x_5.f_Type.High == x_6.f_Type.High) && (x_5.f_Type.Low == x_6.f_Type.Low))))))), hp, h.at (js := [.g 0, .g 1]) (by kernel_rfl)⟩
       · rintro a w ⟨z_4, hp, h⟩
         refine h.go ?_
         refine SC.if' rfl hp (fun hp => ?_) (fun hp => ?_)
         · refine SC.r tk [(4, vb false)] [] [] [] (by kernel_rfl) ?_
           have ho := done_inv hp hs1
           replace hp := ho1
           try rw [ho] at hp
           obtain rfl := some_inv' hp
           exact SC.re (js := [.g 0, .g 1]) tk (by kernel_rfl)
         · refine SC.skipThen ?_
           refine SC.reg ?_
           refine SL.sim tk 3 [(0, vs 0), (1, vs 1), (5, vi .i64 (w64 (x_3 + 1)))] [] [] [] (by kernel_rfl) ?_
           refine SL.nilJ fun a w h => ?_
           exact ⟨n1, Nat.lt_succ_self _, w64 (x_3 + 1), next_inv hp hs1, h.at (js := [.g 0, .g 1]) (by kernel_rfl)⟩
     · refine SC.exitJ rfl fun a w h => ?_
       have ho := done_inv hp hs1
       replace hp := ho1
       try rw [ho] at hp
       exact ⟨hp, h.at (js := [.g 0, .g 1]) (by kernel_rfl)⟩
   · rintro a w ⟨hp, h⟩
     refine h.go ?_
     refine SC.r tk [(4, vb true)] [] [] [] (by kernel_rfl) ?_
     obtain rfl := some_inv' hp
     exact SC.re (js := [.g 0, .g 1]) tk (by kernel_rfl)

theorem ok_octets_sized (F : Nat) (n_1 : Int) (r : Bool) (hp : octets_sized F n_1 = some r) : Spec Try.prog 87 [vi .i64 n_1] [] (vb r) [] := by
 refine Spec.enter Try.func87 rfl Try.ntmps87 rfl rfl fun fx => ?_
 refine SC.r tk [(0, vi .i64 n_1)] [] [] [] (by kernel_rfl) ?_
 refine SC.r tk [(2, vb ((decide (n_1 ≥ 1)) && (decide (n_1 ≤ 8))))] [] [] [] (by kernel_rfl) ?_
 obtain rfl := some_inv' hp
 exact SC.re (js := []) tk (by kernel_rfl)

theorem ok_octets_Put (F : Nat) (fields_1 : (List T_api_Field)) (r : (List Int) × Int) (hp : octets_Put F fields_1 = some r) : Spec Try.prog 78 [vs 0] [.rd 2 R_T_api_Field fields_1] (.u [.inl (.s 1), .inl (ci .i64 r.2)]) [.gone, .rd 1 R8 r.1] := by
 refine Spec.enter Try.func78 rfl Try.ntmps78 rfl rfl fun fx => ?_
 refine SC.r tk [(0, vs 0)] [] [] [] (by kernel_rfl) ?_
 refine SC.r tk [(0, vs 0), (4, vn)] [] [] [] (by kernel_rfl) ?_
 refine SC.cut (fun a w => ∃ (l_2 : (List Int)), octets_Put_j1 F l_2 = some r ∧ A 49 1 fx [(4, vs 1)] [.gone, .own 1 5 R8 l_2] a w) ?_ ?_
 · refine SC.r tk [(4, vn), (8, vs 0), (9, vi .i64 (len fields_1)), (10, vi .i64 0)] [] [] [] (by kernel_rfl) ?_
   refine SC.block ?_
   obtain ⟨o1, hi1, ho1⟩ := bind_inv hp
   clear hp
   refine SC.loop (fun n a w => ∃ (l_3 : (List Int)) (x_4 : Int), iter (fun s => octets_Put_l1 F fields_1 s.1 s.2) n (l_3, x_4) = some o1 ∧ A 49 1 fx [(4, vs 1), (8, vs 0), (9, vi .i64 (len fields_1)), (10, vi .i64 x_4)] [.rd 2 R_T_api_Field fields_1, .own 1 5 R8 l_3] a w) F (fun a w h => ⟨[], 0, hi1, h.at (js := [.g 0, .n]) (by kernel_rfl)⟩) ?_
   rintro n1 a w ⟨l_3, x_4, hi1, h⟩
   obtain ⟨n1, q1, rfl, hp, hs1⟩ := iter_inv hi1
   replace hp : octets_Put_l1 F fields_1 l_3 x_4 = some q1 := hp
   clear hi1
   refine h.go ?_
   refine SC.r tk [(4, vs 1), (8, vs 0), (9, vi .i64 (len fields_1)), (10, vi .i64 x_4), (11, vb (decide (x_4 < (len fields_1))))] [] [] [] (by kernel_rfl) ?_
   refine SC.seq ?_
   refine SC.if' rfl hp (fun hp => ?_) (fun hp => ?_)
   · refine SC.skipThen ?_
     refine SC.cut (fun a w => ∃ (l_5 : (List Int)), octets_Put_j2 F x_4 l_5 = some q1 ∧ A 49 1 fx [(4, vs 1), (8, vs 0), (9, vi .i64 (len fields_1)), (10, vi .i64 x_4)] [.rd 2 R_T_api_Field fields_1, .own 1 5 R8 l_5] a w) ?_ ?_
     · refine SC.block ?_
       refine SC.seq ?_
       refine SC.reg ?_
       obtain ⟨x_6, e_x_6, hp⟩ := bind_inv hp
       refine SL.pre (pre_ix (i := 0) (iv := x_4) (sz := 2) (R := R_T_api_Field) (l := fields_1) (by kernel_rfl) rfl e_x_6) ?_
       refine SL.sim tk 2 [(4, vs 1), (8, vs 0), (9, vi .i64 (len fields_1)), (10, vi .i64 x_4), (13, .g (C_api_Field x_6))] [] [.el 2] [x_4] (by kernel_rfl) ?_
       refine SL.eff (e_alloc (E := 102) tk [ci .i64 0, ci .u64 0] (by kernel_rfl)) rfl (by kernel_rfl) ?_
       refine SL.sim tk 1 [(4, vs 1), (6, vp 3 0), (8, vs 0), (9, vi .i64 (len fields_1)), (10, vi .i64 x_4)] [(3, 102, (C_api_Field x_6))] [] [] (by kernel_rfl) ?_
       refine SL.nilThen ?_
       refine SC.seq ?_
       refine SC.seq ?_
       refine SC.reg ?_
       refine SL.sim tk 2 [(4, vs 1), (6, vp 3 0), (8, vs 0), (9, vi .i64 (len fields_1)), (10, vi .i64 x_4), (15, vi .i64 x_6.Size)] [] [] [] (by kernel_rfl) ?_
       obtain ⟨x_7, e_x_7, hp⟩ := bind_inv hp
       refine SL.eff (e_c Try.call87 (ok_octets_sized F x_6.Size _ e_x_7) [] [vi .i64 x_6.Size] (vb x_7) (by kernel_rfl) (.inl rfl)) rfl (by kernel_rfl) ?_
       refine SL.norm (itsN := [.rd 2 R_T_api_Field fields_1, .own 1 5 R8 l_3, .elt (some (0, x_4)) false (C_api_Field x_6), .blk 102 (C_api_Field x_6)]) (by kernel_rfl) ?_
       refine SL.sim tk 2 [(4, vs 1), (6, vp 3 0), (8, vs 0), (9, vi .i64 (len fields_1)), (10, vi .i64 x_4), (18, vb (!x_7))] [] [] [] (by kernel_rfl) ?_
       obtain ⟨z_9, hz, hpr⟩ := bind_inv hp
       clear hp
       refine SL.cutAt 13 (fun a w => A 49 1 fx [(4, vs 1), (6, vp 2 0), (8, vs 0), (9, vi .i64 (len fields_1)), (10, vi .i64 x_4), (31, vb z_9)] [.rd 2 R_T_api_Field fields_1, .own 1 5 R8 l_3, .blk 102 (C_api_Field x_6)] a w) ?_ ?_
       · have hp := hz
         rcases Bool.eq_false_or_eq_true ((!x_7)) with hg_8 | hg_8
         · replace hp := if_t hp hg_8
           refine SL.no rfl rfl hg_8 rfl ?_
           refine SL.no rfl rfl hg_8 rfl ?_
           refine SL.no rfl rfl hg_8 rfl ?_
           refine SL.no rfl rfl hg_8 rfl ?_
           refine SL.noU rfl rfl rfl ?_
           refine SL.noU rfl rfl rfl ?_
           refine SL.noU rfl rfl rfl ?_
           refine SL.noU rfl rfl rfl ?_
           refine SL.noU rfl rfl rfl ?_
           refine SL.noU rfl rfl rfl ?_
           refine SL.noU rfl rfl rfl ?_
           refine SL.no rfl rfl hg_8 rfl ?_
           refine SL.pickt rfl hg_8 rfl rfl ?_
           refine SL.nilJ fun a w h => ?_
           obtain rfl := some_inv' hp
           exact h.at (js := [.g 0, .g 1, .g 3]) (by kernel_rfl)
         · replace hp := if_f hp hg_8
           refine SL.yes rfl rfl hg_8 ?_
           refine SL.sim tk 1 [(4, vs 1), (6, vp 3 0), (8, vs 0), (9, vi .i64 (len fields_1)), (10, vi .i64 x_4), (18, vb (!x_7)), (19, vp 3 0)] [] [] [] (by kernel_rfl) ?_
           refine SL.yes rfl rfl hg_8 ?_
           refine SL.sim tk 1 [(4, vs 1), (6, vp 3 0), (8, vs 0), (9, vi .i64 (len fields_1)), (10, vi .i64 x_4), (18, vb (!x_7)), (19, vp 3 0), (20, vi .i64 x_6.Size)] [] [] [] (by kernel_rfl) ?_
           refine SL.yes rfl rfl hg_8 ?_
           refine SL.sim tk 1 [(4, vs 1), (6, vp 3 0), (8, vs 0), (9, vi .i64 (len fields_1)), (10, vi .i64 x_4), (18, vb (!x_7)), (19, vp 3 0), (20, vi .i64 x_6.Size), (21, vb (decide (x_6.Size < 8)))] [] [] [] (by kernel_rfl) ?_
           refine SL.yes rfl rfl hg_8 ?_
           refine SL.sim tk 1 [(4, vs 1), (6, vp 3 0), (8, vs 0), (9, vi .i64 (len fields_1)), (10, vi .i64 x_4), (18, vb (!x_7)), (19, vp 3 0), (20, vi .i64 x_6.Size), (21, vb (decide (x_6.Size < 8))), (22, vb (decide (x_6.Size < 8)))] [] [] [] (by kernel_rfl) ?_
           rcases Bool.eq_false_or_eq_true (decide (x_6.Size < 8)) with hg_15 | hg_15
           · replace hp := if_t hp hg_15
             refine SL.yes rfl rfl hg_15 ?_
             refine SL.sim tk 1 [(4, vs 1), (6, vp 3 0), (8, vs 0), (9, vi .i64 (len fields_1)), (10, vi .i64 x_4), (18, vb (!x_7)), (19, vp 3 0), (20, vi .i64 x_6.Size), (21, vb (decide (x_6.Size < 8))), (22, vb (decide (x_6.Size < 8))), (23, vp 3 1)] [] [] [] (by kernel_rfl) ?_
             refine SL.yes rfl rfl hg_15 ?_
             refine SL.sim tk 1 [(4, vs 1), (6, vp 3 0), (8, vs 0), (9, vi .i64 (len fields_1)), (10, vi .i64 x_4), (18, vb (!x_7)), (19, vp 3 0), (20, vi .i64 x_6.Size), (21, vb (decide (x_6.Size < 8))), (22, vb (decide (x_6.Size < 8))), (23, vp 3 1), (24, vi .u64 x_6.Value)] [] [] [] (by kernel_rfl) ?_
             refine SL.yes rfl rfl hg_15 ?_
             refine SL.sim tk 1 [(4, vs 1), (6, vp 3 0), (8, vs 0), (9, vi .i64 (len fields_1)), (10, vi .i64 x_4), (18, vb (!x_7)), (19, vp 3 0), (20, vi .i64 x_6.Size), (21, vb (decide (x_6.Size < 8))), (22, vb (decide (x_6.Size < 8))), (23, vp 3 1), (24, vi .u64 x_6.Value), (25, vp 3 0)] [] [] [] (by kernel_rfl) ?_
             refine SL.yes rfl rfl hg_15 ?_
             refine SL.sim tk 1 [(4, vs 1), (6, vp 3 0), (8, vs 0), (9, vi .i64 (len fields_1)), (10, vi .i64 x_4), (18, vb (!x_7)), (19, vp 3 0), (20, vi .i64 x_6.Size), (21, vb (decide (x_6.Size < 8))), (22, vb (decide (x_6.Size < 8))), (23, vp 3 1), (24, vi .u64 x_6.Value), (25, vp 3 0), (26, vi .i64 x_6.Size)] [] [] [] (by kernel_rfl) ?_
             refine SL.yes rfl rfl hg_15 ?_
             refine SL.sim tk 1 [(4, vs 1), (6, vp 3 0), (8, vs 0), (9, vi .i64 (len fields_1)), (10, vi .i64 x_4), (18, vb (!x_7)), (19, vp 3 0), (20, vi .i64 x_6.Size), (21, vb (decide (x_6.Size < 8))), (22, vb (decide (x_6.Size < 8))), (23, vp 3 1), (24, vi .u64 x_6.Value), (25, vp 3 0), (26, vi .i64 x_6.Size), (27, vi .i64 (w64 (8 * x_6.Size)))] [] [] [] (by kernel_rfl) ?_
             refine SL.yes rfl rfl hg_15 ?_
             obtain ⟨x_16, e_x_16, hp⟩ := bind_inv hp
             refine SL.sim tk 1 [(4, vs 1), (6, vp 3 0), (8, vs 0), (9, vi .i64 (len fields_1)), (10, vi .i64 x_4), (18, vb (!x_7)), (19, vp 3 0), (20, vi .i64 x_6.Size), (21, vb (decide (x_6.Size < 8))), (22, vb (decide (x_6.Size < 8))), (23, vp 3 1), (24, vi .u64 x_6.Value), (25, vp 3 0), (26, vi .i64 x_6.Size), (27, vi .i64 (w64 (8 * x_6.Size))), (28, vi .u64 x_16)] [] [.bin .shr .u64 x_6.Value (w64 (8 * x_6.Size)) x_16 e_x_16] [x_6.Value, w64 (8 * x_6.Size)] (by kernel_rfl) ?_
             refine SL.yes rfl rfl hg_15 ?_
             refine SL.sim tk 1 [(4, vs 1), (6, vp 3 0), (8, vs 0), (9, vi .i64 (len fields_1)), (10, vi .i64 x_4), (18, vb (!x_7)), (19, vp 3 0), (20, vi .i64 x_6.Size), (21, vb (decide (x_6.Size < 8))), (22, vb (decide (x_6.Size < 8))), (23, vp 3 1), (24, vi .u64 x_6.Value), (25, vp 3 0), (26, vi .i64 x_6.Size), (27, vi .i64 (w64 (8 * x_6.Size))), (28, vi .u64 x_16), (29, vb (x_16 != 0))] [] [] [] (by kernel_rfl) ?_
             refine SL.yes rfl rfl hg_8 ?_
             refine SL.pickt rfl hg_15 rfl rfl ?_
             refine SL.pickf rfl hg_8 rfl rfl ?_
             refine SL.nilJ fun a w h => ?_
             obtain rfl := some_inv' hp
             exact h.at (js := [.g 0, .g 1, .g 3]) (by kernel_rfl)
           · replace hp := if_f hp hg_15
             refine SL.no rfl rfl hg_15 rfl ?_
             refine SL.no rfl rfl hg_15 rfl ?_
             refine SL.no rfl rfl hg_15 rfl ?_
             refine SL.no rfl rfl hg_15 rfl ?_
             refine SL.no rfl rfl hg_15 rfl ?_
             refine SL.no rfl rfl hg_15 rfl ?_
             refine SL.no rfl rfl hg_15 rfl ?_
             refine SL.yes rfl rfl hg_8 ?_
             refine SL.pickf rfl hg_15 rfl rfl ?_
             refine SL.pickf rfl hg_8 rfl rfl ?_
             refine SL.nilJ fun a w h => ?_
             obtain rfl := some_inv' hp
             exact h.at (js := [.g 0, .g 1, .g 3]) (by kernel_rfl)
       · intro a w h
         have hp := hpr; clear hpr hz
         refine h.goL ?_
         refine SL.nilThen ?_
         refine SC.if' rfl hp (fun hp => ?_) (fun hp => ?_)
         · refine SC.r tk [(2, vn), (3, vi .i64 5)] [] [] [] (by kernel_rfl) ?_
           have ho := done_inv hp hs1
           replace hp := ho1
           try rw [ho] at hp
           obtain rfl := some_inv' hp
           exact SC.re (js := [.g 0, .n]) tk (by kernel_rfl)
         · refine SC.skipThen ?_
           refine SC.r tk [(4, vs 1), (6, vp 2 0), (8, vs 0), (9, vi .i64 (len fields_1)), (10, vi .i64 x_4), (33, vi .i64 x_6.Size), (34, vi .i64 0)] [] [] [] (by kernel_rfl) ?_
           refine SC.block ?_
           obtain ⟨o2, hi2, ho2⟩ := bind_inv hp
           clear hp
           refine SC.loop (fun n a w => ∃ (l_10 : (List Int)) (x_11 : Int), iter (fun s => octets_Put_l2 F x_6 s.1 s.2) n (l_10, x_11) = some o2 ∧ A 49 1 fx [(4, vs 1), (6, vp 2 0), (8, vs 0), (9, vi .i64 (len fields_1)), (10, vi .i64 x_4), (33, vi .i64 x_6.Size), (34, vi .i64 x_11)] [.rd 2 R_T_api_Field fields_1, .own 1 5 R8 l_10, .blk 102 (C_api_Field x_6)] a w) F (fun a w h => ⟨l_3, 0, hi2, h.at (js := [.g 0, .g 1, .g 2]) (by kernel_rfl)⟩) ?_
           rintro n2 a w ⟨l_10, x_11, hi2, h⟩
           obtain ⟨n2, q2, rfl, hp, hs2⟩ := iter_inv hi2
           replace hp : octets_Put_l2 F x_6 l_10 x_11 = some q2 := hp
           clear hi2
           refine h.go ?_
           refine SC.r tk [(4, vs 1), (6, vp 2 0), (8, vs 0), (9, vi .i64 (len fields_1)), (10, vi .i64 x_4), (33, vi .i64 x_6.Size), (34, vi .i64 x_11), (35, vb (decide (x_11 < x_6.Size)))] [] [] [] (by kernel_rfl) ?_
           refine SC.seq ?_
           refine SC.if' rfl hp (fun hp => ?_) (fun hp => ?_)
           · refine SC.skipThen ?_
             refine SC.seq ?_
             refine SC.block ?_
             refine SC.r tk [(4, vs 1), (6, vp 2 0), (7, vi .i64 x_11), (8, vs 0), (9, vi .i64 (len fields_1)), (10, vi .i64 x_4), (33, vi .i64 x_6.Size), (34, vi .i64 x_11)] [] [] [] (by kernel_rfl) ?_
             refine SC.reg ?_
             obtain ⟨x_12, e_x_12, hp⟩ := bind_inv hp
             refine SL.sim tk 7 [(4, vs 1), (6, vp 2 0), (8, vs 0), (9, vi .i64 (len fields_1)), (10, vi .i64 x_4), (33, vi .i64 x_6.Size), (34, vi .i64 x_11), (37, vs 1), (43, vi .u8 (wu8 x_12))] [] [.bin .shr .u64 x_6.Value (w64 (8 * x_11)) x_12 e_x_12] [x_6.Value, w64 (8 * x_11)] (by kernel_rfl) ?_
             refine SL.eff (e_lit (sz := 1) (E := 5) (R := R8) (by_ := 1) tk [[ci .u8 (wu8 x_12)]] [wu8 x_12] (by kernel_rfl) ⟨Clo.int, trivial⟩ rfl (by kernel_rfl) (by kernel_rfl)) rfl (by kernel_rfl) ?_
             obtain ⟨l_13, e_l_13, hp⟩ := bind_inv hp
             refine SL.eff (e_app (i := 1) (l := l_10) (sz := 1) (E := 5) (R := R8) (by_ := 1) (m := [wu8 x_12]) tk rfl (by kernel_rfl) rfl (.o 5 (by kernel_rfl)) e_l_13 (by kernel_rfl)) rfl (by kernel_rfl) ?_
             refine SL.sim tk 1 [(4, vs 4), (6, vp 2 0), (8, vs 0), (9, vi .i64 (len fields_1)), (10, vi .i64 x_4), (33, vi .i64 x_6.Size), (34, vi .i64 x_11)] [] [] [] (by kernel_rfl) ?_
             refine SL.nilThen ?_
             refine SC.reg ?_
             refine SL.sim tk 2 [(4, vs 4), (6, vp 2 0), (8, vs 0), (9, vi .i64 (len fields_1)), (10, vi .i64 x_4), (33, vi .i64 x_6.Size), (34, vi .i64 (w64 (x_11 + 1)))] [] [] [] (by kernel_rfl) ?_
             refine SL.nilJ fun a w h => ?_
             exact ⟨n2, Nat.lt_succ_self _, l_13, w64 (x_11 + 1), next_inv hp hs2, h.at (js := [.g 0, .g 4, .g 2]) (by kernel_rfl)⟩
           · refine SC.exitJ rfl fun a w h => ?_
             have ho := done_inv hp hs2
             replace hp := ho2
             try rw [ho] at hp
             exact ⟨l_10, hp, h.at (js := [.g 0, .g 1]) (by kernel_rfl)⟩
     · rintro a w ⟨l_5, hp, h⟩
       refine h.go ?_
       refine SC.reg ?_
       refine SL.sim tk 2 [(4, vs 1), (8, vs 0), (9, vi .i64 (len fields_1)), (10, vi .i64 (w64 (x_4 + 1)))] [] [] [] (by kernel_rfl) ?_
       refine SL.nilJ fun a w h => ?_
       exact ⟨n1, Nat.lt_succ_self _, l_5, w64 (x_4 + 1), next_inv hp hs1, h.at (js := [.g 0, .g 1]) (by kernel_rfl)⟩
   · refine SC.exitJ rfl fun a w h => ?_
     have ho := done_inv hp hs1
     replace hp := ho1
     try rw [ho] at hp
     exact ⟨l_3, hp, h.at (js := [.g 0, .g 1]) (by kernel_rfl)⟩
 · rintro a w ⟨l_2, hp, h⟩
   refine h.go ?_
   refine SC.r tk [(2, vs 1), (3, vi .i64 0)] [] [] [] (by kernel_rfl) ?_
   obtain rfl := some_inv' hp
   exact SC.re (js := [.g 0, .z 1]) tk (by kernel_rfl)

theorem ok_database_number (F : Nat) (size_1 : Int) (n_2 : Int) (r : (List Int)) (hp : database_number F size_1 n_2 = some r) : Spec Try.prog 58 [vi .i64 size_1, vi .u64 n_2] [] (vs 0) [.rd 1 R8 r] := by
 refine Spec.enter Try.func58 rfl Try.ntmps58 rfl rfl fun fx => ?_
 refine SC.r tk [(0, vi .i64 size_1), (1, vi .u64 n_2)] [] [] [] (by kernel_rfl) ?_
 refine SC.seq ?_
 refine SC.reg ?_
 refine SL.sim tk 3 [(10, .g [ci .i64 size_1, ci .u64 n_2])] [] [] [] (by kernel_rfl) ?_
 refine SL.eff (e_lit (sz := 2) (E := 102) (R := R_T_api_Field) (by_ := 16) tk [[ci .i64 size_1, ci .u64 n_2]] [(T_api_Field.mk size_1 n_2)] (by kernel_rfl) ⟨(clo_T_api_Field (x := (T_api_Field.mk size_1 n_2))), trivial⟩ rfl (by kernel_rfl) (by kernel_rfl)) rfl (by kernel_rfl) ?_
 obtain ⟨x_3, e_x_3, hp⟩ := bind_inv hp
 refine SL.pre (pre_frz (i := 0) (sz := 2) (E := 102) (R := R_T_api_Field) (l := [(T_api_Field.mk size_1 n_2)]) (by kernel_rfl)) ?_
 refine SL.eff (e_c Try.call78 (ok_octets_Put F [(T_api_Field.mk size_1 n_2)] _ e_x_3) [.g 0] [vs 0] (.u [.inl (.s 1), .inl (ci .i64 x_3.2)]) (by kernel_rfl) (.inl rfl)) rfl (by kernel_rfl) ?_
 refine SL.sim tk 5 [(5, vs 1)] [] [] [] (by kernel_rfl) ?_
 refine SL.nilThen ?_
 refine SC.r tk [(4, vs 1)] [] [] [] (by kernel_rfl) ?_
 obtain rfl := some_inv' hp
 exact SC.re (js := [.g 1]) tk (by kernel_rfl)

theorem ok_serial_Low (F : Nat) (n_1 : Int) (bits_2 : Int) (r : Int) (hp : serial_Low F n_1 bits_2 = some r) : Spec Try.prog 93 [vi .u64 n_1, vi .i64 bits_2] [] (vi .u64 r) [] := by
 refine Spec.enter Try.func93 rfl Try.ntmps93 rfl rfl fun fx => ?_
 refine SC.r tk [(0, vi .u64 n_1), (1, vi .i64 bits_2)] [] [] [] (by kernel_rfl) ?_
 refine SC.seq ?_
 refine SC.block ?_
 refine SC.r tk [(0, vi .u64 n_1), (1, vi .i64 bits_2), (5, vb (decide (bits_2 ≤ 0)))] [] [] [] (by kernel_rfl) ?_
 refine SC.if' rfl hp (fun hp => ?_) (fun hp => ?_)
 · refine SC.r tk [(4, vi .u64 0)] [] [] [] (by kernel_rfl) ?_
   obtain rfl := some_inv' hp
   exact SC.re (js := []) tk (by kernel_rfl)
 · refine SC.r tk [(0, vi .u64 n_1), (1, vi .i64 bits_2), (8, vb (decide (bits_2 ≥ 64)))] [] [] [] (by kernel_rfl) ?_
   refine SC.if' rfl hp (fun hp => ?_) (fun hp => ?_)
   · refine SC.r tk [(4, vi .u64 n_1)] [] [] [] (by kernel_rfl) ?_
     obtain rfl := some_inv' hp
     exact SC.re (js := []) tk (by kernel_rfl)
   · refine SC.skipThen ?_
     obtain ⟨x_3, e_x_3, hp⟩ := bind_inv hp
     refine SC.r tk [(4, vi .u64 (iand .u64 n_1 (wu64 (x_3 - 1))))] [] [.bin .shl .u64 1 bits_2 x_3 e_x_3] [1, bits_2] (by kernel_rfl) ?_
     obtain rfl := some_inv' hp
     exact SC.re (js := []) tk (by kernel_rfl)

theorem ok_block_split (F : Nat) (x_1 : Int) (r : (Int × Int)) (hp : block_split F x_1 = some r) : Spec Try.prog 88 [vi .u64 x_1] [] (.g [ci .u32 r.1, ci .u32 r.2]) [] := by
 refine Spec.enter Try.func88 rfl Try.ntmps88 rfl rfl fun fx => ?_
 refine SC.seq ?_
 refine SC.reg ?_
 refine SL.eff (e_alloc (E := 115) tk [ci .u32 0, ci .u32 0] (by kernel_rfl)) rfl (by kernel_rfl) ?_
 refine SL.nilThen ?_
 refine SC.seq ?_
 refine SC.reg ?_
 refine SL.sim tk 4 [(2, vp 0 0), (5, vi .u32 (wu32 (shrp x_1 32))), (6, vi .u64 x_1)] [] [.bin .shr .u64 x_1 32 (shrp x_1 32) (by kernel_rfl)] [x_1, 32] (by kernel_rfl) ?_
 obtain ⟨x_2, e_x_2, hp⟩ := bind_inv hp
 refine SL.eff (e_c Try.call93 (ok_serial_Low F x_1 32 _ e_x_2) [] [vi .u64 x_1, vi .i64 32] (vi .u64 x_2) (by kernel_rfl) (.inl rfl)) rfl (by kernel_rfl) ?_
 refine SL.sim tk 3 [(2, vp 0 0)] [(0, 115, [ci .u32 (wu32 (shrp x_1 32)), ci .u32 (wu32 x_2)])] [] [] (by kernel_rfl) ?_
 refine SL.nilThen ?_
 obtain rfl := some_inv' hp
 exact SC.re (js := []) tk (by kernel_rfl)

theorem ok_math_bits_RotateLeft64 (F : Nat) (x_1 : Int) (k_2 : Int) (r : Int) (hp : math_bits_RotateLeft64 F x_1 k_2 = some r) : Spec Try.prog 94 [vi .u64 x_1, vi .i64 k_2] [] (vi .u64 r) [] := by
 refine Spec.enter Try.func94 rfl Try.ntmps94 rfl rfl fun fx => ?_
 refine SC.r tk [(0, vi .u64 x_1), (1, vi .i64 k_2)] [] [] [] (by kernel_rfl) ?_
 refine SC.r tk [(0, vi .u64 x_1), (5, vi .u64 (iand .u64 (wu64 k_2) 63))] [] [] [] (by kernel_rfl) ?_
 obtain ⟨x_3, e_x_3, hp⟩ := bind_inv hp
 obtain ⟨x_4, e_x_4, hp⟩ := bind_inv hp
 refine SC.r tk [(4, vi .u64 (ior .u64 x_3 x_4))] [] [.bin .shl .u64 x_1 (iand .u64 (wu64 k_2) 63) x_3 e_x_3, .bin .shr .u64 x_1 (wu64 (64 - (iand .u64 (wu64 k_2) 63))) x_4 e_x_4] [x_1, iand .u64 (wu64 k_2) 63, x_1, wu64 (64 - (iand .u64 (wu64 k_2) 63))] (by kernel_rfl) ?_
 obtain rfl := some_inv' hp
 exact SC.re (js := []) tk (by kernel_rfl)

theorem ok_math_bits_RotateLeft32 (F : Nat) (x_1 : Int) (k_2 : Int) (r : Int) (hp : math_bits_RotateLeft32 F x_1 k_2 = some r) : Spec Try.prog 95 [vi .u32 x_1, vi .i64 k_2] [] (vi .u32 r) [] := by
 refine Spec.enter Try.func95 rfl Try.ntmps95 rfl rfl fun fx => ?_
 refine SC.r tk [(0, vi .u32 x_1), (1, vi .i64 k_2)] [] [] [] (by kernel_rfl) ?_
 refine SC.r tk [(0, vi .u32 x_1), (5, vi .u64 (iand .u64 (wu64 k_2) 31))] [] [] [] (by kernel_rfl) ?_
 obtain ⟨x_3, e_x_3, hp⟩ := bind_inv hp
 obtain ⟨x_4, e_x_4, hp⟩ := bind_inv hp
 refine SC.r tk [(4, vi .u32 (ior .u32 x_3 x_4))] [] [.bin .shl .u32 x_1 (iand .u64 (wu64 k_2) 31) x_3 e_x_3, .bin .shr .u32 x_1 (wu64 (32 - (iand .u64 (wu64 k_2) 31))) x_4 e_x_4] [x_1, iand .u64 (wu64 k_2) 31, x_1, wu64 (32 - (iand .u64 (wu64 k_2) 31))] (by kernel_rfl) ?_
 obtain rfl := some_inv' hp
 exact SC.re (js := []) tk (by kernel_rfl)

theorem ok_block_Round (F : Nat) (k_1 : Int) (i_2 : Int) (half_3 : Int) (r : Int) (hp : block_Round F k_1 i_2 half_3 = some r) : Spec Try.prog 89 [vi .u64 k_1, vi .i64 i_2, vi .u32 half_3] [] (vi .u32 r) [] := by
 refine Spec.enter Try.func89 rfl Try.ntmps89 rfl rfl fun fx => ?_
 refine SC.r tk [(0, vi .u64 k_1), (1, vi .i64 i_2), (2, vi .u32 half_3)] [] [] [] (by kernel_rfl) ?_
 refine SC.r tk [(0, vi .u64 k_1), (2, vi .u32 half_3), (7, vi .i64 (remp (w64 (11 * (remp i_2 64))) 64))] [] [.bin .rem .i64 i_2 64 (remp i_2 64) (by kernel_rfl), .bin .rem .i64 (w64 (11 * (remp i_2 64))) 64 (remp (w64 (11 * (remp i_2 64))) 64) (by kernel_rfl)] [i_2, 64, w64 (11 * (remp i_2 64)), 64] (by kernel_rfl) ?_
 refine SC.seq ?_
 refine SC.reg ?_
 refine SL.sim tk 2 [(2, vi .u32 half_3), (13, vi .u64 k_1), (14, vi .i64 (remp (w64 (11 * (remp i_2 64))) 64))] [] [] [] (by kernel_rfl) ?_
 obtain ⟨x_4, e_x_4, hp⟩ := bind_inv hp
 refine SL.eff (e_c Try.call94 (ok_math_bits_RotateLeft64 F k_1 (remp (w64 (11 * (remp i_2 64))) 64) _ e_x_4) [] [vi .u64 k_1, vi .i64 (remp (w64 (11 * (remp i_2 64))) 64)] (vi .u64 x_4) (by kernel_rfl) (.inl rfl)) rfl (by kernel_rfl) ?_
 obtain ⟨x_5, e_x_5, hp⟩ := bind_inv hp
 refine SL.eff (e_c Try.call93 (ok_serial_Low F x_4 32 _ e_x_5) [] [vi .u64 x_4, vi .i64 32] (vi .u64 x_5) (by kernel_rfl) (.inl rfl)) rfl (by kernel_rfl) ?_
 refine SL.norm (itsN := []) (by kernel_rfl) ?_
 refine SL.sim tk 2 [(2, vi .u32 half_3), (8, vi .u32 (wu32 x_5))] [] [] [] (by kernel_rfl) ?_
 refine SL.nilThen ?_
 refine SC.seq ?_
 refine SC.reg ?_
 refine SL.sim tk 3 [(8, vi .u32 (wu32 x_5)), (20, vi .u32 (wu32 (half_3 + (wu32 x_5))))] [] [] [] (by kernel_rfl) ?_
 obtain ⟨x_6, e_x_6, hp⟩ := bind_inv hp
 refine SL.eff (e_c Try.call95 (ok_math_bits_RotateLeft32 F (wu32 (half_3 + (wu32 x_5))) 7 _ e_x_6) [] [vi .u32 (wu32 (half_3 + (wu32 x_5))), vi .i64 7] (vi .u32 x_6) (by kernel_rfl) (.inl rfl)) rfl (by kernel_rfl) ?_
 refine SL.sim tk 2 [(22, vi .u32 (wu32 (x_6 * 2654435761))), (23, vi .u32 (wu32 x_5))] [] [] [] (by kernel_rfl) ?_
 obtain ⟨x_7, e_x_7, hp⟩ := bind_inv hp
 refine SL.eff (e_c Try.call95 (ok_math_bits_RotateLeft32 F (wu32 x_5) 16 _ e_x_7) [] [vi .u32 (wu32 x_5), vi .i64 16] (vi .u32 x_7) (by kernel_rfl) (.inl rfl)) rfl (by kernel_rfl) ?_
 refine SL.norm (itsN := []) (by kernel_rfl) ?_
 refine SL.sim tk 2 [(6, vi .u32 (ixor .u32 (wu32 (x_6 * 2654435761)) x_7))] [] [] [] (by kernel_rfl) ?_
 refine SL.nilThen ?_
 obtain rfl := some_inv' hp
 exact SC.re (js := []) tk (by kernel_rfl)

theorem ok_block_halves_join (F : Nat) (h_1 : (Int × Int)) (r : Int) (hp : block_halves_join F h_1 = some r) : Spec Try.prog 90 [.g [ci .u32 h_1.1, ci .u32 h_1.2]] [] (vi .u64 r) [] := by
 refine Spec.enter Try.func90 rfl Try.ntmps90 rfl rfl fun fx => ?_
 refine SC.seq ?_
 refine SC.reg ?_
 refine SL.eff (e_box (E := 115) [ci .u32 h_1.1, ci .u32 h_1.2] (by kernel_rfl)) rfl (by kernel_rfl) ?_
 refine SL.sim tk 1 [(1, vp 0 0)] [] [] [] (by kernel_rfl) ?_
 refine SL.nilThen ?_
 refine SC.seq ?_
 refine SC.reg ?_
 refine SL.eff (e_ixa (off := 0) (T := 115) (cs := [ci .u32 h_1.1, ci .u32 h_1.2]) tk rfl rfl (by kernel_rfl) (by kernel_rfl)) rfl (by kernel_rfl) ?_
 refine SL.sim tk 3 [(1, vp 0 0), (6, vi .u64 (shlp .u64 (wu64 h_1.1) 32))] [] [.bin .shl .u64 (wu64 h_1.1) 32 (shlp .u64 (wu64 h_1.1) 32) (by kernel_rfl)] [wu64 h_1.1, 32] (by kernel_rfl) ?_
 refine SL.eff (e_ixa (off := 1) (T := 115) (cs := [ci .u32 h_1.1, ci .u32 h_1.2]) tk rfl rfl (by kernel_rfl) (by kernel_rfl)) rfl (by kernel_rfl) ?_
 refine SL.sim tk 4 [(2, vi .u64 (ior .u64 (shlp .u64 (wu64 h_1.1) 32) (wu64 h_1.2)))] [] [] [] (by kernel_rfl) ?_
 refine SL.nilThen ?_
 obtain rfl := some_inv' hp
 exact SC.re (js := []) tk (by kernel_rfl)

theorem ok_block_Mix (F : Nat) (k_1 : Int) (x_2 : Int) (r : Int) (hp : block_Mix F k_1 x_2 = some r) : Spec Try.prog 80 [vi .u64 k_1, vi .u64 x_2] [] (vi .u64 r) [] := by
 refine Spec.enter Try.func80 rfl Try.ntmps80 rfl rfl fun fx => ?_
 refine SC.r tk [(0, vi .u64 k_1), (1, vi .u64 x_2)] [] [] [] (by kernel_rfl) ?_
 refine SC.seq ?_
 refine SC.reg ?_
 refine SL.sim tk 1 [(0, vi .u64 k_1), (7, vi .u64 x_2)] [] [] [] (by kernel_rfl) ?_
 obtain ⟨x_3, e_x_3, hp⟩ := bind_inv hp
 refine SL.eff (e_c Try.call88 (ok_block_split F x_2 _ e_x_3) [] [vi .u64 x_2] (.g [ci .u32 x_3.1, ci .u32 x_3.2]) (by kernel_rfl) (.inl rfl)) rfl (by kernel_rfl) ?_
 refine SL.eff (e_alloc (E := 115) tk [ci .u32 0, ci .u32 0] (by kernel_rfl)) rfl (by kernel_rfl) ?_
 refine SL.sim tk 1 [(0, vi .u64 k_1), (5, vp 0 0)] [(0, 115, [ci .u32 x_3.1, ci .u32 x_3.2])] [] [] (by kernel_rfl) ?_
 refine SL.nilThen ?_
 refine SC.cut (fun a w => ∃ (x_4 : Int) (x_5 : Int), block_Mix_j1 F x_4 x_5 = some r ∧ A 26 0 fx [(5, vp 0 0)] [.blk 115 [ci .u32 x_4, ci .u32 x_5]] a w) ?_ ?_
 · refine SC.r tk [(0, vi .u64 k_1), (5, vp 0 0), (9, vi .i64 0)] [] [] [] (by kernel_rfl) ?_
   refine SC.block ?_
   obtain ⟨o1, hi1, ho1⟩ := bind_inv hp
   clear hp
   refine SC.loop (fun n a w => ∃ (x_7 : Int) (x_8 : Int) (x_9 : Int), iter (fun s => block_Mix_l1 F k_1 s.1 s.2.1 s.2.2) n (x_7, x_8, x_9) = some o1 ∧ A 26 0 fx [(0, vi .u64 k_1), (5, vp 0 0), (9, vi .i64 x_9)] [.blk 115 [ci .u32 x_7, ci .u32 x_8]] a w) F (fun a w h => ⟨x_3.1, x_3.2, 0, hi1, h.at (js := [.g 0]) (by kernel_rfl)⟩) ?_
   rintro n1 a w ⟨x_7, x_8, x_9, hi1, h⟩
   obtain ⟨n1, q1, rfl, hp, hs1⟩ := iter_inv hi1
   replace hp : block_Mix_l1 F k_1 x_7 x_8 x_9 = some q1 := hp
   clear hi1
   refine h.go ?_
   refine SC.r tk [(0, vi .u64 k_1), (5, vp 0 0), (9, vi .i64 x_9), (10, vb (decide (x_9 < 8)))] [] [] [] (by kernel_rfl) ?_
   refine SC.seq ?_
   refine SC.if' rfl hp (fun hp => ?_) (fun hp => ?_)
   · refine SC.skipThen ?_
     refine SC.seq ?_
     refine SC.block ?_
     refine SC.r tk [(0, vi .u64 k_1), (5, vp 0 0), (6, vi .i64 x_9), (9, vi .i64 x_9)] [] [] [] (by kernel_rfl) ?_
     refine SC.draw MO [false] (by kernel_rfl) fun kap_10 D_11 => ?_
     refine SD.takes tk D_11 [] kn0 [4, 5] [] [] [O, O, O, O, I, I, O, O, O, O, O, O] [(0, vi .u64 k_1), (5, vp 0 0), (9, vi .i64 x_9), (16, vi .u64 k_1), (17, vi .i64 x_9)] rfl (by kernel_rfl) (by kernel_rfl) (by kernel_rfl) ?_
     obtain ⟨x_652, e_x_652, hp⟩ := bind_inv hp
     refine SD.lay 0 [I, I, I, I, I, I, I, I, I, I, I, I] [(0, vi .u64 k_1), (5, vp 0 0), (9, vi .i64 x_9)] [.blk 115 [ci .u32 x_8, ci .u32 (ixor .u32 x_7 x_652)]] ?_ (fun c_11_0 => ?_)
     · refine SD.doneThen (by kernel_rfl) ?_
       refine SC.reg ?_
       refine SL.sim tk 2 [(0, vi .u64 k_1), (5, vp 0 0), (9, vi .i64 (w64 (x_9 + 1)))] [] [] [] (by kernel_rfl) ?_
       refine SL.nilJ fun a w h => ?_
       exact ⟨n1, Nat.lt_succ_self _, x_8, ixor .u32 x_7 x_652, w64 (x_9 + 1), next_inv hp hs1, h.at (js := [.g 0]) (by kernel_rfl)⟩
     · refine SD.lay 1 [I, I, I, I, I, I, I, I, I, I, I, O] [(0, vi .u64 k_1), (5, vp 0 0), (9, vi .i64 x_9), (22, .g [ci .u32 x_8, ci .u32 (ixor .u32 x_7 x_652)])] [.blk 115 [ci .u32 x_7, ci .u32 x_8]] ?_ (fun c_11_1 => ?_)
       · refine SD.all1 (i := 11) (by kernel_rfl) ?_
         refine SW.store D_11 tk (i := 11) (q := 0) (T := 115) (cs := [ci .u32 x_8, ci .u32 (ixor .u32 x_7 x_652)]) (bs' := [I, I, I, I, I, I, I, I, I, I, I, I]) rfl (by kernel_rfl) rfl rfl (by kernel_rfl) ?_
         exact SD.vie D_11 [.g 0] c_11_0 (by kernel_rfl)
       · refine SD.lay 4 [I, I, I, I, I, I, I, I, O, O, O, O] [(0, vi .u64 k_1), (5, vp 0 0), (9, vi .i64 x_9), (13, vi .u32 x_8), (15, vi .u32 x_7), (16, vi .u64 k_1), (17, vi .i64 x_9), (19, vi .u32 x_8)] [.blk 115 [ci .u32 x_7, ci .u32 x_8]] ?_ (fun c_11_2 => ?_)
         · refine SD.all1 (i := 8) (by kernel_rfl) ?_
           refine SW.eff D_11 (i := 8) (bs' := [I, I, I, I, I, I, I, I, I, O, O, O]) rfl (.inl rfl) rfl (e_c Try.call89 (ok_block_Round F k_1 x_9 x_8 _ e_x_652) [] [vi .u64 k_1, vi .i64 x_9, vi .u32 x_8] (vi .u32 x_652) (by kernel_rfl) (.inl rfl)) (by kernel_rfl) rfl (by kernel_rfl) ?_
           refine SD.takes tk D_11 [] kn0 [9, 10] [] [] [I, I, I, I, I, I, I, I, I, I, I, O] [(0, vi .u64 k_1), (5, vp 0 0), (9, vi .i64 x_9), (22, .g [ci .u32 x_8, ci .u32 (ixor .u32 x_7 x_652)])] rfl (by kernel_rfl) (by kernel_rfl) (by kernel_rfl) ?_
           exact SD.vie D_11 [.g 0] c_11_1 (by kernel_rfl)
         · refine SD.lay 5 [I, I, I, I, I, I, I, O, O, O, O, O] [(0, vi .u64 k_1), (5, vp 0 0), (9, vi .i64 x_9), (13, vi .u32 x_8), (15, vi .u32 x_7), (16, vi .u64 k_1), (17, vi .i64 x_9), (18, vp 0 1)] [.blk 115 [ci .u32 x_7, ci .u32 x_8]] ?_ (fun c_11_3 => ?_)
           · refine SD.all1 (i := 7) (by kernel_rfl) ?_
             refine SW.eff D_11 (i := 7) (v := vi .u32 x_8) (bs' := [I, I, I, I, I, I, I, I, O, O, O, O]) rfl (.inl rfl) rfl (e_val tk (by kernel_rfl)) (by kernel_rfl) rfl (by kernel_rfl) ?_
             exact SD.vie D_11 [.g 0] c_11_2 (by kernel_rfl)
           · refine SD.lay 6 [I, I, I, I, I, I, O, O, O, O, O, O] [(0, vi .u64 k_1), (5, vp 0 0), (9, vi .i64 x_9), (13, vi .u32 x_8), (15, vi .u32 x_7), (16, vi .u64 k_1), (17, vi .i64 x_9)] [.blk 115 [ci .u32 x_7, ci .u32 x_8]] ?_ (fun c_11_4 => ?_)
             · refine SD.all1 (i := 6) (by kernel_rfl) ?_
               refine SW.eff D_11 (i := 6) (bs' := [I, I, I, I, I, I, I, O, O, O, O, O]) rfl (.inl rfl) rfl (e_ixa (off := 1) (T := 115) (cs := [ci .u32 x_7, ci .u32 x_8]) tk rfl rfl (by kernel_rfl) (by kernel_rfl)) (by kernel_rfl) rfl (by kernel_rfl) ?_
               exact SD.vie D_11 [.g 0] c_11_3 (by kernel_rfl)
             · refine SD.lay 4 [I, I, I, O, I, I, I, I, I, O, O, O] [(0, vi .u64 k_1), (5, vp 0 0), (9, vi .i64 x_9), (13, vi .u32 x_8), (14, vp 0 0), (20, vi .u32 x_652)] [.blk 115 [ci .u32 x_7, ci .u32 x_8]] ?_ (fun c_11_5 => ?_)
               · refine SD.all1 (i := 3) (by kernel_rfl) ?_
                 refine SW.eff D_11 (i := 3) (v := vi .u32 x_7) (bs' := [I, I, I, I, I, I, I, I, I, O, O, O]) rfl (.inl rfl) rfl (e_val tk (by kernel_rfl)) (by kernel_rfl) rfl (by kernel_rfl) ?_
                 refine SD.takes tk D_11 [] kn0 [9, 10] [] [] [I, I, I, I, I, I, I, I, I, I, I, O] [(0, vi .u64 k_1), (5, vp 0 0), (9, vi .i64 x_9), (22, .g [ci .u32 x_8, ci .u32 (ixor .u32 x_7 x_652)])] rfl (by kernel_rfl) (by kernel_rfl) (by kernel_rfl) ?_
                 exact SD.vie D_11 [.g 0] c_11_1 (by kernel_rfl)
               · refine SD.lay 5 [I, I, I, O, I, I, I, I, O, O, O, O] [(0, vi .u64 k_1), (5, vp 0 0), (9, vi .i64 x_9), (13, vi .u32 x_8), (14, vp 0 0), (16, vi .u64 k_1), (17, vi .i64 x_9), (19, vi .u32 x_8)] [.blk 115 [ci .u32 x_7, ci .u32 x_8]] ?_ (fun c_11_6 => ?_)
                 · refine SD.all2 (i := 3) (j := 8) (by kernel_rfl) ?_ ?_
                   · refine SW.eff D_11 (i := 3) (v := vi .u32 x_7) (bs' := [I, I, I, I, I, I, I, I, O, O, O, O]) rfl (.inl rfl) rfl (e_val tk (by kernel_rfl)) (by kernel_rfl) rfl (by kernel_rfl) ?_
                     exact SD.vie D_11 [.g 0] c_11_2 (by kernel_rfl)
                   · refine SW.eff D_11 (i := 8) (bs' := [I, I, I, O, I, I, I, I, I, O, O, O]) rfl (.inl rfl) rfl (e_c Try.call89 (ok_block_Round F k_1 x_9 x_8 _ e_x_652) [] [vi .u64 k_1, vi .i64 x_9, vi .u32 x_8] (vi .u32 x_652) (by kernel_rfl) (.inl rfl)) (by kernel_rfl) rfl (by kernel_rfl) ?_
                     exact SD.vie D_11 [.g 0] c_11_5 (by kernel_rfl)
                 · refine SD.lay 6 [I, I, I, O, I, I, I, O, O, O, O, O] [(0, vi .u64 k_1), (5, vp 0 0), (9, vi .i64 x_9), (13, vi .u32 x_8), (14, vp 0 0), (16, vi .u64 k_1), (17, vi .i64 x_9), (18, vp 0 1)] [.blk 115 [ci .u32 x_7, ci .u32 x_8]] ?_ (fun c_11_7 => ?_)
                   · refine SD.all2 (i := 3) (j := 7) (by kernel_rfl) ?_ ?_
                     · refine SW.eff D_11 (i := 3) (v := vi .u32 x_7) (bs' := [I, I, I, I, I, I, I, O, O, O, O, O]) rfl (.inl rfl) rfl (e_val tk (by kernel_rfl)) (by kernel_rfl) rfl (by kernel_rfl) ?_
                       exact SD.vie D_11 [.g 0] c_11_3 (by kernel_rfl)
                     · refine SW.eff D_11 (i := 7) (v := vi .u32 x_8) (bs' := [I, I, I, O, I, I, I, I, O, O, O, O]) rfl (.inl rfl) rfl (e_val tk (by kernel_rfl)) (by kernel_rfl) rfl (by kernel_rfl) ?_
                       exact SD.vie D_11 [.g 0] c_11_6 (by kernel_rfl)
                   · refine SD.lay 7 [I, I, I, O, I, I, O, O, O, O, O, O] [(0, vi .u64 k_1), (5, vp 0 0), (9, vi .i64 x_9), (13, vi .u32 x_8), (14, vp 0 0), (16, vi .u64 k_1), (17, vi .i64 x_9)] [.blk 115 [ci .u32 x_7, ci .u32 x_8]] ?_ (fun c_11_8 => ?_)
                     · refine SD.all2 (i := 3) (j := 6) (by kernel_rfl) ?_ ?_
                       · refine SW.eff D_11 (i := 3) (v := vi .u32 x_7) (bs' := [I, I, I, I, I, I, O, O, O, O, O, O]) rfl (.inl rfl) rfl (e_val tk (by kernel_rfl)) (by kernel_rfl) rfl (by kernel_rfl) ?_
                         exact SD.vie D_11 [.g 0] c_11_4 (by kernel_rfl)
                       · refine SW.eff D_11 (i := 6) (bs' := [I, I, I, O, I, I, I, O, O, O, O, O]) rfl (.inl rfl) rfl (e_ixa (off := 1) (T := 115) (cs := [ci .u32 x_7, ci .u32 x_8]) tk rfl rfl (by kernel_rfl) (by kernel_rfl)) (by kernel_rfl) rfl (by kernel_rfl) ?_
                         exact SD.vie D_11 [.g 0] c_11_7 (by kernel_rfl)
                     · refine SD.lay 5 [I, I, O, O, I, I, I, I, I, O, O, O] [(0, vi .u64 k_1), (5, vp 0 0), (9, vi .i64 x_9), (13, vi .u32 x_8), (20, vi .u32 x_652)] [.blk 115 [ci .u32 x_7, ci .u32 x_8]] ?_ (fun c_11_9 => ?_)
                       · refine SD.all1 (i := 2) (by kernel_rfl) ?_
                         refine SW.eff D_11 (i := 2) (bs' := [I, I, I, O, I, I, I, I, I, O, O, O]) rfl (.inl rfl) rfl (e_ixa (off := 0) (T := 115) (cs := [ci .u32 x_7, ci .u32 x_8]) tk rfl rfl (by kernel_rfl) (by kernel_rfl)) (by kernel_rfl) rfl (by kernel_rfl) ?_
                         exact SD.vie D_11 [.g 0] c_11_5 (by kernel_rfl)
                       · refine SD.lay 6 [I, I, O, O, I, I, I, I, O, O, O, O] [(0, vi .u64 k_1), (5, vp 0 0), (9, vi .i64 x_9), (13, vi .u32 x_8), (16, vi .u64 k_1), (17, vi .i64 x_9), (19, vi .u32 x_8)] [.blk 115 [ci .u32 x_7, ci .u32 x_8]] ?_ (fun c_11_10 => ?_)
                         · refine SD.all2 (i := 2) (j := 8) (by kernel_rfl) ?_ ?_
                           · refine SW.eff D_11 (i := 2) (bs' := [I, I, I, O, I, I, I, I, O, O, O, O]) rfl (.inl rfl) rfl (e_ixa (off := 0) (T := 115) (cs := [ci .u32 x_7, ci .u32 x_8]) tk rfl rfl (by kernel_rfl) (by kernel_rfl)) (by kernel_rfl) rfl (by kernel_rfl) ?_
                             exact SD.vie D_11 [.g 0] c_11_6 (by kernel_rfl)
                           · refine SW.eff D_11 (i := 8) (bs' := [I, I, O, O, I, I, I, I, I, O, O, O]) rfl (.inl rfl) rfl (e_c Try.call89 (ok_block_Round F k_1 x_9 x_8 _ e_x_652) [] [vi .u64 k_1, vi .i64 x_9, vi .u32 x_8] (vi .u32 x_652) (by kernel_rfl) (.inl rfl)) (by kernel_rfl) rfl (by kernel_rfl) ?_
                             exact SD.vie D_11 [.g 0] c_11_9 (by kernel_rfl)
                         · refine SD.lay 7 [I, I, O, O, I, I, I, O, O, O, O, O] [(0, vi .u64 k_1), (5, vp 0 0), (9, vi .i64 x_9), (13, vi .u32 x_8), (16, vi .u64 k_1), (17, vi .i64 x_9), (18, vp 0 1)] [.blk 115 [ci .u32 x_7, ci .u32 x_8]] ?_ (fun c_11_11 => ?_)
                           · refine SD.all2 (i := 2) (j := 7) (by kernel_rfl) ?_ ?_
                             · refine SW.eff D_11 (i := 2) (bs' := [I, I, I, O, I, I, I, O, O, O, O, O]) rfl (.inl rfl) rfl (e_ixa (off := 0) (T := 115) (cs := [ci .u32 x_7, ci .u32 x_8]) tk rfl rfl (by kernel_rfl) (by kernel_rfl)) (by kernel_rfl) rfl (by kernel_rfl) ?_
                               exact SD.vie D_11 [.g 0] c_11_7 (by kernel_rfl)
                             · refine SW.eff D_11 (i := 7) (v := vi .u32 x_8) (bs' := [I, I, O, O, I, I, I, I, O, O, O, O]) rfl (.inl rfl) rfl (e_val tk (by kernel_rfl)) (by kernel_rfl) rfl (by kernel_rfl) ?_
                               exact SD.vie D_11 [.g 0] c_11_10 (by kernel_rfl)
                           · refine SD.lay 8 [I, I, O, O, I, I, O, O, O, O, O, O] [(0, vi .u64 k_1), (5, vp 0 0), (9, vi .i64 x_9), (13, vi .u32 x_8), (16, vi .u64 k_1), (17, vi .i64 x_9)] [.blk 115 [ci .u32 x_7, ci .u32 x_8]] ?_ (fun c_11_12 => ?_)
                             · refine SD.all2 (i := 2) (j := 6) (by kernel_rfl) ?_ ?_
                               · refine SW.eff D_11 (i := 2) (bs' := [I, I, I, O, I, I, O, O, O, O, O, O]) rfl (.inl rfl) rfl (e_ixa (off := 0) (T := 115) (cs := [ci .u32 x_7, ci .u32 x_8]) tk rfl rfl (by kernel_rfl) (by kernel_rfl)) (by kernel_rfl) rfl (by kernel_rfl) ?_
                                 exact SD.vie D_11 [.g 0] c_11_8 (by kernel_rfl)
                               · refine SW.eff D_11 (i := 6) (bs' := [I, I, O, O, I, I, I, O, O, O, O, O]) rfl (.inl rfl) rfl (e_ixa (off := 1) (T := 115) (cs := [ci .u32 x_7, ci .u32 x_8]) tk rfl rfl (by kernel_rfl) (by kernel_rfl)) (by kernel_rfl) rfl (by kernel_rfl) ?_
                                 exact SD.vie D_11 [.g 0] c_11_11 (by kernel_rfl)
                             · refine SD.lay 3 [I, O, I, I, I, I, I, I, I, I, O, O] [(0, vi .u64 k_1), (5, vp 0 0), (9, vi .i64 x_9), (12, vp 0 1), (21, vi .u32 (ixor .u32 x_7 x_652))] [.blk 115 [ci .u32 x_7, ci .u32 x_8]] ?_ (fun c_11_13 => ?_)
                               · refine SD.all1 (i := 1) (by kernel_rfl) ?_
                                 refine SW.eff D_11 (i := 1) (v := vi .u32 x_8) (bs' := [I, I, I, I, I, I, I, I, I, I, O, O]) rfl (.inl rfl) rfl (e_val tk (by kernel_rfl)) (by kernel_rfl) rfl (by kernel_rfl) ?_
                                 refine SD.takes tk D_11 [] kn0 [10] [] [] [I, I, I, I, I, I, I, I, I, I, I, O] [(0, vi .u64 k_1), (5, vp 0 0), (9, vi .i64 x_9), (22, .g [ci .u32 x_8, ci .u32 (ixor .u32 x_7 x_652)])] rfl (by kernel_rfl) (by kernel_rfl) (by kernel_rfl) ?_
                                 exact SD.vie D_11 [.g 0] c_11_1 (by kernel_rfl)
                               · refine SD.lay 5 [I, O, I, I, I, I, I, I, O, O, O, O] [(0, vi .u64 k_1), (5, vp 0 0), (9, vi .i64 x_9), (12, vp 0 1), (15, vi .u32 x_7), (16, vi .u64 k_1), (17, vi .i64 x_9), (19, vi .u32 x_8)] [.blk 115 [ci .u32 x_7, ci .u32 x_8]] ?_ (fun c_11_14 => ?_)
                                 · refine SD.all2 (i := 1) (j := 8) (by kernel_rfl) ?_ ?_
                                   · refine SW.eff D_11 (i := 1) (v := vi .u32 x_8) (bs' := [I, I, I, I, I, I, I, I, O, O, O, O]) rfl (.inl rfl) rfl (e_val tk (by kernel_rfl)) (by kernel_rfl) rfl (by kernel_rfl) ?_
                                     exact SD.vie D_11 [.g 0] c_11_2 (by kernel_rfl)
                                   · refine SW.eff D_11 (i := 8) (bs' := [I, O, I, I, I, I, I, I, I, O, O, O]) rfl (.inl rfl) rfl (e_c Try.call89 (ok_block_Round F k_1 x_9 x_8 _ e_x_652) [] [vi .u64 k_1, vi .i64 x_9, vi .u32 x_8] (vi .u32 x_652) (by kernel_rfl) (.inl rfl)) (by kernel_rfl) rfl (by kernel_rfl) ?_
                                     refine SD.takes tk D_11 [] kn0 [9] [] [] [I, O, I, I, I, I, I, I, I, I, O, O] [(0, vi .u64 k_1), (5, vp 0 0), (9, vi .i64 x_9), (12, vp 0 1), (21, vi .u32 (ixor .u32 x_7 x_652))] rfl (by kernel_rfl) (by kernel_rfl) (by kernel_rfl) ?_
                                     exact SD.vie D_11 [.g 0] c_11_13 (by kernel_rfl)
                                 · refine SD.lay 6 [I, O, I, I, I, I, I, O, O, O, O, O] [(0, vi .u64 k_1), (5, vp 0 0), (9, vi .i64 x_9), (12, vp 0 1), (15, vi .u32 x_7), (16, vi .u64 k_1), (17, vi .i64 x_9), (18, vp 0 1)] [.blk 115 [ci .u32 x_7, ci .u32 x_8]] ?_ (fun c_11_15 => ?_)
                                   · refine SD.all2 (i := 1) (j := 7) (by kernel_rfl) ?_ ?_
                                     · refine SW.eff D_11 (i := 1) (v := vi .u32 x_8) (bs' := [I, I, I, I, I, I, I, O, O, O, O, O]) rfl (.inl rfl) rfl (e_val tk (by kernel_rfl)) (by kernel_rfl) rfl (by kernel_rfl) ?_
                                       exact SD.vie D_11 [.g 0] c_11_3 (by kernel_rfl)
                                     · refine SW.eff D_11 (i := 7) (v := vi .u32 x_8) (bs' := [I, O, I, I, I, I, I, I, O, O, O, O]) rfl (.inl rfl) rfl (e_val tk (by kernel_rfl)) (by kernel_rfl) rfl (by kernel_rfl) ?_
                                       exact SD.vie D_11 [.g 0] c_11_14 (by kernel_rfl)
                                   · refine SD.lay 7 [I, O, I, I, I, I, O, O, O, O, O, O] [(0, vi .u64 k_1), (5, vp 0 0), (9, vi .i64 x_9), (12, vp 0 1), (15, vi .u32 x_7), (16, vi .u64 k_1), (17, vi .i64 x_9)] [.blk 115 [ci .u32 x_7, ci .u32 x_8]] ?_ (fun c_11_16 => ?_)
                                     · refine SD.all2 (i := 1) (j := 6) (by kernel_rfl) ?_ ?_
                                       · refine SW.eff D_11 (i := 1) (v := vi .u32 x_8) (bs' := [I, I, I, I, I, I, O, O, O, O, O, O]) rfl (.inl rfl) rfl (e_val tk (by kernel_rfl)) (by kernel_rfl) rfl (by kernel_rfl) ?_
                                         exact SD.vie D_11 [.g 0] c_11_4 (by kernel_rfl)
                                       · refine SW.eff D_11 (i := 6) (bs' := [I, O, I, I, I, I, I, O, O, O, O, O]) rfl (.inl rfl) rfl (e_ixa (off := 1) (T := 115) (cs := [ci .u32 x_7, ci .u32 x_8]) tk rfl rfl (by kernel_rfl) (by kernel_rfl)) (by kernel_rfl) rfl (by kernel_rfl) ?_
                                         exact SD.vie D_11 [.g 0] c_11_15 (by kernel_rfl)
                                     · refine SD.lay 5 [I, O, I, O, I, I, I, I, I, O, O, O] [(0, vi .u64 k_1), (5, vp 0 0), (9, vi .i64 x_9), (12, vp 0 1), (14, vp 0 0), (20, vi .u32 x_652)] [.blk 115 [ci .u32 x_7, ci .u32 x_8]] ?_ (fun c_11_17 => ?_)
                                       · refine SD.all2 (i := 1) (j := 3) (by kernel_rfl) ?_ ?_
                                         · refine SW.eff D_11 (i := 1) (v := vi .u32 x_8) (bs' := [I, I, I, O, I, I, I, I, I, O, O, O]) rfl (.inl rfl) rfl (e_val tk (by kernel_rfl)) (by kernel_rfl) rfl (by kernel_rfl) ?_
                                           exact SD.vie D_11 [.g 0] c_11_5 (by kernel_rfl)
                                         · refine SW.eff D_11 (i := 3) (v := vi .u32 x_7) (bs' := [I, O, I, I, I, I, I, I, I, O, O, O]) rfl (.inl rfl) rfl (e_val tk (by kernel_rfl)) (by kernel_rfl) rfl (by kernel_rfl) ?_
                                           refine SD.takes tk D_11 [] kn0 [9] [] [] [I, O, I, I, I, I, I, I, I, I, O, O] [(0, vi .u64 k_1), (5, vp 0 0), (9, vi .i64 x_9), (12, vp 0 1), (21, vi .u32 (ixor .u32 x_7 x_652))] rfl (by kernel_rfl) (by kernel_rfl) (by kernel_rfl) ?_
                                           exact SD.vie D_11 [.g 0] c_11_13 (by kernel_rfl)
                                       · refine SD.lay 6 [I, O, I, O, I, I, I, I, O, O, O, O] [(0, vi .u64 k_1), (5, vp 0 0), (9, vi .i64 x_9), (12, vp 0 1), (14, vp 0 0), (16, vi .u64 k_1), (17, vi .i64 x_9), (19, vi .u32 x_8)] [.blk 115 [ci .u32 x_7, ci .u32 x_8]] ?_ (fun c_11_18 => ?_)
                                         · refine SD.all3 (i := 1) (j := 3) (k := 8) (by kernel_rfl) ?_ ?_ ?_
                                           · refine SW.eff D_11 (i := 1) (v := vi .u32 x_8) (bs' := [I, I, I, O, I, I, I, I, O, O, O, O]) rfl (.inl rfl) rfl (e_val tk (by kernel_rfl)) (by kernel_rfl) rfl (by kernel_rfl) ?_
                                             exact SD.vie D_11 [.g 0] c_11_6 (by kernel_rfl)
                                           · refine SW.eff D_11 (i := 3) (v := vi .u32 x_7) (bs' := [I, O, I, I, I, I, I, I, O, O, O, O]) rfl (.inl rfl) rfl (e_val tk (by kernel_rfl)) (by kernel_rfl) rfl (by kernel_rfl) ?_
                                             exact SD.vie D_11 [.g 0] c_11_14 (by kernel_rfl)
                                           · refine SW.eff D_11 (i := 8) (bs' := [I, O, I, O, I, I, I, I, I, O, O, O]) rfl (.inl rfl) rfl (e_c Try.call89 (ok_block_Round F k_1 x_9 x_8 _ e_x_652) [] [vi .u64 k_1, vi .i64 x_9, vi .u32 x_8] (vi .u32 x_652) (by kernel_rfl) (.inl rfl)) (by kernel_rfl) rfl (by kernel_rfl) ?_
                                             exact SD.vie D_11 [.g 0] c_11_17 (by kernel_rfl)
                                         · refine SD.lay 7 [I, O, I, O, I, I, I, O, O, O, O, O] [(0, vi .u64 k_1), (5, vp 0 0), (9, vi .i64 x_9), (12, vp 0 1), (14, vp 0 0), (16, vi .u64 k_1), (17, vi .i64 x_9), (18, vp 0 1)] [.blk 115 [ci .u32 x_7, ci .u32 x_8]] ?_ (fun c_11_19 => ?_)
                                           · refine SD.all3 (i := 1) (j := 3) (k := 7) (by kernel_rfl) ?_ ?_ ?_
                                             · refine SW.eff D_11 (i := 1) (v := vi .u32 x_8) (bs' := [I, I, I, O, I, I, I, O, O, O, O, O]) rfl (.inl rfl) rfl (e_val tk (by kernel_rfl)) (by kernel_rfl) rfl (by kernel_rfl) ?_
                                               exact SD.vie D_11 [.g 0] c_11_7 (by kernel_rfl)
                                             · refine SW.eff D_11 (i := 3) (v := vi .u32 x_7) (bs' := [I, O, I, I, I, I, I, O, O, O, O, O]) rfl (.inl rfl) rfl (e_val tk (by kernel_rfl)) (by kernel_rfl) rfl (by kernel_rfl) ?_
                                               exact SD.vie D_11 [.g 0] c_11_15 (by kernel_rfl)
                                             · refine SW.eff D_11 (i := 7) (v := vi .u32 x_8) (bs' := [I, O, I, O, I, I, I, I, O, O, O, O]) rfl (.inl rfl) rfl (e_val tk (by kernel_rfl)) (by kernel_rfl) rfl (by kernel_rfl) ?_
                                               exact SD.vie D_11 [.g 0] c_11_18 (by kernel_rfl)
                                           · refine SD.lay 8 [I, O, I, O, I, I, O, O, O, O, O, O] [(0, vi .u64 k_1), (5, vp 0 0), (9, vi .i64 x_9), (12, vp 0 1), (14, vp 0 0), (16, vi .u64 k_1), (17, vi .i64 x_9)] [.blk 115 [ci .u32 x_7, ci .u32 x_8]] ?_ (fun c_11_20 => ?_)
                                             · refine SD.all3 (i := 1) (j := 3) (k := 6) (by kernel_rfl) ?_ ?_ ?_
                                               · refine SW.eff D_11 (i := 1) (v := vi .u32 x_8) (bs' := [I, I, I, O, I, I, O, O, O, O, O, O]) rfl (.inl rfl) rfl (e_val tk (by kernel_rfl)) (by kernel_rfl) rfl (by kernel_rfl) ?_
                                                 exact SD.vie D_11 [.g 0] c_11_8 (by kernel_rfl)
                                               · refine SW.eff D_11 (i := 3) (v := vi .u32 x_7) (bs' := [I, O, I, I, I, I, O, O, O, O, O, O]) rfl (.inl rfl) rfl (e_val tk (by kernel_rfl)) (by kernel_rfl) rfl (by kernel_rfl) ?_
                                                 exact SD.vie D_11 [.g 0] c_11_16 (by kernel_rfl)
                                               · refine SW.eff D_11 (i := 6) (bs' := [I, O, I, O, I, I, I, O, O, O, O, O]) rfl (.inl rfl) rfl (e_ixa (off := 1) (T := 115) (cs := [ci .u32 x_7, ci .u32 x_8]) tk rfl rfl (by kernel_rfl) (by kernel_rfl)) (by kernel_rfl) rfl (by kernel_rfl) ?_
                                                 exact SD.vie D_11 [.g 0] c_11_19 (by kernel_rfl)
                                             · refine SD.lay 6 [I, O, O, O, I, I, I, I, I, O, O, O] [(0, vi .u64 k_1), (5, vp 0 0), (9, vi .i64 x_9), (12, vp 0 1), (20, vi .u32 x_652)] [.blk 115 [ci .u32 x_7, ci .u32 x_8]] ?_ (fun c_11_21 => ?_)
                                               · refine SD.all2 (i := 1) (j := 2) (by kernel_rfl) ?_ ?_
                                                 · refine SW.eff D_11 (i := 1) (v := vi .u32 x_8) (bs' := [I, I, O, O, I, I, I, I, I, O, O, O]) rfl (.inl rfl) rfl (e_val tk (by kernel_rfl)) (by kernel_rfl) rfl (by kernel_rfl) ?_
                                                   exact SD.vie D_11 [.g 0] c_11_9 (by kernel_rfl)
                                                 · refine SW.eff D_11 (i := 2) (bs' := [I, O, I, O, I, I, I, I, I, O, O, O]) rfl (.inl rfl) rfl (e_ixa (off := 0) (T := 115) (cs := [ci .u32 x_7, ci .u32 x_8]) tk rfl rfl (by kernel_rfl) (by kernel_rfl)) (by kernel_rfl) rfl (by kernel_rfl) ?_
                                                   exact SD.vie D_11 [.g 0] c_11_17 (by kernel_rfl)
                                               · refine SD.lay 7 [I, O, O, O, I, I, I, I, O, O, O, O] [(0, vi .u64 k_1), (5, vp 0 0), (9, vi .i64 x_9), (12, vp 0 1), (16, vi .u64 k_1), (17, vi .i64 x_9), (19, vi .u32 x_8)] [.blk 115 [ci .u32 x_7, ci .u32 x_8]] ?_ (fun c_11_22 => ?_)
                                                 · refine SD.all3 (i := 1) (j := 2) (k := 8) (by kernel_rfl) ?_ ?_ ?_
                                                   · refine SW.eff D_11 (i := 1) (v := vi .u32 x_8) (bs' := [I, I, O, O, I, I, I, I, O, O, O, O]) rfl (.inl rfl) rfl (e_val tk (by kernel_rfl)) (by kernel_rfl) rfl (by kernel_rfl) ?_
                                                     exact SD.vie D_11 [.g 0] c_11_10 (by kernel_rfl)
                                                   · refine SW.eff D_11 (i := 2) (bs' := [I, O, I, O, I, I, I, I, O, O, O, O]) rfl (.inl rfl) rfl (e_ixa (off := 0) (T := 115) (cs := [ci .u32 x_7, ci .u32 x_8]) tk rfl rfl (by kernel_rfl) (by kernel_rfl)) (by kernel_rfl) rfl (by kernel_rfl) ?_
                                                     exact SD.vie D_11 [.g 0] c_11_18 (by kernel_rfl)
                                                   · refine SW.eff D_11 (i := 8) (bs' := [I, O, O, O, I, I, I, I, I, O, O, O]) rfl (.inl rfl) rfl (e_c Try.call89 (ok_block_Round F k_1 x_9 x_8 _ e_x_652) [] [vi .u64 k_1, vi .i64 x_9, vi .u32 x_8] (vi .u32 x_652) (by kernel_rfl) (.inl rfl)) (by kernel_rfl) rfl (by kernel_rfl) ?_
                                                     exact SD.vie D_11 [.g 0] c_11_21 (by kernel_rfl)
                                                 · refine SD.lay 8 [I, O, O, O, I, I, I, O, O, O, O, O] [(0, vi .u64 k_1), (5, vp 0 0), (9, vi .i64 x_9), (12, vp 0 1), (16, vi .u64 k_1), (17, vi .i64 x_9), (18, vp 0 1)] [.blk 115 [ci .u32 x_7, ci .u32 x_8]] ?_ (fun c_11_23 => ?_)
                                                   · refine SD.all3 (i := 1) (j := 2) (k := 7) (by kernel_rfl) ?_ ?_ ?_
                                                     · refine SW.eff D_11 (i := 1) (v := vi .u32 x_8) (bs' := [I, I, O, O, I, I, I, O, O, O, O, O]) rfl (.inl rfl) rfl (e_val tk (by kernel_rfl)) (by kernel_rfl) rfl (by kernel_rfl) ?_
                                                       exact SD.vie D_11 [.g 0] c_11_11 (by kernel_rfl)
                                                     · refine SW.eff D_11 (i := 2) (bs' := [I, O, I, O, I, I, I, O, O, O, O, O]) rfl (.inl rfl) rfl (e_ixa (off := 0) (T := 115) (cs := [ci .u32 x_7, ci .u32 x_8]) tk rfl rfl (by kernel_rfl) (by kernel_rfl)) (by kernel_rfl) rfl (by kernel_rfl) ?_
                                                       exact SD.vie D_11 [.g 0] c_11_19 (by kernel_rfl)
                                                     · refine SW.eff D_11 (i := 7) (v := vi .u32 x_8) (bs' := [I, O, O, O, I, I, I, I, O, O, O, O]) rfl (.inl rfl) rfl (e_val tk (by kernel_rfl)) (by kernel_rfl) rfl (by kernel_rfl) ?_
                                                       exact SD.vie D_11 [.g 0] c_11_22 (by kernel_rfl)
                                                   · refine SD.lay 9 [I, O, O, O, I, I, O, O, O, O, O, O] [(0, vi .u64 k_1), (5, vp 0 0), (9, vi .i64 x_9), (12, vp 0 1), (16, vi .u64 k_1), (17, vi .i64 x_9)] [.blk 115 [ci .u32 x_7, ci .u32 x_8]] ?_ (fun c_11_24 => ?_)
                                                     · refine SD.all3 (i := 1) (j := 2) (k := 6) (by kernel_rfl) ?_ ?_ ?_
                                                       · refine SW.eff D_11 (i := 1) (v := vi .u32 x_8) (bs' := [I, I, O, O, I, I, O, O, O, O, O, O]) rfl (.inl rfl) rfl (e_val tk (by kernel_rfl)) (by kernel_rfl) rfl (by kernel_rfl) ?_
                                                         exact SD.vie D_11 [.g 0] c_11_12 (by kernel_rfl)
                                                       · refine SW.eff D_11 (i := 2) (bs' := [I, O, I, O, I, I, O, O, O, O, O, O]) rfl (.inl rfl) rfl (e_ixa (off := 0) (T := 115) (cs := [ci .u32 x_7, ci .u32 x_8]) tk rfl rfl (by kernel_rfl) (by kernel_rfl)) (by kernel_rfl) rfl (by kernel_rfl) ?_
                                                         exact SD.vie D_11 [.g 0] c_11_20 (by kernel_rfl)
                                                       · refine SW.eff D_11 (i := 6) (bs' := [I, O, O, O, I, I, I, O, O, O, O, O]) rfl (.inl rfl) rfl (e_ixa (off := 1) (T := 115) (cs := [ci .u32 x_7, ci .u32 x_8]) tk rfl rfl (by kernel_rfl) (by kernel_rfl)) (by kernel_rfl) rfl (by kernel_rfl) ?_
                                                         exact SD.vie D_11 [.g 0] c_11_23 (by kernel_rfl)
                                                     · refine SD.lay 4 [O, O, I, I, I, I, I, I, I, I, O, O] [(0, vi .u64 k_1), (5, vp 0 0), (9, vi .i64 x_9), (21, vi .u32 (ixor .u32 x_7 x_652))] [.blk 115 [ci .u32 x_7, ci .u32 x_8]] ?_ (fun c_11_25 => ?_)
                                                       · refine SD.all1 (i := 0) (by kernel_rfl) ?_
                                                         refine SW.eff D_11 (i := 0) (bs' := [I, O, I, I, I, I, I, I, I, I, O, O]) rfl (.inl rfl) rfl (e_ixa (off := 1) (T := 115) (cs := [ci .u32 x_7, ci .u32 x_8]) tk rfl rfl (by kernel_rfl) (by kernel_rfl)) (by kernel_rfl) rfl (by kernel_rfl) ?_
                                                         exact SD.vie D_11 [.g 0] c_11_13 (by kernel_rfl)
                                                       · refine SD.lay 6 [O, O, I, I, I, I, I, I, O, O, O, O] [(0, vi .u64 k_1), (5, vp 0 0), (9, vi .i64 x_9), (15, vi .u32 x_7), (16, vi .u64 k_1), (17, vi .i64 x_9), (19, vi .u32 x_8)] [.blk 115 [ci .u32 x_7, ci .u32 x_8]] ?_ (fun c_11_26 => ?_)
                                                         · refine SD.all2 (i := 0) (j := 8) (by kernel_rfl) ?_ ?_
                                                           · refine SW.eff D_11 (i := 0) (bs' := [I, O, I, I, I, I, I, I, O, O, O, O]) rfl (.inl rfl) rfl (e_ixa (off := 1) (T := 115) (cs := [ci .u32 x_7, ci .u32 x_8]) tk rfl rfl (by kernel_rfl) (by kernel_rfl)) (by kernel_rfl) rfl (by kernel_rfl) ?_
                                                             exact SD.vie D_11 [.g 0] c_11_14 (by kernel_rfl)
                                                           · refine SW.eff D_11 (i := 8) (bs' := [O, O, I, I, I, I, I, I, I, O, O, O]) rfl (.inl rfl) rfl (e_c Try.call89 (ok_block_Round F k_1 x_9 x_8 _ e_x_652) [] [vi .u64 k_1, vi .i64 x_9, vi .u32 x_8] (vi .u32 x_652) (by kernel_rfl) (.inl rfl)) (by kernel_rfl) rfl (by kernel_rfl) ?_
                                                             refine SD.takes tk D_11 [] kn0 [9] [] [] [O, O, I, I, I, I, I, I, I, I, O, O] [(0, vi .u64 k_1), (5, vp 0 0), (9, vi .i64 x_9), (21, vi .u32 (ixor .u32 x_7 x_652))] rfl (by kernel_rfl) (by kernel_rfl) (by kernel_rfl) ?_
                                                             exact SD.vie D_11 [.g 0] c_11_25 (by kernel_rfl)
                                                         · refine SD.lay 7 [O, O, I, I, I, I, I, O, O, O, O, O] [(0, vi .u64 k_1), (5, vp 0 0), (9, vi .i64 x_9), (15, vi .u32 x_7), (16, vi .u64 k_1), (17, vi .i64 x_9), (18, vp 0 1)] [.blk 115 [ci .u32 x_7, ci .u32 x_8]] ?_ (fun c_11_27 => ?_)
                                                           · refine SD.all2 (i := 0) (j := 7) (by kernel_rfl) ?_ ?_
                                                             · refine SW.eff D_11 (i := 0) (bs' := [I, O, I, I, I, I, I, O, O, O, O, O]) rfl (.inl rfl) rfl (e_ixa (off := 1) (T := 115) (cs := [ci .u32 x_7, ci .u32 x_8]) tk rfl rfl (by kernel_rfl) (by kernel_rfl)) (by kernel_rfl) rfl (by kernel_rfl) ?_
                                                               exact SD.vie D_11 [.g 0] c_11_15 (by kernel_rfl)
                                                             · refine SW.eff D_11 (i := 7) (v := vi .u32 x_8) (bs' := [O, O, I, I, I, I, I, I, O, O, O, O]) rfl (.inl rfl) rfl (e_val tk (by kernel_rfl)) (by kernel_rfl) rfl (by kernel_rfl) ?_
                                                               exact SD.vie D_11 [.g 0] c_11_26 (by kernel_rfl)
                                                           · refine SD.lay 8 [O, O, I, I, I, I, O, O, O, O, O, O] [(0, vi .u64 k_1), (5, vp 0 0), (9, vi .i64 x_9), (15, vi .u32 x_7), (16, vi .u64 k_1), (17, vi .i64 x_9)] [.blk 115 [ci .u32 x_7, ci .u32 x_8]] ?_ (fun c_11_28 => ?_)
                                                             · refine SD.all2 (i := 0) (j := 6) (by kernel_rfl) ?_ ?_
                                                               · refine SW.eff D_11 (i := 0) (bs' := [I, O, I, I, I, I, O, O, O, O, O, O]) rfl (.inl rfl) rfl (e_ixa (off := 1) (T := 115) (cs := [ci .u32 x_7, ci .u32 x_8]) tk rfl rfl (by kernel_rfl) (by kernel_rfl)) (by kernel_rfl) rfl (by kernel_rfl) ?_
                                                                 exact SD.vie D_11 [.g 0] c_11_16 (by kernel_rfl)
                                                               · refine SW.eff D_11 (i := 6) (bs' := [O, O, I, I, I, I, I, O, O, O, O, O]) rfl (.inl rfl) rfl (e_ixa (off := 1) (T := 115) (cs := [ci .u32 x_7, ci .u32 x_8]) tk rfl rfl (by kernel_rfl) (by kernel_rfl)) (by kernel_rfl) rfl (by kernel_rfl) ?_
                                                                 exact SD.vie D_11 [.g 0] c_11_27 (by kernel_rfl)
                                                             · refine SD.lay 6 [O, O, I, O, I, I, I, I, I, O, O, O] [(0, vi .u64 k_1), (5, vp 0 0), (9, vi .i64 x_9), (14, vp 0 0), (20, vi .u32 x_652)] [.blk 115 [ci .u32 x_7, ci .u32 x_8]] ?_ (fun c_11_29 => ?_)
                                                               · refine SD.all2 (i := 0) (j := 3) (by kernel_rfl) ?_ ?_
                                                                 · refine SW.eff D_11 (i := 0) (bs' := [I, O, I, O, I, I, I, I, I, O, O, O]) rfl (.inl rfl) rfl (e_ixa (off := 1) (T := 115) (cs := [ci .u32 x_7, ci .u32 x_8]) tk rfl rfl (by kernel_rfl) (by kernel_rfl)) (by kernel_rfl) rfl (by kernel_rfl) ?_
                                                                   exact SD.vie D_11 [.g 0] c_11_17 (by kernel_rfl)
                                                                 · refine SW.eff D_11 (i := 3) (v := vi .u32 x_7) (bs' := [O, O, I, I, I, I, I, I, I, O, O, O]) rfl (.inl rfl) rfl (e_val tk (by kernel_rfl)) (by kernel_rfl) rfl (by kernel_rfl) ?_
                                                                   refine SD.takes tk D_11 [] kn0 [9] [] [] [O, O, I, I, I, I, I, I, I, I, O, O] [(0, vi .u64 k_1), (5, vp 0 0), (9, vi .i64 x_9), (21, vi .u32 (ixor .u32 x_7 x_652))] rfl (by kernel_rfl) (by kernel_rfl) (by kernel_rfl) ?_
                                                                   exact SD.vie D_11 [.g 0] c_11_25 (by kernel_rfl)
                                                               · refine SD.lay 7 [O, O, I, O, I, I, I, I, O, O, O, O] [(0, vi .u64 k_1), (5, vp 0 0), (9, vi .i64 x_9), (14, vp 0 0), (16, vi .u64 k_1), (17, vi .i64 x_9), (19, vi .u32 x_8)] [.blk 115 [ci .u32 x_7, ci .u32 x_8]] ?_ (fun c_11_30 => ?_)
                                                                 · refine SD.all3 (i := 0) (j := 3) (k := 8) (by kernel_rfl) ?_ ?_ ?_
                                                                   · refine SW.eff D_11 (i := 0) (bs' := [I, O, I, O, I, I, I, I, O, O, O, O]) rfl (.inl rfl) rfl (e_ixa (off := 1) (T := 115) (cs := [ci .u32 x_7, ci .u32 x_8]) tk rfl rfl (by kernel_rfl) (by kernel_rfl)) (by kernel_rfl) rfl (by kernel_rfl) ?_
                                                                     exact SD.vie D_11 [.g 0] c_11_18 (by kernel_rfl)
                                                                   · refine SW.eff D_11 (i := 3) (v := vi .u32 x_7) (bs' := [O, O, I, I, I, I, I, I, O, O, O, O]) rfl (.inl rfl) rfl (e_val tk (by kernel_rfl)) (by kernel_rfl) rfl (by kernel_rfl) ?_
                                                                     exact SD.vie D_11 [.g 0] c_11_26 (by kernel_rfl)
                                                                   · refine SW.eff D_11 (i := 8) (bs' := [O, O, I, O, I, I, I, I, I, O, O, O]) rfl (.inl rfl) rfl (e_c Try.call89 (ok_block_Round F k_1 x_9 x_8 _ e_x_652) [] [vi .u64 k_1, vi .i64 x_9, vi .u32 x_8] (vi .u32 x_652) (by kernel_rfl) (.inl rfl)) (by kernel_rfl) rfl (by kernel_rfl) ?_
                                                                     exact SD.vie D_11 [.g 0] c_11_29 (by kernel_rfl)
                                                                 · refine SD.lay 8 [O, O, I, O, I, I, I, O, O, O, O, O] [(0, vi .u64 k_1), (5, vp 0 0), (9, vi .i64 x_9), (14, vp 0 0), (16, vi .u64 k_1), (17, vi .i64 x_9), (18, vp 0 1)] [.blk 115 [ci .u32 x_7, ci .u32 x_8]] ?_ (fun c_11_31 => ?_)
                                                                   · refine SD.all3 (i := 0) (j := 3) (k := 7) (by kernel_rfl) ?_ ?_ ?_
                                                                     · refine SW.eff D_11 (i := 0) (bs' := [I, O, I, O, I, I, I, O, O, O, O, O]) rfl (.inl rfl) rfl (e_ixa (off := 1) (T := 115) (cs := [ci .u32 x_7, ci .u32 x_8]) tk rfl rfl (by kernel_rfl) (by kernel_rfl)) (by kernel_rfl) rfl (by kernel_rfl) ?_
                                                                       exact SD.vie D_11 [.g 0] c_11_19 (by kernel_rfl)
                                                                     · refine SW.eff D_11 (i := 3) (v := vi .u32 x_7) (bs' := [O, O, I, I, I, I, I, O, O, O, O, O]) rfl (.inl rfl) rfl (e_val tk (by kernel_rfl)) (by kernel_rfl) rfl (by kernel_rfl) ?_
                                                                       exact SD.vie D_11 [.g 0] c_11_27 (by kernel_rfl)
                                                                     · refine SW.eff D_11 (i := 7) (v := vi .u32 x_8) (bs' := [O, O, I, O, I, I, I, I, O, O, O, O]) rfl (.inl rfl) rfl (e_val tk (by kernel_rfl)) (by kernel_rfl) rfl (by kernel_rfl) ?_
                                                                       exact SD.vie D_11 [.g 0] c_11_30 (by kernel_rfl)
                                                                   · refine SD.lay 9 [O, O, I, O, I, I, O, O, O, O, O, O] [(0, vi .u64 k_1), (5, vp 0 0), (9, vi .i64 x_9), (14, vp 0 0), (16, vi .u64 k_1), (17, vi .i64 x_9)] [.blk 115 [ci .u32 x_7, ci .u32 x_8]] ?_ (fun c_11_32 => ?_)
                                                                     · refine SD.all3 (i := 0) (j := 3) (k := 6) (by kernel_rfl) ?_ ?_ ?_
                                                                       · refine SW.eff D_11 (i := 0) (bs' := [I, O, I, O, I, I, O, O, O, O, O, O]) rfl (.inl rfl) rfl (e_ixa (off := 1) (T := 115) (cs := [ci .u32 x_7, ci .u32 x_8]) tk rfl rfl (by kernel_rfl) (by kernel_rfl)) (by kernel_rfl) rfl (by kernel_rfl) ?_
                                                                         exact SD.vie D_11 [.g 0] c_11_20 (by kernel_rfl)
                                                                       · refine SW.eff D_11 (i := 3) (v := vi .u32 x_7) (bs' := [O, O, I, I, I, I, O, O, O, O, O, O]) rfl (.inl rfl) rfl (e_val tk (by kernel_rfl)) (by kernel_rfl) rfl (by kernel_rfl) ?_
                                                                         exact SD.vie D_11 [.g 0] c_11_28 (by kernel_rfl)
                                                                       · refine SW.eff D_11 (i := 6) (bs' := [O, O, I, O, I, I, I, O, O, O, O, O]) rfl (.inl rfl) rfl (e_ixa (off := 1) (T := 115) (cs := [ci .u32 x_7, ci .u32 x_8]) tk rfl rfl (by kernel_rfl) (by kernel_rfl)) (by kernel_rfl) rfl (by kernel_rfl) ?_
                                                                         exact SD.vie D_11 [.g 0] c_11_31 (by kernel_rfl)
                                                                     · refine SD.lay 7 [O, O, O, O, I, I, I, I, I, O, O, O] [(0, vi .u64 k_1), (5, vp 0 0), (9, vi .i64 x_9), (20, vi .u32 x_652)] [.blk 115 [ci .u32 x_7, ci .u32 x_8]] ?_ (fun c_11_33 => ?_)
                                                                       · refine SD.all2 (i := 0) (j := 2) (by kernel_rfl) ?_ ?_
                                                                         · refine SW.eff D_11 (i := 0) (bs' := [I, O, O, O, I, I, I, I, I, O, O, O]) rfl (.inl rfl) rfl (e_ixa (off := 1) (T := 115) (cs := [ci .u32 x_7, ci .u32 x_8]) tk rfl rfl (by kernel_rfl) (by kernel_rfl)) (by kernel_rfl) rfl (by kernel_rfl) ?_
                                                                           exact SD.vie D_11 [.g 0] c_11_21 (by kernel_rfl)
                                                                         · refine SW.eff D_11 (i := 2) (bs' := [O, O, I, O, I, I, I, I, I, O, O, O]) rfl (.inl rfl) rfl (e_ixa (off := 0) (T := 115) (cs := [ci .u32 x_7, ci .u32 x_8]) tk rfl rfl (by kernel_rfl) (by kernel_rfl)) (by kernel_rfl) rfl (by kernel_rfl) ?_
                                                                           exact SD.vie D_11 [.g 0] c_11_29 (by kernel_rfl)
                                                                       · refine SD.lay 8 [O, O, O, O, I, I, I, I, O, O, O, O] [(0, vi .u64 k_1), (5, vp 0 0), (9, vi .i64 x_9), (16, vi .u64 k_1), (17, vi .i64 x_9), (19, vi .u32 x_8)] [.blk 115 [ci .u32 x_7, ci .u32 x_8]] ?_ (fun c_11_34 => ?_)
                                                                         · refine SD.all3 (i := 0) (j := 2) (k := 8) (by kernel_rfl) ?_ ?_ ?_
                                                                           · refine SW.eff D_11 (i := 0) (bs' := [I, O, O, O, I, I, I, I, O, O, O, O]) rfl (.inl rfl) rfl (e_ixa (off := 1) (T := 115) (cs := [ci .u32 x_7, ci .u32 x_8]) tk rfl rfl (by kernel_rfl) (by kernel_rfl)) (by kernel_rfl) rfl (by kernel_rfl) ?_
                                                                             exact SD.vie D_11 [.g 0] c_11_22 (by kernel_rfl)
                                                                           · refine SW.eff D_11 (i := 2) (bs' := [O, O, I, O, I, I, I, I, O, O, O, O]) rfl (.inl rfl) rfl (e_ixa (off := 0) (T := 115) (cs := [ci .u32 x_7, ci .u32 x_8]) tk rfl rfl (by kernel_rfl) (by kernel_rfl)) (by kernel_rfl) rfl (by kernel_rfl) ?_
                                                                             exact SD.vie D_11 [.g 0] c_11_30 (by kernel_rfl)
                                                                           · refine SW.eff D_11 (i := 8) (bs' := [O, O, O, O, I, I, I, I, I, O, O, O]) rfl (.inl rfl) rfl (e_c Try.call89 (ok_block_Round F k_1 x_9 x_8 _ e_x_652) [] [vi .u64 k_1, vi .i64 x_9, vi .u32 x_8] (vi .u32 x_652) (by kernel_rfl) (.inl rfl)) (by kernel_rfl) rfl (by kernel_rfl) ?_
                                                                             exact SD.vie D_11 [.g 0] c_11_33 (by kernel_rfl)
                                                                         · refine SD.lay 9 [O, O, O, O, I, I, I, O, O, O, O, O] [(0, vi .u64 k_1), (5, vp 0 0), (9, vi .i64 x_9), (16, vi .u64 k_1), (17, vi .i64 x_9), (18, vp 0 1)] [.blk 115 [ci .u32 x_7, ci .u32 x_8]] ?_ (fun c_11_35 => ?_)
                                                                           · refine SD.all3 (i := 0) (j := 2) (k := 7) (by kernel_rfl) ?_ ?_ ?_
                                                                             · refine SW.eff D_11 (i := 0) (bs' := [I, O, O, O, I, I, I, O, O, O, O, O]) rfl (.inl rfl) rfl (e_ixa (off := 1) (T := 115) (cs := [ci .u32 x_7, ci .u32 x_8]) tk rfl rfl (by kernel_rfl) (by kernel_rfl)) (by kernel_rfl) rfl (by kernel_rfl) ?_
                                                                               exact SD.vie D_11 [.g 0] c_11_23 (by kernel_rfl)
                                                                             · refine SW.eff D_11 (i := 2) (bs' := [O, O, I, O, I, I, I, O, O, O, O, O]) rfl (.inl rfl) rfl (e_ixa (off := 0) (T := 115) (cs := [ci .u32 x_7, ci .u32 x_8]) tk rfl rfl (by kernel_rfl) (by kernel_rfl)) (by kernel_rfl) rfl (by kernel_rfl) ?_
                                                                               exact SD.vie D_11 [.g 0] c_11_31 (by kernel_rfl)
                                                                             · refine SW.eff D_11 (i := 7) (v := vi .u32 x_8) (bs' := [O, O, O, O, I, I, I, I, O, O, O, O]) rfl (.inl rfl) rfl (e_val tk (by kernel_rfl)) (by kernel_rfl) rfl (by kernel_rfl) ?_
                                                                               exact SD.vie D_11 [.g 0] c_11_34 (by kernel_rfl)
                                                                           · refine SD.all3 (i := 0) (j := 2) (k := 6) (by kernel_rfl) ?_ ?_ ?_
                                                                             · refine SW.eff D_11 (i := 0) (bs' := [I, O, O, O, I, I, O, O, O, O, O, O]) rfl (.inl rfl) rfl (e_ixa (off := 1) (T := 115) (cs := [ci .u32 x_7, ci .u32 x_8]) tk rfl rfl (by kernel_rfl) (by kernel_rfl)) (by kernel_rfl) rfl (by kernel_rfl) ?_
                                                                               exact SD.vie D_11 [.g 0] c_11_24 (by kernel_rfl)
                                                                             · refine SW.eff D_11 (i := 2) (bs' := [O, O, I, O, I, I, O, O, O, O, O, O]) rfl (.inl rfl) rfl (e_ixa (off := 0) (T := 115) (cs := [ci .u32 x_7, ci .u32 x_8]) tk rfl rfl (by kernel_rfl) (by kernel_rfl)) (by kernel_rfl) rfl (by kernel_rfl) ?_
                                                                               exact SD.vie D_11 [.g 0] c_11_32 (by kernel_rfl)
                                                                             · refine SW.eff D_11 (i := 6) (bs' := [O, O, O, O, I, I, I, O, O, O, O, O]) rfl (.inl rfl) rfl (e_ixa (off := 1) (T := 115) (cs := [ci .u32 x_7, ci .u32 x_8]) tk rfl rfl (by kernel_rfl) (by kernel_rfl)) (by kernel_rfl) rfl (by kernel_rfl) ?_
                                                                               exact SD.vie D_11 [.g 0] c_11_35 (by kernel_rfl)
   · refine SC.exitJ rfl fun a w h => ?_
     have ho := done_inv hp hs1
     replace hp := ho1
     try rw [ho] at hp
     exact ⟨x_7, x_8, hp, h.at (js := [.g 0]) (by kernel_rfl)⟩
 · rintro a w ⟨x_4, x_5, hp, h⟩
   refine h.go ?_
   refine SC.seq ?_
   refine SC.reg ?_
   refine SL.sim tk 1 [(24, .g [ci .u32 x_4, ci .u32 x_5])] [] [] [] (by kernel_rfl) ?_
   obtain ⟨x_6, e_x_6, hp⟩ := bind_inv hp
   refine SL.eff (e_c Try.call90 (ok_block_halves_join F (x_4, x_5) _ e_x_6) [] [.g [ci .u32 x_4, ci .u32 x_5]] (vi .u64 x_6) (by kernel_rfl) (.inl rfl)) rfl (by kernel_rfl) ?_
   refine SL.sim tk 1 [(4, vi .u64 x_6)] [] [] [] (by kernel_rfl) ?_
   refine SL.nilThen ?_
   obtain rfl := some_inv' hp
   exact SC.re (js := []) tk (by kernel_rfl)

theorem ok_mac_groups (p0 : (List Int)) : Spec Try.prog 81 [vs 0] [.rd 1 R8 p0] (.f 91 [.p 1 0]) [.rd 1 R8 p0, .blk 37 [.s 0]] := by
 refine Spec.enter Try.func81 rfl Try.ntmps81 rfl rfl fun fx => ?_
 refine SC.seq ?_
 refine SC.reg ?_
 refine SL.eff (e_box (E := 37) [.s 0] (by kernel_rfl)) rfl (by kernel_rfl) ?_
 refine SL.sim tk 1 [(1, vp 1 0)] [] [] [] (by kernel_rfl) ?_
 refine SL.nilThen ?_
 refine SC.seq ?_
 refine SC.reg ?_
 refine SL.sim tk 2 [(2, .f 91 [.p 1 0])] [] [] [] (by kernel_rfl) ?_
 refine SL.nilThen ?_
 exact SC.re (js := [.g 0, .g 1]) tk (by kernel_rfl)

theorem ok_mac_Tag (F : Nat) (k_1 : Int) (b_2 : (List Int)) (r : Int) (hp : mac_Tag F k_1 b_2 = some r) : Spec Try.prog 61 [vi .u64 k_1, vs 0] [.rd 1 R8 b_2] (vi .u64 r) [.gone] := by
 refine Spec.enterM Try.func61 rfl Try.ntmps61 rfl rfl fun fx => ?_
 refine SC.seq ?_
 refine SC.reg ?_
 refine SL.eff (e_box (E := 55) [ci .u64 k_1] (by kernel_rfl)) rfl (by kernel_rfl) ?_
 refine SL.sim tk 1 [(1, vs 0), (2, vp 1 0)] [] [] [] (by kernel_rfl) ?_
 refine SL.nilThen ?_
 refine SC.seq ?_
 refine SC.reg ?_
 refine SL.sim tk 4 [(1, vs 0), (2, vp 1 0), (7, vi .u64 k_1), (10, vi .u64 (wu64 (len b_2)))] [] [] [] (by kernel_rfl) ?_
 obtain ⟨x_3, e_x_3, hp⟩ := bind_inv hp
 refine SL.eff (e_c Try.call80 (ok_block_Mix F k_1 (wu64 (len b_2)) _ e_x_3) [] [vi .u64 k_1, vi .u64 (wu64 (len b_2))] (vi .u64 x_3) (by kernel_rfl) (.inl rfl)) rfl (by kernel_rfl) ?_
 refine SL.eff (e_alloc (E := 34) tk [ci .u64 0] (by kernel_rfl)) rfl (by kernel_rfl) ?_
 refine SL.norm (itsN := [.rd 1 R8 b_2, .blk 55 [ci .u64 k_1], .blk 34 [ci .u64 0]]) (by kernel_rfl) ?_
 refine SL.sim tk 1 [(1, vs 0), (2, vp 1 0), (5, vp 2 0)] [(2, 34, [ci .u64 x_3])] [] [] (by kernel_rfl) ?_
 refine SL.nilThen ?_
 refine SC.seq ?_
 refine SC.seq ?_
 refine SC.reg ?_
 refine SL.sim tk 1 [(2, vp 1 0), (5, vp 2 0), (12, vs 0)] [] [] [] (by kernel_rfl) ?_
 refine SL.eff (e_c Try.call81 (ok_mac_groups b_2) [.g 0] [vs 0] (.f 91 [.p 3 0]) (by kernel_rfl) (.inl rfl)) rfl (by kernel_rfl) ?_
 refine SL.nilThen ?_
 obtain ⟨o_4, e_o_4, hp⟩ := bind_inv hp
 refine SC.mk fun a w h => (show A 21 1 fx [(2, vp 1 0), (5, vp 2 0), (13, .f 91 [.p 3 0])] [.gone, .blk 55 [ci .u64 k_1], .blk 34 [ci .u64 x_3], .blk 37 [.s 4], .rd 1 R8 b_2] a w from h.at (js := [.g 0, .g 1, .g 2, .g 3, .g 0]) (by kernel_rfl)).go ?_
 refine SC.range (pl := [14]) (itsE := [.gone, .gone, .blk 34 [ci .u64 o_4], .gone, .gone]) (its2 := [.gone, .gone, .blk 34 [ci .u64 o_4], .gone, .gone]) (envR := [(5, vp 2 0)]) (env2 := [(4, vi .u64 o_4)]) rfl Try.call91 Try.func91 rfl Try.ntmps91 rfl rfl rfl rfl rfl rfl (fun fx l rec hu hx hw hst hpe hpl has hbo hS => ?_) (fun fx => ?_) rfl (fun a w h => ?_)
 · replace hp := e_o_4
   refine SC.r tk [(0, yv l), (1, vp 3 0), (3, vi .i64 0)] [] [] [] (by kernel_rfl) ?_
   refine SC.block ?_
   obtain ⟨o1, hi1, ho1⟩ := bind_inv hp
   clear hp
   refine SC.loop (fun n a w => ∃ (x_6 : Int) (x_7 : Int), iter (fun s => mac_Tag_it_l1 F k_1 b_2 s.1 s.2) n (x_6, x_7) = some o1 ∧ A 39 5 fx [(0, yv l), (1, vp 3 0), (3, vi .i64 x_7)] [.gone, .blk 55 [ci .u64 k_1], .blk 34 [ci .u64 x_6], .blk 37 [.s 4], .rd 1 R8 b_2] a w) F (fun a w h => ⟨x_3, 0, hi1, h.at (js := [.g 0, .g 1, .g 2, .g 3, .g 4]) (by kernel_rfl)⟩) ?_
   rintro n1 a w ⟨x_6, x_7, hi1, h⟩
   obtain ⟨n1, q1, rfl, hp, hs1⟩ := iter_inv hi1
   replace hp : mac_Tag_it_l1 F k_1 b_2 x_6 x_7 = some q1 := hp
   clear hi1
   refine h.go ?_
   refine SC.seq ?_
   refine SC.r tk [(0, yv l), (1, vp 3 0), (3, vi .i64 x_7), (10, vb (decide (x_7 < (len b_2))))] [] [] [] (by kernel_rfl) ?_
   refine SC.if' rfl hp (fun hp => ?_) (fun hp => ?_)
   · refine SC.skipThen ?_
     refine SC.cut (fun a w => ∃ (x_8 : Int), mac_Tag_it_j1 F x_7 x_8 = some q1 ∧ A 39 5 fx [(0, yv l), (1, vp 3 0), (3, vi .i64 x_7)] [.gone, .blk 55 [ci .u64 k_1], .blk 34 [ci .u64 x_8], .blk 37 [.s 4], .rd 1 R8 b_2] a w) ?_ ?_
     · refine SC.block ?_
       refine SC.r tk [(0, yv l), (1, vp 3 0), (3, vi .i64 x_7), (4, vi .u64 0)] [] [] [] (by kernel_rfl) ?_
       refine SC.cut (fun a w => ∃ (x_9 : Int), mac_Tag_it_j2 F k_1 x_6 x_7 x_9 = some q1 ∧ A 39 5 fx [(0, yv l), (1, vp 3 0), (3, vi .i64 x_7), (4, vi .u64 x_9)] [.gone, .blk 55 [ci .u64 k_1], .blk 34 [ci .u64 x_6], .blk 37 [.s 4], .rd 1 R8 b_2] a w) ?_ ?_
       · refine SC.seq ?_
         refine SC.reg ?_
         refine SL.sim tk 7 [(0, yv l), (1, vp 3 0), (3, vi .i64 x_7), (4, vi .u64 0), (13, vs 4), (14, vi .i64 x_7), (19, vi .i64 (imin (w64 (x_7 + 8)) (len b_2)))] [] [] [] (by kernel_rfl) ?_
         obtain ⟨l_12, e_l_12, hp⟩ := bind_inv hp
         refine SL.eff (e_sub (sz := 1) (E := 5) (R := R8) (by_ := 1) (l := b_2) tk rfl (.inl ⟨4, rfl, (by kernel_rfl)⟩) rfl rfl e_l_12 (by kernel_rfl)) rfl (by kernel_rfl) ?_
         refine SL.sim tk 2 [(0, yv l), (1, vp 3 0), (3, vi .i64 x_7), (4, vi .u64 0), (20, vs 5), (21, vi .i64 (len l_12)), (22, vi .i64 0)] [] [] [] (by kernel_rfl) ?_
         refine SL.nilThen ?_
         refine SC.block ?_
         obtain ⟨o2, hi2, ho2⟩ := bind_inv hp
         clear hp
         refine SC.loop (fun n a w => ∃ (x_13 : Int) (x_14 : Int), iter (fun s => mac_Tag_it_l2 F l_12 s.1 s.2) n (x_13, x_14) = some o2 ∧ A 39 5 fx [(0, yv l), (1, vp 3 0), (3, vi .i64 x_7), (4, vi .u64 x_13), (20, vs 5), (21, vi .i64 (len l_12)), (22, vi .i64 x_14)] [.gone, .blk 55 [ci .u64 k_1], .blk 34 [ci .u64 x_6], .blk 37 [.s 4], .rd 1 R8 b_2, .rd 1 R8 l_12] a w) F (fun a w h => ⟨0, 0, hi2, h.at (js := [.g 0, .g 1, .g 2, .g 3, .g 4, .g 5]) (by kernel_rfl)⟩) ?_
         rintro n2 a w ⟨x_13, x_14, hi2, h⟩
         obtain ⟨n2, q2, rfl, hp, hs2⟩ := iter_inv hi2
         replace hp : mac_Tag_it_l2 F l_12 x_13 x_14 = some q2 := hp
         clear hi2
         refine h.go ?_
         refine SC.r tk [(0, yv l), (1, vp 3 0), (3, vi .i64 x_7), (4, vi .u64 x_13), (20, vs 5), (21, vi .i64 (len l_12)), (22, vi .i64 x_14), (23, vb (decide (x_14 < (len l_12))))] [] [] [] (by kernel_rfl) ?_
         refine SC.seq ?_
         refine SC.if' rfl hp (fun hp => ?_) (fun hp => ?_)
         · refine SC.skipThen ?_
           refine SC.seq ?_
           refine SC.block ?_
           obtain ⟨x_15, e_x_15, hp⟩ := bind_inv hp
           refine SC.pre (pre_ix (i := 5) (iv := x_14) (sz := 1) (R := R8) (l := l_12) (by kernel_rfl) rfl e_x_15) ?_
           refine SC.r tk [(0, yv l), (1, vp 3 0), (3, vi .i64 x_7), (4, vi .u64 x_13), (5, vi .i64 x_14), (6, vi .u8 x_15), (20, vs 5), (21, vi .i64 (len l_12)), (22, vi .i64 x_14)] [] [.el 6] [x_14] (by kernel_rfl) ?_
           refine SC.reg ?_
           obtain ⟨x_16, e_x_16, hp⟩ := bind_inv hp
           refine SL.sim tk 8 [(0, yv l), (1, vp 3 0), (3, vi .i64 x_7), (4, vi .u64 (ior .u64 x_13 x_16)), (20, vs 5), (21, vi .i64 (len l_12)), (22, vi .i64 x_14)] [] [.bin .shl .u64 (wu64 x_15) (w64 (8 * x_14)) x_16 e_x_16] [wu64 x_15, w64 (8 * x_14)] (by kernel_rfl) ?_
           refine SL.nilThen ?_
           refine SC.reg ?_
           refine SL.sim tk 2 [(0, yv l), (1, vp 3 0), (3, vi .i64 x_7), (4, vi .u64 (ior .u64 x_13 x_16)), (20, vs 5), (21, vi .i64 (len l_12)), (22, vi .i64 (w64 (x_14 + 1)))] [] [] [] (by kernel_rfl) ?_
           refine SL.nilJ fun a w h => ?_
           exact ⟨n2, Nat.lt_succ_self _, ior .u64 x_13 x_16, w64 (x_14 + 1), next_inv hp hs2, h.at (js := [.g 0, .g 1, .g 2, .g 3, .g 4, .g 5]) (by kernel_rfl)⟩
         · refine SC.exitJ rfl fun a w h => ?_
           have ho := done_inv hp hs2
           replace hp := ho2
           try rw [ho] at hp
           exact ⟨x_13, hp, h.at (js := [.g 0, .g 1, .g 2, .g 3, .g 4]) (by kernel_rfl)⟩
       · rintro a w ⟨x_9, hp, h⟩
         refine h.go ?_
         obtain ⟨o_10, e_o_10, hp⟩ := bind_inv hp
         refine SC.cut (fun a w => A 39 5 fx [(0, yv l), (1, vp 3 0), (3, vi .i64 x_7), (38, vb false)] [.gone, .blk 55 [ci .u64 k_1], .blk 34 [ci .u64 o_10], .blk 37 [.s 4], .rd 1 R8 b_2] a w) ?_ (fun a w h => h.go ?_)
         · refine SC.regI ?_
           refine SLI.cutAt 2 (fun a w => A 39 5 fx [(0, yv l), (1, vp 3 0), (3, vi .i64 x_7), (35, yv l), (36, vi .u64 x_9)] [.gone, .blk 55 [ci .u64 k_1], .blk 34 [ci .u64 x_6], .blk 37 [.s 4], .rd 1 R8 b_2] a w) ?_ rfl (fun a w h => h.goLI ?_)
           · refine SL.sim tk 2 [(0, yv l), (1, vp 3 0), (3, vi .i64 x_7), (35, yv l), (36, vi .u64 x_9)] [] [] [] (by kernel_rfl) ?_
             refine SL.nilJ fun a w h => ?_
             exact h.at (js := [.g 0, .g 1, .g 2, .g 3, .g 4]) (by kernel_rfl)
           · refine SLI.yield (X := Unit) (Pr := fun _ => True) (itsX := fun _ => [.gone, .blk 55 [ci .u64 k_1], .blk 34 [ci .u64 o_10], .blk 37 [.s 4], .rd 1 R8 b_2]) (pl := [14]) (vs := [vi .u64 x_9]) (envA := [(0, yv l), (1, vp 3 0), (3, vi .i64 x_7)]) (envS := [(2, vp 1 0), (5, vp 2 0)]) (envB := [(2, vp 1 0), (5, vp 2 0), (6, vi .u64 x_9)]) hu hx hw hst hpe hpl (by simpa using hS.sub (lkEs_sub (e := [(2, vp 1 0), (5, vp 2 0)]) rfl)) rfl rfl rfl (by kernel_rfl) rfl rfl ?_ ?_ (fun _ => rfl) (fun _ => rfl) (fun _ _ => SLI.of ?_ rfl)
             · rw [has]
               refine SCI.reg ?_ rfl
               refine SL.sim tk 1 [(2, vp 1 0), (5, vp 2 0), (6, vi .u64 x_9)] [] [] [] (by kernel_rfl) ?_
               refine SL.nilJ fun a w h => ?_
               exact h.at (js := [.g 0, .g 1, .g 2, .g 3, .g 4]) (by kernel_rfl)
             · generalize (fx.put l (.loop { rec with state := .busy })) = fx
               rw [hbo]
               have hp := e_o_10
               refine SCI.block ?_
               obtain ⟨x_11, e_x_11, hp⟩ := bind_inv hp
               refine SCI.reg ?_ rfl
               refine SL.sim tk 4 [(5, vp 2 0), (15, vi .u64 k_1), (18, vi .u64 (ixor .u64 x_6 x_9))] [] [] [] (by kernel_rfl) ?_
               refine SL.eff (e_c Try.call80 (ok_block_Mix F k_1 (ixor .u64 x_6 x_9) _ e_x_11) [] [vi .u64 k_1, vi .u64 (ixor .u64 x_6 x_9)] (vi .u64 x_11) (by kernel_rfl) (.inl rfl)) rfl (by kernel_rfl) ?_
               refine SL.sim tk 1 [] [(2, 34, [ci .u64 x_11])] [] [] (by kernel_rfl) ?_
               refine SL.nilJ fun a w h => ?_
               obtain rfl := some_inv' hp
               obtain ⟨κ, _, S⟩ := (show A 21 5 fx [] [.gone, .blk 55 [ci .u64 k_1], .blk 34 [ci .u64 x_11], .blk 37 [.s 4], .rd 1 R8 b_2] a w from h.at (js := [.g 0, .g 1, .g 2, .g 3, .g 4]) (by kernel_rfl))
               exact ⟨(), trivial, κ, S⟩
             · refine SL.sim tk 1 [(0, yv l), (1, vp 3 0), (3, vi .i64 x_7), (38, vb false)] [] [] [] (by kernel_rfl) ?_
               refine SL.nilJ fun a w h => ?_
               exact h.at (js := [.g 0, .g 1, .g 2, .g 3, .g 4]) (by kernel_rfl)
         · refine SC.iff rfl ?_
           refine SC.skipJ fun a w h => ?_
           exact ⟨o_10, hp, h.at (js := [.g 0, .g 1, .g 2, .g 3, .g 4]) (by kernel_rfl)⟩
     · rintro a w ⟨x_8, hp, h⟩
       refine h.go ?_
       refine SC.reg ?_
       refine SL.sim tk 3 [(0, yv l), (1, vp 3 0), (3, vi .i64 (w64 (x_7 + 8)))] [] [] [] (by kernel_rfl) ?_
       refine SL.nilJ fun a w h => ?_
       exact ⟨n1, Nat.lt_succ_self _, x_8, w64 (x_7 + 8), next_inv hp hs1, h.at (js := [.g 0, .g 1, .g 2, .g 3, .g 4]) (by kernel_rfl)⟩
   · refine SC.exitJ rfl fun a w h => ?_
     have ho := done_inv hp hs1
     replace hp := ho1
     try rw [ho] at hp
     obtain rfl := some_inv' hp
     exact A.re (js := [.g 0, .g 1, .g 2, .g 3, .g 4]) tk h (by kernel_rfl)
 · refine SL.sim tk 2 [(4, vi .u64 o_4)] [] [] [] (by kernel_rfl) ?_
   refine SL.nilJ fun a w h => ?_
   exact h.at (js := [.g 0, .g 1, .g 2, .g 3, .g 4]) (by kernel_rfl)
 · obtain rfl := some_inv' hp
   exact A.re (js := [.g 0]) tk h (by kernel_rfl)

theorem ok_mac_bytes (F : Nat) (numbers_1 : (List Int)) (r : (List Int)) (hp : mac_bytes F numbers_1 = some r) : Spec Try.prog 79 [vs 0] [.rd 1 (RInt .u64) numbers_1] (vs 1) [.gone, .rd 1 R8 r] := by
 refine Spec.enter Try.func79 rfl Try.ntmps79 rfl rfl fun fx => ?_
 refine SC.r tk [(0, vs 0)] [] [] [] (by kernel_rfl) ?_
 refine SC.r tk [(0, vs 0), (3, vn)] [] [] [] (by kernel_rfl) ?_
 refine SC.cut (fun a w => ∃ (l_2 : (List T_api_Field)), mac_bytes_j1 F l_2 = some r ∧ A 26 1 fx [(3, vs 1)] [.gone, .own 2 102 R_T_api_Field l_2] a w) ?_ ?_
 · refine SC.r tk [(3, vn), (8, vs 0), (9, vi .i64 (len numbers_1)), (10, vi .i64 0)] [] [] [] (by kernel_rfl) ?_
   refine SC.block ?_
   obtain ⟨o1, hi1, ho1⟩ := bind_inv hp
   clear hp
   refine SC.loop (fun n a w => ∃ (l_4 : (List T_api_Field)) (x_5 : Int), iter (fun s => mac_bytes_l1 F numbers_1 s.1 s.2) n (l_4, x_5) = some o1 ∧ A 26 1 fx [(3, vs 1), (8, vs 0), (9, vi .i64 (len numbers_1)), (10, vi .i64 x_5)] [.rd 1 (RInt .u64) numbers_1, .own 2 102 R_T_api_Field l_4] a w) F (fun a w h => ⟨[], 0, hi1, h.at (js := [.g 0, .n]) (by kernel_rfl)⟩) ?_
   rintro n1 a w ⟨l_4, x_5, hi1, h⟩
   obtain ⟨n1, q1, rfl, hp, hs1⟩ := iter_inv hi1
   replace hp : mac_bytes_l1 F numbers_1 l_4 x_5 = some q1 := hp
   clear hi1
   refine h.go ?_
   refine SC.r tk [(3, vs 1), (8, vs 0), (9, vi .i64 (len numbers_1)), (10, vi .i64 x_5), (11, vb (decide (x_5 < (len numbers_1))))] [] [] [] (by kernel_rfl) ?_
   refine SC.seq ?_
   refine SC.if' rfl hp (fun hp => ?_) (fun hp => ?_)
   · refine SC.skipThen ?_
     refine SC.seq ?_
     refine SC.block ?_
     obtain ⟨x_6, e_x_6, hp⟩ := bind_inv hp
     refine SC.pre (pre_ix (i := 0) (iv := x_5) (sz := 1) (R := (RInt .u64)) (l := numbers_1) (by kernel_rfl) rfl e_x_6) ?_
     refine SC.r tk [(3, vs 1), (5, vi .u64 x_6), (8, vs 0), (9, vi .i64 (len numbers_1)), (10, vi .i64 x_5)] [] [.el 2] [x_5] (by kernel_rfl) ?_
     refine SC.reg ?_
     refine SL.sim tk 3 [(3, vs 1), (8, vs 0), (9, vi .i64 (len numbers_1)), (10, vi .i64 x_5), (14, vs 1), (16, .g [ci .i64 8, ci .u64 x_6])] [] [] [] (by kernel_rfl) ?_
     refine SL.eff (e_lit (sz := 2) (E := 102) (R := R_T_api_Field) (by_ := 16) tk [[ci .i64 8, ci .u64 x_6]] [(T_api_Field.mk 8 x_6)] (by kernel_rfl) ⟨(clo_T_api_Field (x := (T_api_Field.mk 8 x_6))), trivial⟩ rfl (by kernel_rfl) (by kernel_rfl)) rfl (by kernel_rfl) ?_
     obtain ⟨l_7, e_l_7, hp⟩ := bind_inv hp
     refine SL.eff (e_app (i := 1) (l := l_4) (sz := 2) (E := 102) (R := R_T_api_Field) (by_ := 16) (m := [(T_api_Field.mk 8 x_6)]) tk rfl (by kernel_rfl) rfl (.o 102 (by kernel_rfl)) e_l_7 (by kernel_rfl)) rfl (by kernel_rfl) ?_
     refine SL.sim tk 1 [(3, vs 4), (8, vs 0), (9, vi .i64 (len numbers_1)), (10, vi .i64 x_5)] [] [] [] (by kernel_rfl) ?_
     refine SL.nilThen ?_
     refine SC.reg ?_
     refine SL.sim tk 2 [(3, vs 4), (8, vs 0), (9, vi .i64 (len numbers_1)), (10, vi .i64 (w64 (x_5 + 1)))] [] [] [] (by kernel_rfl) ?_
     refine SL.nilJ fun a w h => ?_
     exact ⟨n1, Nat.lt_succ_self _, l_7, w64 (x_5 + 1), next_inv hp hs1, h.at (js := [.g 0, .g 4]) (by kernel_rfl)⟩
   · refine SC.exitJ rfl fun a w h => ?_
     have ho := done_inv hp hs1
     replace hp := ho1
     try rw [ho] at hp
     exact ⟨l_4, hp, h.at (js := [.g 0, .g 1]) (by kernel_rfl)⟩
 · rintro a w ⟨l_2, hp, h⟩
   refine h.go ?_
   refine SC.seq ?_
   refine SC.reg ?_
   refine SL.sim tk 1 [(21, vs 1)] [] [] [] (by kernel_rfl) ?_
   obtain ⟨x_3, e_x_3, hp⟩ := bind_inv hp
   refine SL.pre (pre_frz (i := 1) (sz := 2) (E := 102) (R := R_T_api_Field) (l := l_2) (by kernel_rfl)) ?_
   refine SL.eff (e_c Try.call78 (ok_octets_Put F l_2 _ e_x_3) [.g 1] [vs 1] (.u [.inl (.s 2), .inl (ci .i64 x_3.2)]) (by kernel_rfl) (.inl rfl)) rfl (by kernel_rfl) ?_
   refine SL.sim tk 5 [(6, vs 2)] [] [] [] (by kernel_rfl) ?_
   refine SL.nilThen ?_
   refine SC.r tk [(2, vs 2)] [] [] [] (by kernel_rfl) ?_
   obtain rfl := some_inv' hp
   exact SC.re (js := [.g 0, .g 2]) tk (by kernel_rfl)
end V
end Go.Proofs.Ytchlimkophmjlaa
