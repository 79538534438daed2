/-
  Walks, written by program: each Go function returns what its pure twin says.
-/
import Derived.Test.YtojcklkcjnnkaaaDoorW2
namespace Go.Proofs.YtojcklkcjnnkaaaDoor
namespace V
theorem ok_wirelessref39_SameItems (F : Nat) (a_1 : (List T_api_Item)) (b_2 : (List T_api_Item)) (r : Bool) (hp : wirelessref39_SameItems F a_1 b_2 = some r) : Spec Tryd.prog 27 [vs 0, vs 1] [.rd 2 R_T_api_Item a_1, .rd 2 R_T_api_Item b_2] (vb r) [.gone, .gone] := by
 refine Spec.enter Tryd.func27 rfl Tryd.ntmps27 rfl rfl fun fx => ?_
 refine SC.r tk [(0, vs 0), (1, vs 1)] [] [] [] (by kernel_rfl) ?_
 refine SC.seq ?_
 refine SC.r tk [(0, vs 0), (1, vs 1), (10, vb ((len a_1) != (len b_2)))] [] [] [] (by kernel_rfl) ?_
 refine SC.if' rfl hp (fun hp => ?_) (fun hp => ?_)
 · refine SC.r tk [(4, vb false)] [] [] [] (by kernel_rfl) ?_
   obtain rfl := some_inv' hp
   exact SC.re (js := [.g 0, .g 1]) tk (by kernel_rfl)
 refine SC.skipThen ?_
 refine SC.cut (fun a w => wirelessref39_SameItems_j1 F = some r ∧ A 43 2 fx [] [.gone, .gone] a w) ?_ ?_
 · refine SC.r tk [(0, vs 0), (1, vs 1), (5, vi .i64 0)] [] [] [] (by kernel_rfl) ?_
   refine SC.block ?_
   obtain ⟨o1, hi1, ho1⟩ := bind_inv hp
   clear hp
   refine SC.loop (fun n a w => ∃ (x_3 : Int), iter (fun s => wirelessref39_SameItems_l1 F a_1 b_2 s) n (x_3) = some o1 ∧ A 43 2 fx [(0, vs 0), (1, vs 1), (5, vi .i64 x_3)] [.rd 2 R_T_api_Item a_1, .rd 2 R_T_api_Item b_2] a w) F (fun a w h => ⟨0, hi1, h.at (js := [.g 0, .g 1]) (by kernel_rfl)⟩) ?_
   rintro n1 a w ⟨x_3, hi1, h⟩
   obtain ⟨n1, q1, rfl, hp, hs1⟩ := iter_inv hi1
   replace hp : wirelessref39_SameItems_l1 F a_1 b_2 x_3 = some q1 := hp
   clear hi1
   refine h.go ?_
   refine SC.seq ?_
   refine SC.r tk [(0, vs 0), (1, vs 1), (5, vi .i64 x_3), (14, vb (decide (x_3 < (len a_1))))] [] [] [] (by kernel_rfl) ?_
   refine SC.if' rfl hp (fun hp => ?_) (fun hp => ?_)
   · refine SC.skipThen ?_
     refine SC.seq ?_
     refine SC.block ?_
     refine SC.cut (fun a w => ∃ (z_4 : Bool), wirelessref39_SameItems_j2 F x_3 z_4 = some q1 ∧ A 43 2 fx [(0, vs 0), (1, vs 1), (5, vi .i64 x_3), (42, vb z_4)] [.rd 2 R_T_api_Item a_1, .rd 2 R_T_api_Item b_2] a w) ?_ ?_
     · obtain ⟨x_5, e_x_5, hp⟩ := bind_inv hp
       obtain ⟨x_6, e_x_6, hp⟩ := bind_inv hp
       refine SC.pre (pre_ix (i := 0) (iv := x_3) (sz := 2) (R := R_T_api_Item) (l := a_1) (by kernel_rfl) rfl e_x_5) ?_
       refine SC.pre (pre_ix (i := 1) (iv := x_3) (sz := 2) (R := R_T_api_Item) (l := b_2) (by kernel_rfl) rfl e_x_6) ?_
       refine SC.draw MO [I, I, I, I, I, I] (by kernel_rfl) fun kap_7 D_8 => ?_
       refine SD.takes tk D_8 [] kn0 [0, 1, 2, 3, 4, 5, 6, 7, 8, 9, 10, 11] [.el 2, .el 4] [x_3, x_3] (bm 26 4095) [(0, vs 0), (1, vs 1), (5, vi .i64 x_3), (28, vb (x_5.Key != x_6.Key))] rfl (by kernel_rfl) (by kernel_rfl) (by kernel_rfl) ?_
       rcases Bool.eq_false_or_eq_true ((x_5.Key != x_6.Key)) with hg_9 | hg_9
       · replace hp := if_t hp hg_9
         refine SD.takes tk D_8 [(28, true)] (knS rfl hg_9 kn0) [12, 13, 14, 15, 16, 17, 18, 19, 20, 21, 22, 23, 24, 25] [] [] (bm 26 67108863) [(0, vs 0), (1, vs 1), (5, vi .i64 x_3), (29, .u []), (30, .u []), (31, .u []), (32, .u []), (33, .u []), (34, .u []), (35, .u []), (36, .u []), (37, .u []), (38, .u []), (39, .u []), (40, .u []), (41, .u []), (42, vb true)] rfl (by kernel_rfl) (by kernel_rfl) (by kernel_rfl) ?_
         refine SD.done (by kernel_rfl) fun a w h => ?_
         exact ⟨true, hp, h.at (js := [.g 0, .g 1]) (by kernel_rfl)⟩
       replace hp := if_f hp hg_9
       refine SD.takes tk D_8 [(28, false)] (knS rfl hg_9 kn0) [12, 13, 18, 19] [] [] (bm 26 802815) [(0, vs 0), (1, vs 1), (5, vi .i64 x_3), (28, vb (x_5.Key != x_6.Key)), (29, vs 0), (30, vi .i64 x_3), (35, vs 1), (36, vi .i64 x_3)] rfl (by kernel_rfl) (by kernel_rfl) (by kernel_rfl) ?_
       obtain ⟨x_1130, e_x_1130, hp⟩ := bind_inv hp
       obtain ⟨x_1610, e_x_1610, hp⟩ := bind_inv hp
       refine SD.lay 0 (bm 26 67108863) [(0, vs 0), (1, vs 1), (5, vi .i64 x_3), (29, vs 0), (30, vi .i64 x_3), (31, vp 6 0), (32, vp 6 1), (33, vs 7), (34, vt 8), (35, vs 1), (36, vi .i64 x_3), (37, vp 9 0), (38, vp 9 1), (39, vs 10), (40, vt 11), (41, vb ((str x_1130.Value) != (str x_1610.Value))), (42, vb ((str x_1130.Value) != (str x_1610.Value)))] [.rd 2 R_T_api_Item a_1, .rd 2 R_T_api_Item b_2, .elt (some (0, x_3)) false [ci .u16 x_5.Key, .s 3], .rd 1 R8 x_5.Value, .elt (some (1, x_3)) false [ci .u16 x_6.Key, .s 5], .rd 1 R8 x_6.Value, .elt none false [ci .u16 x_1130.Key, .s 7], .rd 1 R8 x_1130.Value, .str (str x_1130.Value), .elt none false [ci .u16 x_1610.Key, .s 10], .rd 1 R8 x_1610.Value, .str (str x_1610.Value)] ?_ (fun c_9_0 => ?_)
       · refine SD.done (by kernel_rfl) fun a w h => ?_
         exact ⟨((str x_1130.Value) != (str x_1610.Value)), hp, h.at (js := [.g 0, .g 1]) (by kernel_rfl)⟩
       refine SD.lay 2 (bm 26 16777215) [(0, vs 0), (1, vs 1), (5, vi .i64 x_3), (28, vb (x_5.Key != x_6.Key)), (29, vs 0), (30, vi .i64 x_3), (31, vp 6 0), (32, vp 6 1), (33, vs 7), (34, vt 8), (35, vs 1), (36, vi .i64 x_3), (37, vp 9 0), (38, vp 9 1), (39, vs 10), (40, vt 11)] [.rd 2 R_T_api_Item a_1, .rd 2 R_T_api_Item b_2, .elt (some (0, x_3)) false [ci .u16 x_5.Key, .s 3], .rd 1 R8 x_5.Value, .elt (some (1, x_3)) false [ci .u16 x_6.Key, .s 5], .rd 1 R8 x_6.Value, .elt none false [ci .u16 x_1130.Key, .s 7], .rd 1 R8 x_1130.Value, .str (str x_1130.Value), .elt none false [ci .u16 x_1610.Key, .s 10], .rd 1 R8 x_1610.Value, .str (str x_1610.Value)] ?_ (fun c_9_1 => ?_)
       · refine SD.all1 (i := 24) (by kernel_rfl) ?_
         refine SW.eff D_8 (i := 24) (v := vb ((str x_1130.Value) != (str x_1610.Value))) (bs' := (bm 26 33554431)) rfl (.inr ⟨_, _, _, _, rfl, rfl, rfl, hg_9⟩) rfl (e_val tk (by kernel_rfl)) (by kernel_rfl) rfl (by kernel_rfl) ?_
         refine SD.takes tk D_8 [(28, false)] (knS rfl hg_9 kn0) [25] [] [] (bm 26 67108863) [(0, vs 0), (1, vs 1), (5, vi .i64 x_3), (29, vs 0), (30, vi .i64 x_3), (31, vp 6 0), (32, vp 6 1), (33, vs 7), (34, vt 8), (35, vs 1), (36, vi .i64 x_3), (37, vp 9 0), (38, vp 9 1), (39, vs 10), (40, vt 11), (41, vb ((str x_1130.Value) != (str x_1610.Value))), (42, vb ((str x_1130.Value) != (str x_1610.Value)))] rfl (by kernel_rfl) (by kernel_rfl) (by kernel_rfl) ?_
         exact SD.vie D_8 [.g 0, .g 1, .g 2, .g 3, .g 4, .g 5, .g 6, .g 7, .g 8, .g 9, .g 10, .g 11] c_9_0 (by kernel_rfl)
       refine SD.lay 3 (bm 26 8388607) [(0, vs 0), (1, vs 1), (5, vi .i64 x_3), (28, vb (x_5.Key != x_6.Key)), (29, vs 0), (30, vi .i64 x_3), (31, vp 6 0), (32, vp 6 1), (33, vs 7), (34, vt 8), (35, vs 1), (36, vi .i64 x_3), (37, vp 9 0), (38, vp 9 1), (39, vs 10)] [.rd 2 R_T_api_Item a_1, .rd 2 R_T_api_Item b_2, .elt (some (0, x_3)) false [ci .u16 x_5.Key, .s 3], .rd 1 R8 x_5.Value, .elt (some (1, x_3)) false [ci .u16 x_6.Key, .s 5], .rd 1 R8 x_6.Value, .elt none false [ci .u16 x_1130.Key, .s 7], .rd 1 R8 x_1130.Value, .str (str x_1130.Value), .elt none false [ci .u16 x_1610.Key, .s 10], .rd 1 R8 x_1610.Value] ?_ (fun c_9_2 => ?_)
       · refine SD.all1 (i := 23) (by kernel_rfl) ?_
         refine SW.eff D_8 (i := 23) (bs' := (bm 26 16777215)) rfl (.inr ⟨_, _, _, _, rfl, rfl, rfl, hg_9⟩) rfl (e_b2s (l := x_1610.Value) tk rfl (.r (by kernel_rfl)) (by kernel_rfl)) (by kernel_rfl) rfl (by kernel_rfl) ?_
         exact SD.vie D_8 [.g 0, .g 1, .g 2, .g 3, .g 4, .g 5, .g 6, .g 7, .g 8, .g 9, .g 10, .g 11] c_9_1 (by kernel_rfl)
       refine SD.lay 4 (bm 26 4194303) [(0, vs 0), (1, vs 1), (5, vi .i64 x_3), (28, vb (x_5.Key != x_6.Key)), (29, vs 0), (30, vi .i64 x_3), (31, vp 6 0), (32, vp 6 1), (33, vs 7), (34, vt 8), (35, vs 1), (36, vi .i64 x_3), (37, vp 9 0), (38, vp 9 1)] [.rd 2 R_T_api_Item a_1, .rd 2 R_T_api_Item b_2, .elt (some (0, x_3)) false [ci .u16 x_5.Key, .s 3], .rd 1 R8 x_5.Value, .elt (some (1, x_3)) false [ci .u16 x_6.Key, .s 5], .rd 1 R8 x_6.Value, .elt none false [ci .u16 x_1130.Key, .s 7], .rd 1 R8 x_1130.Value, .str (str x_1130.Value), .elt none false [ci .u16 x_1610.Key, .s 10], .rd 1 R8 x_1610.Value] ?_ (fun c_9_3 => ?_)
       · refine SD.all1 (i := 22) (by kernel_rfl) ?_
         refine SW.eff D_8 (i := 22) (v := vs 10) (bs' := (bm 26 8388607)) rfl (.inr ⟨_, _, _, _, rfl, rfl, rfl, hg_9⟩) rfl (e_val tk (by kernel_rfl)) (by kernel_rfl) rfl (by kernel_rfl) ?_
         exact SD.vie D_8 [.g 0, .g 1, .g 2, .g 3, .g 4, .g 5, .g 6, .g 7, .g 8, .g 9, .g 10] c_9_2 (by kernel_rfl)
       refine SD.lay 5 (bm 26 2097151) [(0, vs 0), (1, vs 1), (5, vi .i64 x_3), (28, vb (x_5.Key != x_6.Key)), (29, vs 0), (30, vi .i64 x_3), (31, vp 6 0), (32, vp 6 1), (33, vs 7), (34, vt 8), (35, vs 1), (36, vi .i64 x_3), (37, vp 9 0)] [.rd 2 R_T_api_Item a_1, .rd 2 R_T_api_Item b_2, .elt (some (0, x_3)) false [ci .u16 x_5.Key, .s 3], .rd 1 R8 x_5.Value, .elt (some (1, x_3)) false [ci .u16 x_6.Key, .s 5], .rd 1 R8 x_6.Value, .elt none false [ci .u16 x_1130.Key, .s 7], .rd 1 R8 x_1130.Value, .str (str x_1130.Value), .elt none false [ci .u16 x_1610.Key, .s 10], .rd 1 R8 x_1610.Value] ?_ (fun c_9_4 => ?_)
       · refine SD.all1 (i := 21) (by kernel_rfl) ?_
         refine SW.eff D_8 (i := 21) (v := vp 9 1) (bs' := (bm 26 4194303)) rfl (.inr ⟨_, _, _, _, rfl, rfl, rfl, hg_9⟩) rfl (e_val tk (by kernel_rfl)) (by kernel_rfl) rfl (by kernel_rfl) ?_
         exact SD.vie D_8 [.g 0, .g 1, .g 2, .g 3, .g 4, .g 5, .g 6, .g 7, .g 8, .g 9, .g 10] c_9_3 (by kernel_rfl)
       refine SD.lay 6 (bm 26 1048575) [(0, vs 0), (1, vs 1), (5, vi .i64 x_3), (28, vb (x_5.Key != x_6.Key)), (29, vs 0), (30, vi .i64 x_3), (31, vp 6 0), (32, vp 6 1), (33, vs 7), (34, vt 8), (35, vs 1), (36, vi .i64 x_3)] [.rd 2 R_T_api_Item a_1, .rd 2 R_T_api_Item b_2, .elt (some (0, x_3)) false [ci .u16 x_5.Key, .s 3], .rd 1 R8 x_5.Value, .elt (some (1, x_3)) false [ci .u16 x_6.Key, .s 5], .rd 1 R8 x_6.Value, .elt none false [ci .u16 x_1130.Key, .s 7], .rd 1 R8 x_1130.Value, .str (str x_1130.Value)] ?_ (fun c_9_5 => ?_)
       · refine SD.pre (pre_ix (i := 1) (iv := x_3) (sz := 2) (R := R_T_api_Item) (l := b_2) (by kernel_rfl) rfl e_x_1610) ?_
         refine SD.all1 (i := 20) (by kernel_rfl) ?_
         refine SW.eff D_8 (i := 20) (v := vp 9 0) (bs' := (bm 26 2097151)) rfl (.inr ⟨_, _, _, _, rfl, rfl, rfl, hg_9⟩) rfl (e_valE tk (.el 9) [x_3] (by kernel_rfl)) (by kernel_rfl) rfl (by kernel_rfl) ?_
         exact SD.vie D_8 [.g 0, .g 1, .g 2, .g 3, .g 4, .g 5, .g 6, .g 7, .g 8, .g 9, .g 10] c_9_4 (by kernel_rfl)
       refine SD.lay 3 (bm 26 16646143) [(0, vs 0), (1, vs 1), (5, vi .i64 x_3), (28, vb (x_5.Key != x_6.Key)), (29, vs 0), (30, vi .i64 x_3), (31, vp 6 0), (32, vp 6 1), (33, vs 7), (35, vs 1), (36, vi .i64 x_3), (37, vp 8 0), (38, vp 8 1), (39, vs 9), (40, vt 10)] [.rd 2 R_T_api_Item a_1, .rd 2 R_T_api_Item b_2, .elt (some (0, x_3)) false [ci .u16 x_5.Key, .s 3], .rd 1 R8 x_5.Value, .elt (some (1, x_3)) false [ci .u16 x_6.Key, .s 5], .rd 1 R8 x_6.Value, .elt none false [ci .u16 x_1130.Key, .s 7], .rd 1 R8 x_1130.Value, .elt none false [ci .u16 x_1610.Key, .s 9], .rd 1 R8 x_1610.Value, .str (str x_1610.Value)] ?_ (fun c_9_6 => ?_)
       · refine SD.all1 (i := 17) (by kernel_rfl) ?_
         refine SW.eff D_8 (i := 17) (bs' := (bm 26 16777215)) rfl (.inr ⟨_, _, _, _, rfl, rfl, rfl, hg_9⟩) rfl (e_b2s (l := x_1130.Value) tk rfl (.r (by kernel_rfl)) (by kernel_rfl)) (by kernel_rfl) rfl (by kernel_rfl) ?_
         exact SD.vie D_8 [.g 0, .g 1, .g 2, .g 3, .g 4, .g 5, .g 6, .g 7, .g 11, .g 8, .g 9, .g 10] c_9_1 (by kernel_rfl)
       refine SD.lay 4 (bm 26 8257535) [(0, vs 0), (1, vs 1), (5, vi .i64 x_3), (28, vb (x_5.Key != x_6.Key)), (29, vs 0), (30, vi .i64 x_3), (31, vp 6 0), (32, vp 6 1), (33, vs 7), (35, vs 1), (36, vi .i64 x_3), (37, vp 8 0), (38, vp 8 1), (39, vs 9)] [.rd 2 R_T_api_Item a_1, .rd 2 R_T_api_Item b_2, .elt (some (0, x_3)) false [ci .u16 x_5.Key, .s 3], .rd 1 R8 x_5.Value, .elt (some (1, x_3)) false [ci .u16 x_6.Key, .s 5], .rd 1 R8 x_6.Value, .elt none false [ci .u16 x_1130.Key, .s 7], .rd 1 R8 x_1130.Value, .elt none false [ci .u16 x_1610.Key, .s 9], .rd 1 R8 x_1610.Value] ?_ (fun c_9_7 => ?_)
       · refine SD.all2 (i := 17) (j := 23) (by kernel_rfl) ?_ ?_
         · refine SW.eff D_8 (i := 17) (bs' := (bm 26 8388607)) rfl (.inr ⟨_, _, _, _, rfl, rfl, rfl, hg_9⟩) rfl (e_b2s (l := x_1130.Value) tk rfl (.r (by kernel_rfl)) (by kernel_rfl)) (by kernel_rfl) rfl (by kernel_rfl) ?_
           exact SD.vie D_8 [.g 0, .g 1, .g 2, .g 3, .g 4, .g 5, .g 6, .g 7, .g 10, .g 8, .g 9] c_9_2 (by kernel_rfl)
         refine SW.eff D_8 (i := 23) (bs' := (bm 26 16646143)) rfl (.inr ⟨_, _, _, _, rfl, rfl, rfl, hg_9⟩) rfl (e_b2s (l := x_1610.Value) tk rfl (.r (by kernel_rfl)) (by kernel_rfl)) (by kernel_rfl) rfl (by kernel_rfl) ?_
         exact SD.vie D_8 [.g 0, .g 1, .g 2, .g 3, .g 4, .g 5, .g 6, .g 7, .g 8, .g 9, .g 10] c_9_6 (by kernel_rfl)
       refine SD.lay 5 (bm 26 4063231) [(0, vs 0), (1, vs 1), (5, vi .i64 x_3), (28, vb (x_5.Key != x_6.Key)), (29, vs 0), (30, vi .i64 x_3), (31, vp 6 0), (32, vp 6 1), (33, vs 7), (35, vs 1), (36, vi .i64 x_3), (37, vp 8 0), (38, vp 8 1)] [.rd 2 R_T_api_Item a_1, .rd 2 R_T_api_Item b_2, .elt (some (0, x_3)) false [ci .u16 x_5.Key, .s 3], .rd 1 R8 x_5.Value, .elt (some (1, x_3)) false [ci .u16 x_6.Key, .s 5], .rd 1 R8 x_6.Value, .elt none false [ci .u16 x_1130.Key, .s 7], .rd 1 R8 x_1130.Value, .elt none false [ci .u16 x_1610.Key, .s 9], .rd 1 R8 x_1610.Value] ?_ (fun c_9_8 => ?_)
       · refine SD.all2 (i := 17) (j := 22) (by kernel_rfl) ?_ ?_
         · refine SW.eff D_8 (i := 17) (bs' := (bm 26 4194303)) rfl (.inr ⟨_, _, _, _, rfl, rfl, rfl, hg_9⟩) rfl (e_b2s (l := x_1130.Value) tk rfl (.r (by kernel_rfl)) (by kernel_rfl)) (by kernel_rfl) rfl (by kernel_rfl) ?_
           exact SD.vie D_8 [.g 0, .g 1, .g 2, .g 3, .g 4, .g 5, .g 6, .g 7, .g 10, .g 8, .g 9] c_9_3 (by kernel_rfl)
         refine SW.eff D_8 (i := 22) (v := vs 9) (bs' := (bm 26 8257535)) rfl (.inr ⟨_, _, _, _, rfl, rfl, rfl, hg_9⟩) rfl (e_val tk (by kernel_rfl)) (by kernel_rfl) rfl (by kernel_rfl) ?_
         exact SD.vie D_8 [.g 0, .g 1, .g 2, .g 3, .g 4, .g 5, .g 6, .g 7, .g 8, .g 9] c_9_7 (by kernel_rfl)
       refine SD.lay 6 (bm 26 1966079) [(0, vs 0), (1, vs 1), (5, vi .i64 x_3), (28, vb (x_5.Key != x_6.Key)), (29, vs 0), (30, vi .i64 x_3), (31, vp 6 0), (32, vp 6 1), (33, vs 7), (35, vs 1), (36, vi .i64 x_3), (37, vp 8 0)] [.rd 2 R_T_api_Item a_1, .rd 2 R_T_api_Item b_2, .elt (some (0, x_3)) false [ci .u16 x_5.Key, .s 3], .rd 1 R8 x_5.Value, .elt (some (1, x_3)) false [ci .u16 x_6.Key, .s 5], .rd 1 R8 x_6.Value, .elt none false [ci .u16 x_1130.Key, .s 7], .rd 1 R8 x_1130.Value, .elt none false [ci .u16 x_1610.Key, .s 9], .rd 1 R8 x_1610.Value] ?_ (fun c_9_9 => ?_)
       · refine SD.all2 (i := 17) (j := 21) (by kernel_rfl) ?_ ?_
         · refine SW.eff D_8 (i := 17) (bs' := (bm 26 2097151)) rfl (.inr ⟨_, _, _, _, rfl, rfl, rfl, hg_9⟩) rfl (e_b2s (l := x_1130.Value) tk rfl (.r (by kernel_rfl)) (by kernel_rfl)) (by kernel_rfl) rfl (by kernel_rfl) ?_
           exact SD.vie D_8 [.g 0, .g 1, .g 2, .g 3, .g 4, .g 5, .g 6, .g 7, .g 10, .g 8, .g 9] c_9_4 (by kernel_rfl)
         refine SW.eff D_8 (i := 21) (v := vp 8 1) (bs' := (bm 26 4063231)) rfl (.inr ⟨_, _, _, _, rfl, rfl, rfl, hg_9⟩) rfl (e_val tk (by kernel_rfl)) (by kernel_rfl) rfl (by kernel_rfl) ?_
         exact SD.vie D_8 [.g 0, .g 1, .g 2, .g 3, .g 4, .g 5, .g 6, .g 7, .g 8, .g 9] c_9_8 (by kernel_rfl)
       refine SD.lay 7 (bm 26 917503) [(0, vs 0), (1, vs 1), (5, vi .i64 x_3), (28, vb (x_5.Key != x_6.Key)), (29, vs 0), (30, vi .i64 x_3), (31, vp 6 0), (32, vp 6 1), (33, vs 7), (35, vs 1), (36, vi .i64 x_3)] [.rd 2 R_T_api_Item a_1, .rd 2 R_T_api_Item b_2, .elt (some (0, x_3)) false [ci .u16 x_5.Key, .s 3], .rd 1 R8 x_5.Value, .elt (some (1, x_3)) false [ci .u16 x_6.Key, .s 5], .rd 1 R8 x_6.Value, .elt none false [ci .u16 x_1130.Key, .s 7], .rd 1 R8 x_1130.Value] ?_ (fun c_9_10 => ?_)
       · refine SD.all2 (i := 17) (j := 20) (by kernel_rfl) ?_ ?_
         · refine SW.eff D_8 (i := 17) (bs' := (bm 26 1048575)) rfl (.inr ⟨_, _, _, _, rfl, rfl, rfl, hg_9⟩) rfl (e_b2s (l := x_1130.Value) tk rfl (.r (by kernel_rfl)) (by kernel_rfl)) (by kernel_rfl) rfl (by kernel_rfl) ?_
           exact SD.vie D_8 [.g 0, .g 1, .g 2, .g 3, .g 4, .g 5, .g 6, .g 7, .g 8] c_9_5 (by kernel_rfl)
         refine SW.pre (pre_ix (i := 1) (iv := x_3) (sz := 2) (R := R_T_api_Item) (l := b_2) (by kernel_rfl) rfl e_x_1610) ?_
         refine SW.eff D_8 (i := 20) (v := vp 8 0) (bs' := (bm 26 1966079)) rfl (.inr ⟨_, _, _, _, rfl, rfl, rfl, hg_9⟩) rfl (e_valE tk (.el 8) [x_3] (by kernel_rfl)) (by kernel_rfl) rfl (by kernel_rfl) ?_
         exact SD.vie D_8 [.g 0, .g 1, .g 2, .g 3, .g 4, .g 5, .g 6, .g 7, .g 8, .g 9] c_9_9 (by kernel_rfl)
       refine SD.lay 4 (bm 26 16580607) [(0, vs 0), (1, vs 1), (5, vi .i64 x_3), (28, vb (x_5.Key != x_6.Key)), (29, vs 0), (30, vi .i64 x_3), (31, vp 6 0), (32, vp 6 1), (35, vs 1), (36, vi .i64 x_3), (37, vp 8 0), (38, vp 8 1), (39, vs 9), (40, vt 10)] [.rd 2 R_T_api_Item a_1, .rd 2 R_T_api_Item b_2, .elt (some (0, x_3)) false [ci .u16 x_5.Key, .s 3], .rd 1 R8 x_5.Value, .elt (some (1, x_3)) false [ci .u16 x_6.Key, .s 5], .rd 1 R8 x_6.Value, .elt none false [ci .u16 x_1130.Key, .s 7], .rd 1 R8 x_1130.Value, .elt none false [ci .u16 x_1610.Key, .s 9], .rd 1 R8 x_1610.Value, .str (str x_1610.Value)] ?_ (fun c_9_11 => ?_)
       · refine SD.all1 (i := 16) (by kernel_rfl) ?_
         refine SW.eff D_8 (i := 16) (v := vs 7) (bs' := (bm 26 16646143)) rfl (.inr ⟨_, _, _, _, rfl, rfl, rfl, hg_9⟩) rfl (e_val tk (by kernel_rfl)) (by kernel_rfl) rfl (by kernel_rfl) ?_
         exact SD.vie D_8 [.g 0, .g 1, .g 2, .g 3, .g 4, .g 5, .g 6, .g 7, .g 8, .g 9, .g 10] c_9_6 (by kernel_rfl)
       refine SD.lay 5 (bm 26 8191999) [(0, vs 0), (1, vs 1), (5, vi .i64 x_3), (28, vb (x_5.Key != x_6.Key)), (29, vs 0), (30, vi .i64 x_3), (31, vp 6 0), (32, vp 6 1), (35, vs 1), (36, vi .i64 x_3), (37, vp 8 0), (38, vp 8 1), (39, vs 9)] [.rd 2 R_T_api_Item a_1, .rd 2 R_T_api_Item b_2, .elt (some (0, x_3)) false [ci .u16 x_5.Key, .s 3], .rd 1 R8 x_5.Value, .elt (some (1, x_3)) false [ci .u16 x_6.Key, .s 5], .rd 1 R8 x_6.Value, .elt none false [ci .u16 x_1130.Key, .s 7], .rd 1 R8 x_1130.Value, .elt none false [ci .u16 x_1610.Key, .s 9], .rd 1 R8 x_1610.Value] ?_ (fun c_9_12 => ?_)
       · refine SD.all2 (i := 16) (j := 23) (by kernel_rfl) ?_ ?_
         · refine SW.eff D_8 (i := 16) (v := vs 7) (bs' := (bm 26 8257535)) rfl (.inr ⟨_, _, _, _, rfl, rfl, rfl, hg_9⟩) rfl (e_val tk (by kernel_rfl)) (by kernel_rfl) rfl (by kernel_rfl) ?_
           exact SD.vie D_8 [.g 0, .g 1, .g 2, .g 3, .g 4, .g 5, .g 6, .g 7, .g 8, .g 9] c_9_7 (by kernel_rfl)
         refine SW.eff D_8 (i := 23) (bs' := (bm 26 16580607)) rfl (.inr ⟨_, _, _, _, rfl, rfl, rfl, hg_9⟩) rfl (e_b2s (l := x_1610.Value) tk rfl (.r (by kernel_rfl)) (by kernel_rfl)) (by kernel_rfl) rfl (by kernel_rfl) ?_
         exact SD.vie D_8 [.g 0, .g 1, .g 2, .g 3, .g 4, .g 5, .g 6, .g 7, .g 8, .g 9, .g 10] c_9_11 (by kernel_rfl)
       refine SD.lay 6 (bm 26 3997695) [(0, vs 0), (1, vs 1), (5, vi .i64 x_3), (28, vb (x_5.Key != x_6.Key)), (29, vs 0), (30, vi .i64 x_3), (31, vp 6 0), (32, vp 6 1), (35, vs 1), (36, vi .i64 x_3), (37, vp 8 0), (38, vp 8 1)] [.rd 2 R_T_api_Item a_1, .rd 2 R_T_api_Item b_2, .elt (some (0, x_3)) false [ci .u16 x_5.Key, .s 3], .rd 1 R8 x_5.Value, .elt (some (1, x_3)) false [ci .u16 x_6.Key, .s 5], .rd 1 R8 x_6.Value, .elt none false [ci .u16 x_1130.Key, .s 7], .rd 1 R8 x_1130.Value, .elt none false [ci .u16 x_1610.Key, .s 9], .rd 1 R8 x_1610.Value] ?_ (fun c_9_13 => ?_)
       · refine SD.all2 (i := 16) (j := 22) (by kernel_rfl) ?_ ?_
         · refine SW.eff D_8 (i := 16) (v := vs 7) (bs' := (bm 26 4063231)) rfl (.inr ⟨_, _, _, _, rfl, rfl, rfl, hg_9⟩) rfl (e_val tk (by kernel_rfl)) (by kernel_rfl) rfl (by kernel_rfl) ?_
           exact SD.vie D_8 [.g 0, .g 1, .g 2, .g 3, .g 4, .g 5, .g 6, .g 7, .g 8, .g 9] c_9_8 (by kernel_rfl)
         refine SW.eff D_8 (i := 22) (v := vs 9) (bs' := (bm 26 8191999)) rfl (.inr ⟨_, _, _, _, rfl, rfl, rfl, hg_9⟩) rfl (e_val tk (by kernel_rfl)) (by kernel_rfl) rfl (by kernel_rfl) ?_
         exact SD.vie D_8 [.g 0, .g 1, .g 2, .g 3, .g 4, .g 5, .g 6, .g 7, .g 8, .g 9] c_9_12 (by kernel_rfl)
       refine SD.lay 7 (bm 26 1900543) [(0, vs 0), (1, vs 1), (5, vi .i64 x_3), (28, vb (x_5.Key != x_6.Key)), (29, vs 0), (30, vi .i64 x_3), (31, vp 6 0), (32, vp 6 1), (35, vs 1), (36, vi .i64 x_3), (37, vp 8 0)] [.rd 2 R_T_api_Item a_1, .rd 2 R_T_api_Item b_2, .elt (some (0, x_3)) false [ci .u16 x_5.Key, .s 3], .rd 1 R8 x_5.Value, .elt (some (1, x_3)) false [ci .u16 x_6.Key, .s 5], .rd 1 R8 x_6.Value, .elt none false [ci .u16 x_1130.Key, .s 7], .rd 1 R8 x_1130.Value, .elt none false [ci .u16 x_1610.Key, .s 9], .rd 1 R8 x_1610.Value] ?_ (fun c_9_14 => ?_)
       · refine SD.all2 (i := 16) (j := 21) (by kernel_rfl) ?_ ?_
         · refine SW.eff D_8 (i := 16) (v := vs 7) (bs' := (bm 26 1966079)) rfl (.inr ⟨_, _, _, _, rfl, rfl, rfl, hg_9⟩) rfl (e_val tk (by kernel_rfl)) (by kernel_rfl) rfl (by kernel_rfl) ?_
           exact SD.vie D_8 [.g 0, .g 1, .g 2, .g 3, .g 4, .g 5, .g 6, .g 7, .g 8, .g 9] c_9_9 (by kernel_rfl)
         refine SW.eff D_8 (i := 21) (v := vp 8 1) (bs' := (bm 26 3997695)) rfl (.inr ⟨_, _, _, _, rfl, rfl, rfl, hg_9⟩) rfl (e_val tk (by kernel_rfl)) (by kernel_rfl) rfl (by kernel_rfl) ?_
         exact SD.vie D_8 [.g 0, .g 1, .g 2, .g 3, .g 4, .g 5, .g 6, .g 7, .g 8, .g 9] c_9_13 (by kernel_rfl)
       refine SD.lay 8 (bm 26 851967) [(0, vs 0), (1, vs 1), (5, vi .i64 x_3), (28, vb (x_5.Key != x_6.Key)), (29, vs 0), (30, vi .i64 x_3), (31, vp 6 0), (32, vp 6 1), (35, vs 1), (36, vi .i64 x_3)] [.rd 2 R_T_api_Item a_1, .rd 2 R_T_api_Item b_2, .elt (some (0, x_3)) false [ci .u16 x_5.Key, .s 3], .rd 1 R8 x_5.Value, .elt (some (1, x_3)) false [ci .u16 x_6.Key, .s 5], .rd 1 R8 x_6.Value, .elt none false [ci .u16 x_1130.Key, .s 7], .rd 1 R8 x_1130.Value] ?_ (fun c_9_15 => ?_)
       · refine SD.all2 (i := 16) (j := 20) (by kernel_rfl) ?_ ?_
         · refine SW.eff D_8 (i := 16) (v := vs 7) (bs' := (bm 26 917503)) rfl (.inr ⟨_, _, _, _, rfl, rfl, rfl, hg_9⟩) rfl (e_val tk (by kernel_rfl)) (by kernel_rfl) rfl (by kernel_rfl) ?_
           exact SD.vie D_8 [.g 0, .g 1, .g 2, .g 3, .g 4, .g 5, .g 6, .g 7] c_9_10 (by kernel_rfl)
         refine SW.pre (pre_ix (i := 1) (iv := x_3) (sz := 2) (R := R_T_api_Item) (l := b_2) (by kernel_rfl) rfl e_x_1610) ?_
         refine SW.eff D_8 (i := 20) (v := vp 8 0) (bs' := (bm 26 1900543)) rfl (.inr ⟨_, _, _, _, rfl, rfl, rfl, hg_9⟩) rfl (e_valE tk (.el 8) [x_3] (by kernel_rfl)) (by kernel_rfl) rfl (by kernel_rfl) ?_
         exact SD.vie D_8 [.g 0, .g 1, .g 2, .g 3, .g 4, .g 5, .g 6, .g 7, .g 8, .g 9] c_9_14 (by kernel_rfl)
       refine SD.lay 5 (bm 26 16547839) [(0, vs 0), (1, vs 1), (5, vi .i64 x_3), (28, vb (x_5.Key != x_6.Key)), (29, vs 0), (30, vi .i64 x_3), (31, vp 6 0), (35, vs 1), (36, vi .i64 x_3), (37, vp 8 0), (38, vp 8 1), (39, vs 9), (40, vt 10)] [.rd 2 R_T_api_Item a_1, .rd 2 R_T_api_Item b_2, .elt (some (0, x_3)) false [ci .u16 x_5.Key, .s 3], .rd 1 R8 x_5.Value, .elt (some (1, x_3)) false [ci .u16 x_6.Key, .s 5], .rd 1 R8 x_6.Value, .elt none false [ci .u16 x_1130.Key, .s 7], .rd 1 R8 x_1130.Value, .elt none false [ci .u16 x_1610.Key, .s 9], .rd 1 R8 x_1610.Value, .str (str x_1610.Value)] ?_ (fun c_9_16 => ?_)
       · refine SD.all1 (i := 15) (by kernel_rfl) ?_
         refine SW.eff D_8 (i := 15) (v := vp 6 1) (bs' := (bm 26 16580607)) rfl (.inr ⟨_, _, _, _, rfl, rfl, rfl, hg_9⟩) rfl (e_val tk (by kernel_rfl)) (by kernel_rfl) rfl (by kernel_rfl) ?_
         exact SD.vie D_8 [.g 0, .g 1, .g 2, .g 3, .g 4, .g 5, .g 6, .g 7, .g 8, .g 9, .g 10] c_9_11 (by kernel_rfl)
       refine SD.lay 6 (bm 26 8159231) [(0, vs 0), (1, vs 1), (5, vi .i64 x_3), (28, vb (x_5.Key != x_6.Key)), (29, vs 0), (30, vi .i64 x_3), (31, vp 6 0), (35, vs 1), (36, vi .i64 x_3), (37, vp 8 0), (38, vp 8 1), (39, vs 9)] [.rd 2 R_T_api_Item a_1, .rd 2 R_T_api_Item b_2, .elt (some (0, x_3)) false [ci .u16 x_5.Key, .s 3], .rd 1 R8 x_5.Value, .elt (some (1, x_3)) false [ci .u16 x_6.Key, .s 5], .rd 1 R8 x_6.Value, .elt none false [ci .u16 x_1130.Key, .s 7], .rd 1 R8 x_1130.Value, .elt none false [ci .u16 x_1610.Key, .s 9], .rd 1 R8 x_1610.Value] ?_ (fun c_9_17 => ?_)
       · refine SD.all2 (i := 15) (j := 23) (by kernel_rfl) ?_ ?_
         · refine SW.eff D_8 (i := 15) (v := vp 6 1) (bs' := (bm 26 8191999)) rfl (.inr ⟨_, _, _, _, rfl, rfl, rfl, hg_9⟩) rfl (e_val tk (by kernel_rfl)) (by kernel_rfl) rfl (by kernel_rfl) ?_
           exact SD.vie D_8 [.g 0, .g 1, .g 2, .g 3, .g 4, .g 5, .g 6, .g 7, .g 8, .g 9] c_9_12 (by kernel_rfl)
         refine SW.eff D_8 (i := 23) (bs' := (bm 26 16547839)) rfl (.inr ⟨_, _, _, _, rfl, rfl, rfl, hg_9⟩) rfl (e_b2s (l := x_1610.Value) tk rfl (.r (by kernel_rfl)) (by kernel_rfl)) (by kernel_rfl) rfl (by kernel_rfl) ?_
         exact SD.vie D_8 [.g 0, .g 1, .g 2, .g 3, .g 4, .g 5, .g 6, .g 7, .g 8, .g 9, .g 10] c_9_16 (by kernel_rfl)
       refine SD.lay 7 (bm 26 3964927) [(0, vs 0), (1, vs 1), (5, vi .i64 x_3), (28, vb (x_5.Key != x_6.Key)), (29, vs 0), (30, vi .i64 x_3), (31, vp 6 0), (35, vs 1), (36, vi .i64 x_3), (37, vp 8 0), (38, vp 8 1)] [.rd 2 R_T_api_Item a_1, .rd 2 R_T_api_Item b_2, .elt (some (0, x_3)) false [ci .u16 x_5.Key, .s 3], .rd 1 R8 x_5.Value, .elt (some (1, x_3)) false [ci .u16 x_6.Key, .s 5], .rd 1 R8 x_6.Value, .elt none false [ci .u16 x_1130.Key, .s 7], .rd 1 R8 x_1130.Value, .elt none false [ci .u16 x_1610.Key, .s 9], .rd 1 R8 x_1610.Value] ?_ (fun c_9_18 => ?_)
       · refine SD.all2 (i := 15) (j := 22) (by kernel_rfl) ?_ ?_
         · refine SW.eff D_8 (i := 15) (v := vp 6 1) (bs' := (bm 26 3997695)) rfl (.inr ⟨_, _, _, _, rfl, rfl, rfl, hg_9⟩) rfl (e_val tk (by kernel_rfl)) (by kernel_rfl) rfl (by kernel_rfl) ?_
           exact SD.vie D_8 [.g 0, .g 1, .g 2, .g 3, .g 4, .g 5, .g 6, .g 7, .g 8, .g 9] c_9_13 (by kernel_rfl)
         refine SW.eff D_8 (i := 22) (v := vs 9) (bs' := (bm 26 8159231)) rfl (.inr ⟨_, _, _, _, rfl, rfl, rfl, hg_9⟩) rfl (e_val tk (by kernel_rfl)) (by kernel_rfl) rfl (by kernel_rfl) ?_
         exact SD.vie D_8 [.g 0, .g 1, .g 2, .g 3, .g 4, .g 5, .g 6, .g 7, .g 8, .g 9] c_9_17 (by kernel_rfl)
       refine SD.lay 8 (bm 26 1867775) [(0, vs 0), (1, vs 1), (5, vi .i64 x_3), (28, vb (x_5.Key != x_6.Key)), (29, vs 0), (30, vi .i64 x_3), (31, vp 6 0), (35, vs 1), (36, vi .i64 x_3), (37, vp 8 0)] [.rd 2 R_T_api_Item a_1, .rd 2 R_T_api_Item b_2, .elt (some (0, x_3)) false [ci .u16 x_5.Key, .s 3], .rd 1 R8 x_5.Value, .elt (some (1, x_3)) false [ci .u16 x_6.Key, .s 5], .rd 1 R8 x_6.Value, .elt none false [ci .u16 x_1130.Key, .s 7], .rd 1 R8 x_1130.Value, .elt none false [ci .u16 x_1610.Key, .s 9], .rd 1 R8 x_1610.Value] ?_ (fun c_9_19 => ?_)
       · refine SD.all2 (i := 15) (j := 21) (by kernel_rfl) ?_ ?_
         · refine SW.eff D_8 (i := 15) (v := vp 6 1) (bs' := (bm 26 1900543)) rfl (.inr ⟨_, _, _, _, rfl, rfl, rfl, hg_9⟩) rfl (e_val tk (by kernel_rfl)) (by kernel_rfl) rfl (by kernel_rfl) ?_
           exact SD.vie D_8 [.g 0, .g 1, .g 2, .g 3, .g 4, .g 5, .g 6, .g 7, .g 8, .g 9] c_9_14 (by kernel_rfl)
         refine SW.eff D_8 (i := 21) (v := vp 8 1) (bs' := (bm 26 3964927)) rfl (.inr ⟨_, _, _, _, rfl, rfl, rfl, hg_9⟩) rfl (e_val tk (by kernel_rfl)) (by kernel_rfl) rfl (by kernel_rfl) ?_
         exact SD.vie D_8 [.g 0, .g 1, .g 2, .g 3, .g 4, .g 5, .g 6, .g 7, .g 8, .g 9] c_9_18 (by kernel_rfl)
       refine SD.lay 9 (bm 26 819199) [(0, vs 0), (1, vs 1), (5, vi .i64 x_3), (28, vb (x_5.Key != x_6.Key)), (29, vs 0), (30, vi .i64 x_3), (31, vp 6 0), (35, vs 1), (36, vi .i64 x_3)] [.rd 2 R_T_api_Item a_1, .rd 2 R_T_api_Item b_2, .elt (some (0, x_3)) false [ci .u16 x_5.Key, .s 3], .rd 1 R8 x_5.Value, .elt (some (1, x_3)) false [ci .u16 x_6.Key, .s 5], .rd 1 R8 x_6.Value, .elt none false [ci .u16 x_1130.Key, .s 7], .rd 1 R8 x_1130.Value] ?_ (fun c_9_20 => ?_)
       · refine SD.all2 (i := 15) (j := 20) (by kernel_rfl) ?_ ?_
         · refine SW.eff D_8 (i := 15) (v := vp 6 1) (bs' := (bm 26 851967)) rfl (.inr ⟨_, _, _, _, rfl, rfl, rfl, hg_9⟩) rfl (e_val tk (by kernel_rfl)) (by kernel_rfl) rfl (by kernel_rfl) ?_
           exact SD.vie D_8 [.g 0, .g 1, .g 2, .g 3, .g 4, .g 5, .g 6, .g 7] c_9_15 (by kernel_rfl)
         refine SW.pre (pre_ix (i := 1) (iv := x_3) (sz := 2) (R := R_T_api_Item) (l := b_2) (by kernel_rfl) rfl e_x_1610) ?_
         refine SW.eff D_8 (i := 20) (v := vp 8 0) (bs' := (bm 26 1867775)) rfl (.inr ⟨_, _, _, _, rfl, rfl, rfl, hg_9⟩) rfl (e_valE tk (.el 8) [x_3] (by kernel_rfl)) (by kernel_rfl) rfl (by kernel_rfl) ?_
         exact SD.vie D_8 [.g 0, .g 1, .g 2, .g 3, .g 4, .g 5, .g 6, .g 7, .g 8, .g 9] c_9_19 (by kernel_rfl)
       refine SD.lay 6 (bm 26 16531455) [(0, vs 0), (1, vs 1), (5, vi .i64 x_3), (28, vb (x_5.Key != x_6.Key)), (29, vs 0), (30, vi .i64 x_3), (35, vs 1), (36, vi .i64 x_3), (37, vp 6 0), (38, vp 6 1), (39, vs 7), (40, vt 8)] [.rd 2 R_T_api_Item a_1, .rd 2 R_T_api_Item b_2, .elt (some (0, x_3)) false [ci .u16 x_5.Key, .s 3], .rd 1 R8 x_5.Value, .elt (some (1, x_3)) false [ci .u16 x_6.Key, .s 5], .rd 1 R8 x_6.Value, .elt none false [ci .u16 x_1610.Key, .s 7], .rd 1 R8 x_1610.Value, .str (str x_1610.Value)] ?_ (fun c_9_21 => ?_)
       · refine SD.pre (pre_ix (i := 0) (iv := x_3) (sz := 2) (R := R_T_api_Item) (l := a_1) (by kernel_rfl) rfl e_x_1130) ?_
         refine SD.all1 (i := 14) (by kernel_rfl) ?_
         refine SW.eff D_8 (i := 14) (v := vp 9 0) (bs' := (bm 26 16547839)) rfl (.inr ⟨_, _, _, _, rfl, rfl, rfl, hg_9⟩) rfl (e_valE tk (.el 9) [x_3] (by kernel_rfl)) (by kernel_rfl) rfl (by kernel_rfl) ?_
         exact SD.vie D_8 [.g 0, .g 1, .g 2, .g 3, .g 4, .g 5, .g 9, .g 10, .g 6, .g 7, .g 8] c_9_16 (by kernel_rfl)
       refine SD.lay 7 (bm 26 8142847) [(0, vs 0), (1, vs 1), (5, vi .i64 x_3), (28, vb (x_5.Key != x_6.Key)), (29, vs 0), (30, vi .i64 x_3), (35, vs 1), (36, vi .i64 x_3), (37, vp 6 0), (38, vp 6 1), (39, vs 7)] [.rd 2 R_T_api_Item a_1, .rd 2 R_T_api_Item b_2, .elt (some (0, x_3)) false [ci .u16 x_5.Key, .s 3], .rd 1 R8 x_5.Value, .elt (some (1, x_3)) false [ci .u16 x_6.Key, .s 5], .rd 1 R8 x_6.Value, .elt none false [ci .u16 x_1610.Key, .s 7], .rd 1 R8 x_1610.Value] ?_ (fun c_9_22 => ?_)
       · refine SD.all2 (i := 14) (j := 23) (by kernel_rfl) ?_ ?_
         · refine SW.pre (pre_ix (i := 0) (iv := x_3) (sz := 2) (R := R_T_api_Item) (l := a_1) (by kernel_rfl) rfl e_x_1130) ?_
           refine SW.eff D_8 (i := 14) (v := vp 8 0) (bs' := (bm 26 8159231)) rfl (.inr ⟨_, _, _, _, rfl, rfl, rfl, hg_9⟩) rfl (e_valE tk (.el 8) [x_3] (by kernel_rfl)) (by kernel_rfl) rfl (by kernel_rfl) ?_
           exact SD.vie D_8 [.g 0, .g 1, .g 2, .g 3, .g 4, .g 5, .g 8, .g 9, .g 6, .g 7] c_9_17 (by kernel_rfl)
         refine SW.eff D_8 (i := 23) (bs' := (bm 26 16531455)) rfl (.inr ⟨_, _, _, _, rfl, rfl, rfl, hg_9⟩) rfl (e_b2s (l := x_1610.Value) tk rfl (.r (by kernel_rfl)) (by kernel_rfl)) (by kernel_rfl) rfl (by kernel_rfl) ?_
         exact SD.vie D_8 [.g 0, .g 1, .g 2, .g 3, .g 4, .g 5, .g 6, .g 7, .g 8] c_9_21 (by kernel_rfl)
       refine SD.lay 8 (bm 26 3948543) [(0, vs 0), (1, vs 1), (5, vi .i64 x_3), (28, vb (x_5.Key != x_6.Key)), (29, vs 0), (30, vi .i64 x_3), (35, vs 1), (36, vi .i64 x_3), (37, vp 6 0), (38, vp 6 1)] [.rd 2 R_T_api_Item a_1, .rd 2 R_T_api_Item b_2, .elt (some (0, x_3)) false [ci .u16 x_5.Key, .s 3], .rd 1 R8 x_5.Value, .elt (some (1, x_3)) false [ci .u16 x_6.Key, .s 5], .rd 1 R8 x_6.Value, .elt none false [ci .u16 x_1610.Key, .s 7], .rd 1 R8 x_1610.Value] ?_ (fun c_9_23 => ?_)
       · refine SD.all2 (i := 14) (j := 22) (by kernel_rfl) ?_ ?_
         · refine SW.pre (pre_ix (i := 0) (iv := x_3) (sz := 2) (R := R_T_api_Item) (l := a_1) (by kernel_rfl) rfl e_x_1130) ?_
           refine SW.eff D_8 (i := 14) (v := vp 8 0) (bs' := (bm 26 3964927)) rfl (.inr ⟨_, _, _, _, rfl, rfl, rfl, hg_9⟩) rfl (e_valE tk (.el 8) [x_3] (by kernel_rfl)) (by kernel_rfl) rfl (by kernel_rfl) ?_
           exact SD.vie D_8 [.g 0, .g 1, .g 2, .g 3, .g 4, .g 5, .g 8, .g 9, .g 6, .g 7] c_9_18 (by kernel_rfl)
         refine SW.eff D_8 (i := 22) (v := vs 7) (bs' := (bm 26 8142847)) rfl (.inr ⟨_, _, _, _, rfl, rfl, rfl, hg_9⟩) rfl (e_val tk (by kernel_rfl)) (by kernel_rfl) rfl (by kernel_rfl) ?_
         exact SD.vie D_8 [.g 0, .g 1, .g 2, .g 3, .g 4, .g 5, .g 6, .g 7] c_9_22 (by kernel_rfl)
       refine SD.lay 9 (bm 26 1851391) [(0, vs 0), (1, vs 1), (5, vi .i64 x_3), (28, vb (x_5.Key != x_6.Key)), (29, vs 0), (30, vi .i64 x_3), (35, vs 1), (36, vi .i64 x_3), (37, vp 6 0)] [.rd 2 R_T_api_Item a_1, .rd 2 R_T_api_Item b_2, .elt (some (0, x_3)) false [ci .u16 x_5.Key, .s 3], .rd 1 R8 x_5.Value, .elt (some (1, x_3)) false [ci .u16 x_6.Key, .s 5], .rd 1 R8 x_6.Value, .elt none false [ci .u16 x_1610.Key, .s 7], .rd 1 R8 x_1610.Value] ?_ (fun c_9_24 => ?_)
       · refine SD.all2 (i := 14) (j := 21) (by kernel_rfl) ?_ ?_
         · refine SW.pre (pre_ix (i := 0) (iv := x_3) (sz := 2) (R := R_T_api_Item) (l := a_1) (by kernel_rfl) rfl e_x_1130) ?_
           refine SW.eff D_8 (i := 14) (v := vp 8 0) (bs' := (bm 26 1867775)) rfl (.inr ⟨_, _, _, _, rfl, rfl, rfl, hg_9⟩) rfl (e_valE tk (.el 8) [x_3] (by kernel_rfl)) (by kernel_rfl) rfl (by kernel_rfl) ?_
           exact SD.vie D_8 [.g 0, .g 1, .g 2, .g 3, .g 4, .g 5, .g 8, .g 9, .g 6, .g 7] c_9_19 (by kernel_rfl)
         refine SW.eff D_8 (i := 21) (v := vp 6 1) (bs' := (bm 26 3948543)) rfl (.inr ⟨_, _, _, _, rfl, rfl, rfl, hg_9⟩) rfl (e_val tk (by kernel_rfl)) (by kernel_rfl) rfl (by kernel_rfl) ?_
         exact SD.vie D_8 [.g 0, .g 1, .g 2, .g 3, .g 4, .g 5, .g 6, .g 7] c_9_23 (by kernel_rfl)
       refine SD.all2 (i := 14) (j := 20) (by kernel_rfl) ?_ ?_
       · refine SW.pre (pre_ix (i := 0) (iv := x_3) (sz := 2) (R := R_T_api_Item) (l := a_1) (by kernel_rfl) rfl e_x_1130) ?_
         refine SW.eff D_8 (i := 14) (v := vp 6 0) (bs' := (bm 26 819199)) rfl (.inr ⟨_, _, _, _, rfl, rfl, rfl, hg_9⟩) rfl (e_valE tk (.el 6) [x_3] (by kernel_rfl)) (by kernel_rfl) rfl (by kernel_rfl) ?_
         exact SD.vie D_8 [.g 0, .g 1, .g 2, .g 3, .g 4, .g 5, .g 6, .g 7] c_9_20 (by kernel_rfl)
       refine SW.pre (pre_ix (i := 1) (iv := x_3) (sz := 2) (R := R_T_api_Item) (l := b_2) (by kernel_rfl) rfl e_x_1610) ?_
       refine SW.eff D_8 (i := 20) (v := vp 6 0) (bs' := (bm 26 1851391)) rfl (.inr ⟨_, _, _, _, rfl, rfl, rfl, hg_9⟩) rfl (e_valE tk (.el 6) [x_3] (by kernel_rfl)) (by kernel_rfl) rfl (by kernel_rfl) ?_
       exact SD.vie D_8 [.g 0, .g 1, .g 2, .g 3, .g 4, .g 5, .g 6, .g 7] c_9_24 (by kernel_rfl)
     rintro a w ⟨z_4, hp, h⟩
     refine h.go ?_
     refine SC.if' rfl hp (fun hp => ?_) (fun hp => ?_)
     · refine SC.r tk [(4, vb false)] [] [] [] (by kernel_rfl) ?_
       have ho := done_inv hp hs1
       replace hp := ho1
       try rw [ho] at hp
       obtain rfl := some_inv' hp
       exact SC.re (js := [.g 0, .g 1]) tk (by kernel_rfl)
     refine SC.skipThen ?_
     refine SC.reg ?_
     refine SL.sim tk 3 [(0, vs 0), (1, vs 1), (5, vi .i64 (w64 (x_3 + 1)))] [] [] [] (by kernel_rfl) ?_
     refine SL.nilJ fun a w h => ?_
     exact ⟨n1, Nat.lt_succ_self _, w64 (x_3 + 1), next_inv hp hs1, h.at (js := [.g 0, .g 1]) (by kernel_rfl)⟩
   refine SC.exitJ rfl fun a w h => ?_
   have ho := done_inv hp hs1
   replace hp := ho1
   try rw [ho] at hp
   exact ⟨hp, h.at (js := [.g 0, .g 1]) (by kernel_rfl)⟩
 rintro a w ⟨hp, h⟩
 refine h.go ?_
 refine SC.r tk [(4, vb true)] [] [] [] (by kernel_rfl) ?_
 obtain rfl := some_inv' hp
 exact SC.re (js := [.g 0, .g 1]) tk (by kernel_rfl)

theorem ok_wirelessref39_Same (F : Nat) (a_1 : T_api_Store) (b_2 : T_api_Store) (r : Bool) (hp : wirelessref39_Same F a_1 b_2 = some r) : Spec Tryd.prog 18 [.g (C_api_Store a_1 (.s 0) (.s 1) (.s 2)), .g (C_api_Store b_2 (.s 3) (.s 4) (.s 5))] [.rd 1 R8 a_1.Flash.Banks.1, .rd 1 R8 a_1.Flash.Banks.2, .rd 2 R_T_api_Item a_1.Items, .rd 1 R8 b_2.Flash.Banks.1, .rd 1 R8 b_2.Flash.Banks.2, .rd 2 R_T_api_Item b_2.Items] (vb r) [.gone, .gone, .gone, .gone, .gone, .gone] := by
 refine Spec.enter Tryd.func18 rfl Tryd.ntmps18 rfl rfl fun fx => ?_
 refine SC.seq ?_
 refine SC.reg ?_
 refine SL.eff (e_box (E := 40) (C_api_Store a_1 (.s 0) (.s 1) (.s 2)) (by kernel_rfl)) rfl (by kernel_rfl) ?_
 refine SL.eff (e_box (E := 40) (C_api_Store b_2 (.s 3) (.s 4) (.s 5)) (by kernel_rfl)) rfl (by kernel_rfl) ?_
 refine SL.sim tk 1 [(2, vp 6 0), (3, vp 7 0)] [] [] [] (by kernel_rfl) ?_
 refine SL.nilThen ?_
 refine SC.seq ?_
 refine SC.reg ?_
 refine SL.sim tk 4 [(2, vp 6 0), (3, vp 7 0), (6, .g [.s 0, .s 1]), (8, .g [.s 3, .s 4])] [] [] [] (by kernel_rfl) ?_
 obtain ⟨x_3, e_x_3, hp⟩ := bind_inv hp
 refine SL.eff (e_c Tryd.call12 (ok_wirelessref39_SameFlash F a_1.Flash b_2.Flash _ e_x_3) [.g 0, .g 1, .g 3, .g 4] [.g [.s 0, .s 1], .g [.s 3, .s 4]] (vb x_3) (by kernel_rfl) (.inl rfl)) rfl (by kernel_rfl) ?_
 refine SL.norm (itsN := [.rd 1 R8 a_1.Flash.Banks.1, .rd 1 R8 a_1.Flash.Banks.2, .rd 2 R_T_api_Item a_1.Items, .rd 1 R8 b_2.Flash.Banks.1, .rd 1 R8 b_2.Flash.Banks.2, .rd 2 R_T_api_Item b_2.Items, .blk 40 (C_api_Store a_1 (.s 0) (.s 1) (.s 2)), .blk 40 (C_api_Store b_2 (.s 3) (.s 4) (.s 5))]) (by kernel_rfl) ?_
 refine SL.sim tk 22 [(2, vp 6 0), (3, vp 7 0), (31, vb (((x_3 && (a_1.Bank == b_2.Bank)) && (a_1.Count == b_2.Count)) && (a_1.End == b_2.End)))] [] [] [] (by kernel_rfl) ?_
 obtain ⟨z_5, hz, hpr⟩ := bind_inv hp
 clear hp
 refine SL.cutAt 6 (fun a w => A 38 6 fx [(37, vb z_5)] [.gone, .gone, .gone, .gone, .gone, .gone] a w) ?_ ?_
 · have hp := hz
   rcases Bool.eq_false_or_eq_true ((((x_3 && (a_1.Bank == b_2.Bank)) && (a_1.Count == b_2.Count)) && (a_1.End == b_2.End))) with hg_4 | hg_4
   · replace hp := if_t hp hg_4
     refine SL.yes rfl rfl hg_4 ?_
     refine SL.sim tk 1 [(3, vp 7 0), (31, vb (((x_3 && (a_1.Bank == b_2.Bank)) && (a_1.Count == b_2.Count)) && (a_1.End == b_2.End))), (32, vp 6 5)] [] [] [] (by kernel_rfl) ?_
     refine SL.yes rfl rfl hg_4 ?_
     refine SL.sim tk 1 [(3, vp 7 0), (31, vb (((x_3 && (a_1.Bank == b_2.Bank)) && (a_1.Count == b_2.Count)) && (a_1.End == b_2.End))), (33, vs 2)] [] [] [] (by kernel_rfl) ?_
     refine SL.yes rfl rfl hg_4 ?_
     refine SL.sim tk 1 [(31, vb (((x_3 && (a_1.Bank == b_2.Bank)) && (a_1.Count == b_2.Count)) && (a_1.End == b_2.End))), (33, vs 2), (34, vp 7 5)] [] [] [] (by kernel_rfl) ?_
     refine SL.yes rfl rfl hg_4 ?_
     refine SL.sim tk 1 [(31, vb (((x_3 && (a_1.Bank == b_2.Bank)) && (a_1.Count == b_2.Count)) && (a_1.End == b_2.End))), (33, vs 2), (35, vs 5)] [] [] [] (by kernel_rfl) ?_
     refine SL.yes rfl rfl hg_4 ?_
     obtain ⟨x_7, e_x_7, hp⟩ := bind_inv hp
     refine SL.eff (e_c Tryd.call27 (ok_wirelessref39_SameItems F a_1.Items b_2.Items _ e_x_7) [.g 2, .g 5] [vs 2, vs 5] (vb x_7) (by kernel_rfl) (.inl rfl)) rfl (by kernel_rfl) ?_
     refine SL.pickt rfl hg_4 rfl rfl ?_
     refine SL.nilJ fun a w h => ?_
     obtain rfl := some_inv' hp
     exact h.at (js := [.g 0, .g 1, .g 2, .g 3, .g 4, .g 5]) (by kernel_rfl)
   replace hp := if_f hp hg_4
   refine SL.no rfl rfl hg_4 rfl ?_
   refine SL.no rfl rfl hg_4 rfl ?_
   refine SL.no rfl rfl hg_4 rfl ?_
   refine SL.no rfl rfl hg_4 rfl ?_
   refine SL.no rfl rfl hg_4 rfl ?_
   refine SL.pickf rfl hg_4 rfl rfl ?_
   refine SL.nilJ fun a w h => ?_
   obtain rfl := some_inv' hp
   exact h.at (js := [.g 0, .g 1, .g 2, .g 3, .g 4, .g 5]) (by kernel_rfl)
 intro a w h
 have hp := hpr; clear hpr hz
 refine h.goL ?_
 refine SL.sim tk 1 [(4, vb z_5)] [] [] [] (by kernel_rfl) ?_
 refine SL.nilThen ?_
 obtain rfl := some_inv' hp
 exact SC.re (js := [.g 0, .g 1, .g 2, .g 3, .g 4, .g 5]) tk (by kernel_rfl)

theorem ok_wirelesslaw39_FlashPlans (F : Nat) (f_1 : T_api_Flash) (key_2 : Int) (value_3 : (List Int)) (r : Bool) (hp : wirelesslaw39_FlashPlans F f_1 key_2 value_3 = some r) : Spec Tryd.prog 5 [.g [.s 0, .s 1], vi .u16 key_2, vs 2] [.rd 1 R8 f_1.Banks.1, .rd 1 R8 f_1.Banks.2, .rd 1 R8 value_3] (vb r) [.gone, .gone, .gone] := by
 refine Spec.enter Tryd.func5 rfl Tryd.ntmps5 rfl rfl fun fx => ?_
 refine SC.seq ?_
 refine SC.reg ?_
 refine SL.eff (e_box (E := 25) [.s 0, .s 1] (by kernel_rfl)) rfl (by kernel_rfl) ?_
 refine SL.sim tk 1 [(1, vi .u16 key_2), (2, vs 2), (3, vp 3 0)] [] [] [] (by kernel_rfl) ?_
 refine SL.nilThen ?_
 refine SC.seq ?_
 refine SC.seq ?_
 refine SC.reg ?_
 obtain ⟨x_4, e_x_4, hp⟩ := bind_inv hp
 refine SL.eff (e_c Tryd.call8 (ok_wirelesslaw39_lives F  _ e_x_4) [] [] (vb x_4) (by kernel_rfl) (.inl rfl)) rfl (by kernel_rfl) ?_
 refine SL.sim tk 1 [(1, vi .u16 key_2), (2, vs 2), (3, vp 3 0), (18, vb (!x_4))] [] [] [] (by kernel_rfl) ?_
 refine SL.nilThen ?_
 refine SC.if' rfl hp (fun hp => ?_) (fun hp => ?_)
 · refine SC.r tk [(6, vb false)] [] [] [] (by kernel_rfl) ?_
   obtain rfl := some_inv' hp
   exact SC.re (js := [.g 0, .g 1, .g 2]) tk (by kernel_rfl)
 refine SC.skipThen ?_
 refine SC.seq ?_
 refine SC.seq ?_
 refine SC.reg ?_
 refine SL.sim tk 1 [(1, vi .u16 key_2), (2, vs 2), (3, vp 3 0), (19, vp 3 0)] [] [] [] (by kernel_rfl) ?_
 refine SL.eff (e_ixa (off := 0) (T := 25) (cs := [.s 0, .s 1]) tk rfl rfl (by kernel_rfl) (by kernel_rfl)) rfl (by kernel_rfl) ?_
 refine SL.norm (itsN := [.rd 1 R8 f_1.Banks.1, .rd 1 R8 f_1.Banks.2, .rd 1 R8 value_3, .blk 25 [.s 0, .s 1]]) (by kernel_rfl) ?_
 refine SL.sim tk 4 [(1, vi .u16 key_2), (2, vs 2), (3, vp 3 0), (24, vb (decide ((len f_1.Banks.1) > 4096)))] [] [] [] (by kernel_rfl) ?_
 obtain ⟨z_6, hz, hpr⟩ := bind_inv hp
 clear hp
 refine SL.cutAt 6 (fun a w => A 96 3 fx [(1, vi .u16 key_2), (2, vs 2), (3, vp 3 0), (30, vb z_6)] [.rd 1 R8 f_1.Banks.1, .rd 1 R8 f_1.Banks.2, .rd 1 R8 value_3, .blk 25 [.s 0, .s 1]] a w) ?_ ?_
 · have hp := hz
   rcases Bool.eq_false_or_eq_true (decide ((len f_1.Banks.1) > 4096)) with hg_5 | hg_5
   · replace hp := if_t hp hg_5
     refine SL.no rfl rfl hg_5 rfl ?_
     refine SL.no rfl rfl hg_5 rfl ?_
     refine SL.no rfl rfl hg_5 rfl ?_
     refine SL.no rfl rfl hg_5 rfl ?_
     refine SL.no rfl rfl hg_5 rfl ?_
     refine SL.pickt rfl hg_5 rfl rfl ?_
     refine SL.nilJ fun a w h => ?_
     obtain rfl := some_inv' hp
     exact h.at (js := [.g 0, .g 1, .g 2, .g 3]) (by kernel_rfl)
   replace hp := if_f hp hg_5
   refine SL.yes rfl rfl hg_5 ?_
   refine SL.sim tk 1 [(1, vi .u16 key_2), (2, vs 2), (3, vp 3 0), (24, vb (decide ((len f_1.Banks.1) > 4096))), (25, vp 3 0)] [] [] [] (by kernel_rfl) ?_
   refine SL.yes rfl rfl hg_5 ?_
   refine SL.eff (e_ixa (off := 1) (T := 25) (cs := [.s 0, .s 1]) tk rfl rfl (by kernel_rfl) (by kernel_rfl)) rfl (by kernel_rfl) ?_
   refine SL.yes rfl rfl hg_5 ?_
   refine SL.sim tk 1 [(1, vi .u16 key_2), (2, vs 2), (3, vp 3 0), (24, vb (decide ((len f_1.Banks.1) > 4096))), (27, vs 1)] [] [] [] (by kernel_rfl) ?_
   refine SL.yes rfl rfl hg_5 ?_
   refine SL.sim tk 1 [(1, vi .u16 key_2), (2, vs 2), (3, vp 3 0), (24, vb (decide ((len f_1.Banks.1) > 4096))), (28, vi .i64 (len f_1.Banks.2))] [] [] [] (by kernel_rfl) ?_
   refine SL.yes rfl rfl hg_5 ?_
   refine SL.sim tk 1 [(1, vi .u16 key_2), (2, vs 2), (3, vp 3 0), (24, vb (decide ((len f_1.Banks.1) > 4096))), (29, vb (decide ((len f_1.Banks.2) > 4096)))] [] [] [] (by kernel_rfl) ?_
   refine SL.pickf rfl hg_5 rfl rfl ?_
   refine SL.nilJ fun a w h => ?_
   obtain rfl := some_inv' hp
   exact h.at (js := [.g 0, .g 1, .g 2, .g 3]) (by kernel_rfl)
 intro a w h
 have hp := hpr; clear hpr hz
 refine h.goL ?_
 refine SL.sim tk 5 [(1, vi .u16 key_2), (2, vs 2), (3, vp 3 0), (35, vb (z_6 || (decide ((len value_3) > 4096))))] [] [] [] (by kernel_rfl) ?_
 refine SL.nilThen ?_
 refine SC.if' rfl hp (fun hp => ?_) (fun hp => ?_)
 · refine SC.r tk [(6, vb true)] [] [] [] (by kernel_rfl) ?_
   obtain rfl := some_inv' hp
   exact SC.re (js := [.g 0, .g 1, .g 2]) tk (by kernel_rfl)
 refine SC.skipThen ?_
 refine SC.seq ?_
 refine SC.reg ?_
 refine SL.sim tk 1 [(1, vi .u16 key_2), (2, vs 2), (3, vp 3 0), (37, .g [.s 0, .s 1])] [] [] [] (by kernel_rfl) ?_
 obtain ⟨x_7, e_x_7, hp⟩ := bind_inv hp
 refine SL.eff (e_c Tryd.call14 (ok_wirelessref39_Copy F f_1 _ e_x_7) [.g 0, .g 1] [.g [.s 0, .s 1]] (.g [.s 4, .s 5]) (by kernel_rfl) (.inl rfl)) rfl (by kernel_rfl) ?_
 obtain ⟨x_8, e_x_8, hp⟩ := bind_inv hp
 refine SL.pre (pre_frz (i := 4) (sz := 1) (E := 5) (R := R8) (l := x_7.Banks.1) (by kernel_rfl)) ?_
 refine SL.pre (pre_frz (i := 5) (sz := 1) (E := 5) (R := R8) (l := x_7.Banks.2) (by kernel_rfl)) ?_
 refine SL.eff (e_c Tryd.call16 (ok_flash_Mount F x_7 _ e_x_8) [.g 4, .g 5] [.g [.s 4, .s 5]] (.u [.inr (C_api_Store x_8.1 (.s 6) (.s 7) (.s 8)), .inl (ci .i64 x_8.2)]) (by kernel_rfl) (.inl rfl)) rfl (by kernel_rfl) ?_
 refine SL.norm (itsN := [.rd 1 R8 f_1.Banks.1, .rd 1 R8 f_1.Banks.2, .rd 1 R8 value_3, .blk 25 [.s 0, .s 1], .rd 1 R8 x_7.Banks.1, .rd 1 R8 x_7.Banks.2, .rd 1 R8 x_8.1.Flash.Banks.1, .rd 1 R8 x_8.1.Flash.Banks.2, .rd 2 R_T_api_Item x_8.1.Items]) (by kernel_rfl) ?_
 refine SL.sim tk 3 [(1, vi .u16 key_2), (2, vs 2), (3, vp 3 0), (40, .g (C_api_Store x_8.1 (.s 6) (.s 7) (.s 8))), (41, vi .i64 x_8.2)] [] [] [] (by kernel_rfl) ?_
 refine SL.eff (e_alloc (E := 40) tk [nl, nl, ci .i64 0, ci .i64 0, ci .i64 0, nl] (by kernel_rfl)) rfl (by kernel_rfl) ?_
 refine SL.sim tk 2 [(1, vi .u16 key_2), (2, vs 2), (3, vp 3 0), (7, vp 9 0), (8, vi .i64 x_8.2)] [(9, 40, (C_api_Store x_8.1 (.s 6) (.s 7) (.s 8)))] [] [] (by kernel_rfl) ?_
 refine SL.nilThen ?_
 refine SC.seq ?_
 refine SC.r tk [(1, vi .u16 key_2), (2, vs 2), (3, vp 3 0), (7, vp 9 0), (43, vb (x_8.2 != 0))] [] [] [] (by kernel_rfl) ?_
 refine SC.if' rfl hp (fun hp => ?_) (fun hp => ?_)
 · refine SC.r tk [(6, vb true)] [] [] [] (by kernel_rfl) ?_
   obtain rfl := some_inv' hp
   exact SC.re (js := [.g 0, .g 1, .g 2]) tk (by kernel_rfl)
 refine SC.skipThen ?_
 refine SC.seq ?_
 refine SC.reg ?_
 refine SL.sim tk 1 [(1, vi .u16 key_2), (2, vs 2), (7, vp 9 0), (45, .g [.s 0, .s 1])] [] [] [] (by kernel_rfl) ?_
 obtain ⟨x_9, e_x_9, hp⟩ := bind_inv hp
 refine SL.eff (e_c Tryd.call17 (ok_wirelessref39_Mount F f_1 _ e_x_9) [.g 0, .g 1] [.g [.s 0, .s 1]] (.u [.inr (C_api_Store x_9.1 (.s 10) (.s 11) (.s 12)), .inl (ci .i64 x_9.2)]) (by kernel_rfl) (.inl rfl)) rfl (by kernel_rfl) ?_
 refine SL.norm (itsN := [.rd 1 R8 f_1.Banks.1, .rd 1 R8 f_1.Banks.2, .rd 1 R8 value_3, .blk 25 [.s 0, .s 1], .rd 1 R8 x_7.Banks.1, .rd 1 R8 x_7.Banks.2, .rd 1 R8 x_8.1.Flash.Banks.1, .rd 1 R8 x_8.1.Flash.Banks.2, .rd 2 R_T_api_Item x_8.1.Items, .blk 40 (C_api_Store x_8.1 (.s 6) (.s 7) (.s 8)), .rd 1 R8 x_9.1.Flash.Banks.1, .rd 1 R8 x_9.1.Flash.Banks.2, .rd 2 R_T_api_Item x_9.1.Items]) (by kernel_rfl) ?_
 refine SL.sim tk 3 [(1, vi .u16 key_2), (2, vs 2), (7, vp 9 0), (47, .g (C_api_Store x_9.1 (.s 10) (.s 11) (.s 12))), (48, vi .i64 x_9.2)] [] [] [] (by kernel_rfl) ?_
 refine SL.eff (e_alloc (E := 40) tk [nl, nl, ci .i64 0, ci .i64 0, ci .i64 0, nl] (by kernel_rfl)) rfl (by kernel_rfl) ?_
 refine SL.sim tk 2 [(1, vi .u16 key_2), (2, vs 2), (7, vp 9 0), (9, vp 13 0)] [(13, 40, (C_api_Store x_9.1 (.s 10) (.s 11) (.s 12)))] [] [] (by kernel_rfl) ?_
 refine SL.nilThen ?_
 refine SC.cut (fun a w => ∃ (l_10 : (List T_api_Write)) (x_11 : Int), wirelesslaw39_FlashPlans_j1 F key_2 value_3 x_8 x_9 l_10 x_11 = some r ∧ A 96 3 fx [(1, vi .u16 key_2), (2, vs 2), (7, vp 3 0), (9, vp 7 0), (11, vs 11), (12, vi .i64 x_11)] [.gone, .gone, .rd 1 R8 value_3, .blk 40 (C_api_Store x_8.1 (.s 4) (.s 5) (.s 6)), .rd 1 R8 x_8.1.Flash.Banks.1, .rd 1 R8 x_8.1.Flash.Banks.2, .rd 2 R_T_api_Item x_8.1.Items, .blk 40 (C_api_Store x_9.1 (.s 8) (.s 9) (.s 10)), .rd 1 R8 x_9.1.Flash.Banks.1, .rd 1 R8 x_9.1.Flash.Banks.2, .rd 2 R_T_api_Item x_9.1.Items, .rd 4 R_T_api_Write l_10] a w) ?_ ?_
 · refine SC.draw MO (bm 14 16383) (by kernel_rfl) fun kap_992 D_993 => ?_
   refine SD.takes tk D_993 [] kn0 [0, 1, 2] [] [] (bm 10 7) [(1, vi .u16 key_2), (2, vs 2), (7, vp 9 0), (9, vp 13 0), (50, .g (C_api_Store x_8.1 (.s 6) (.s 7) (.s 8))), (51, vi .u16 key_2), (52, vs 2)] rfl (by kernel_rfl) (by kernel_rfl) (by kernel_rfl) ?_
   obtain ⟨x_994, e_x_994, hp⟩ := bind_inv hp
   refine SD.all1 (i := 3) (by kernel_rfl) ?_
   refine SW.eff D_993 (i := 3) (bs' := (bm 10 15)) rfl (.inl rfl) rfl (e_c Tryd.call11 (ok_wirelesslaw39_copied F value_3 _ e_x_994) [.g 2] [vs 2] (vs 14) (by kernel_rfl) (.inl rfl)) (by kernel_rfl) rfl (by kernel_rfl) ?_
   refine SD.norm (itsN := [.rd 1 R8 f_1.Banks.1, .rd 1 R8 f_1.Banks.2, .rd 1 R8 value_3, .blk 25 [.s 0, .s 1], .rd 1 R8 x_7.Banks.1, .rd 1 R8 x_7.Banks.2, .rd 1 R8 x_8.1.Flash.Banks.1, .rd 1 R8 x_8.1.Flash.Banks.2, .rd 2 R_T_api_Item x_8.1.Items, .blk 40 (C_api_Store x_8.1 (.s 6) (.s 7) (.s 8)), .rd 1 R8 x_9.1.Flash.Banks.1, .rd 1 R8 x_9.1.Flash.Banks.2, .rd 2 R_T_api_Item x_9.1.Items, .blk 40 (C_api_Store x_9.1 (.s 10) (.s 11) (.s 12)), .rd 1 R8 x_994]) (by kernel_rfl) ?_
   obtain ⟨x_995, e_x_995, hp⟩ := bind_inv hp
   refine SD.all1 (i := 4) (by kernel_rfl) ?_
   refine SW.eff D_993 (i := 4) (bs' := (bm 10 31)) rfl (.inl rfl) rfl (e_c Tryd.call22 (ok_flash_Plan F x_8.1 key_2 x_994 _ e_x_995) [.g 6, .g 7, .g 8, .g 14] [.g (C_api_Store x_8.1 (.s 6) (.s 7) (.s 8)), vi .u16 key_2, vs 14] (.u [.inl (.s 15), .inl (ci .i64 x_995.2)]) (by kernel_rfl) (.inl rfl)) (by kernel_rfl) rfl (by kernel_rfl) ?_
   refine SD.takes tk D_993 [] kn0 [5, 6, 7, 8, 9] [] [] (bm 10 1023) [(1, vi .u16 key_2), (2, vs 2), (7, vp 9 0), (9, vp 13 0), (11, vs 15), (12, vi .i64 x_995.2)] rfl (by kernel_rfl) (by kernel_rfl) (by kernel_rfl) ?_
   refine SD.done (by kernel_rfl) fun a w h => ?_
   exact ⟨x_995.1, x_995.2, hp, h.at (js := [.g 0, .g 1, .g 2, .g 9, .g 6, .g 7, .g 8, .g 13, .g 10, .g 11, .g 12, .g 15]) (by kernel_rfl)⟩
 rintro a w ⟨l_10, x_11, hp, h⟩
 refine h.go ?_
 refine SC.seq ?_
 refine SC.reg ?_
 refine SL.sim tk 3 [(1, vi .u16 key_2), (2, vs 2), (7, vp 3 0), (9, vp 7 0), (11, vs 11), (12, vi .i64 x_11), (58, .g (C_api_Store x_9.1 (.s 8) (.s 9) (.s 10))), (59, vi .u16 key_2), (60, vs 2)] [] [] [] (by kernel_rfl) ?_
 obtain ⟨x_12, e_x_12, hp⟩ := bind_inv hp
 refine SL.eff (e_c Tryd.call23 (ok_wirelessref39_Plan F x_9.1 key_2 value_3 _ e_x_12) [.g 8, .g 9, .g 10, .g 2] [.g (C_api_Store x_9.1 (.s 8) (.s 9) (.s 10)), vi .u16 key_2, vs 2] (.u [.inl (.s 12), .inl (ci .i64 x_12.2)]) (by kernel_rfl) (.inl rfl)) rfl (by kernel_rfl) ?_
 refine SL.sim tk 5 [(1, vi .u16 key_2), (2, vs 2), (7, vp 3 0), (9, vp 7 0), (11, vs 11), (12, vi .i64 x_11), (13, vs 12), (14, vi .i64 x_12.2)] [] [] [] (by kernel_rfl) ?_
 refine SL.nilThen ?_
 refine SC.seq ?_
 refine SC.seq ?_
 refine SC.reg ?_
 refine SL.sim tk 4 [(1, vi .u16 key_2), (2, vs 2), (7, vp 3 0), (9, vp 7 0), (11, vs 11), (13, vs 12), (67, vb (x_11 != x_12.2))] [] [] [] (by kernel_rfl) ?_
 obtain ⟨z_14, hz, hpr⟩ := bind_inv hp
 clear hp
 refine SL.cutAt 5 (fun a w => A 96 3 fx [(1, vi .u16 key_2), (2, vs 2), (7, vp 3 0), (9, vp 7 0), (72, vb z_14)] [.gone, .gone, .rd 1 R8 value_3, .blk 40 (C_api_Store x_8.1 (.s 4) (.s 5) (.s 6)), .rd 1 R8 x_8.1.Flash.Banks.1, .rd 1 R8 x_8.1.Flash.Banks.2, .rd 2 R_T_api_Item x_8.1.Items, .blk 40 (C_api_Store x_9.1 (.s 8) (.s 9) (.s 10)), .rd 1 R8 x_9.1.Flash.Banks.1, .rd 1 R8 x_9.1.Flash.Banks.2, .rd 2 R_T_api_Item x_9.1.Items] a w) ?_ ?_
 · have hp := hz
   rcases Bool.eq_false_or_eq_true ((x_11 != x_12.2)) with hg_13 | hg_13
   · replace hp := if_t hp hg_13
     refine SL.no rfl rfl hg_13 rfl ?_
     refine SL.no rfl rfl hg_13 rfl ?_
     refine SL.no rfl rfl hg_13 rfl ?_
     refine SL.no rfl rfl hg_13 rfl ?_
     refine SL.pickt rfl hg_13 rfl rfl ?_
     refine SL.nilJ fun a w h => ?_
     obtain rfl := some_inv' hp
     exact h.at (js := [.g 0, .g 1, .g 2, .g 3, .g 4, .g 5, .g 6, .g 7, .g 8, .g 9, .g 10]) (by kernel_rfl)
   replace hp := if_f hp hg_13
   refine SL.yes rfl rfl hg_13 ?_
   refine SL.sim tk 1 [(1, vi .u16 key_2), (2, vs 2), (7, vp 3 0), (9, vp 7 0), (13, vs 12), (67, vb (x_11 != x_12.2)), (68, vs 11)] [] [] [] (by kernel_rfl) ?_
   refine SL.yes rfl rfl hg_13 ?_
   refine SL.sim tk 1 [(1, vi .u16 key_2), (2, vs 2), (7, vp 3 0), (9, vp 7 0), (67, vb (x_11 != x_12.2)), (68, vs 11), (69, vs 12)] [] [] [] (by kernel_rfl) ?_
   refine SL.yes rfl rfl hg_13 ?_
   obtain ⟨x_991, e_x_991, hp⟩ := bind_inv hp
   refine SL.eff (e_c Tryd.call24 (ok_wirelessref39_SameWrites F l_10 x_12.1 _ e_x_991) [.g 11, .g 12] [vs 11, vs 12] (vb x_991) (by kernel_rfl) (.inl rfl)) rfl (by kernel_rfl) ?_
   refine SL.norm (itsN := [.gone, .gone, .rd 1 R8 value_3, .blk 40 (C_api_Store x_8.1 (.s 4) (.s 5) (.s 6)), .rd 1 R8 x_8.1.Flash.Banks.1, .rd 1 R8 x_8.1.Flash.Banks.2, .rd 2 R_T_api_Item x_8.1.Items, .blk 40 (C_api_Store x_9.1 (.s 8) (.s 9) (.s 10)), .rd 1 R8 x_9.1.Flash.Banks.1, .rd 1 R8 x_9.1.Flash.Banks.2, .rd 2 R_T_api_Item x_9.1.Items, .rd 4 R_T_api_Write l_10, .rd 4 R_T_api_Write x_12.1]) (by kernel_rfl) ?_
   refine SL.yes rfl rfl hg_13 ?_
   refine SL.sim tk 1 [(1, vi .u16 key_2), (2, vs 2), (7, vp 3 0), (9, vp 7 0), (67, vb (x_11 != x_12.2)), (71, vb (!x_991))] [] [] [] (by kernel_rfl) ?_
   refine SL.pickf rfl hg_13 rfl rfl ?_
   refine SL.nilJ fun a w h => ?_
   obtain rfl := some_inv' hp
   exact h.at (js := [.g 0, .g 1, .g 2, .g 3, .g 4, .g 5, .g 6, .g 7, .g 8, .g 9, .g 10]) (by kernel_rfl)
 intro a w h
 have hp := hpr; clear hpr hz
 refine h.goL ?_
 refine SL.nilThen ?_
 refine SC.if' rfl hp (fun hp => ?_) (fun hp => ?_)
 · refine SC.r tk [(6, vb false)] [] [] [] (by kernel_rfl) ?_
   obtain rfl := some_inv' hp
   exact SC.re (js := [.g 0, .g 1, .g 2]) tk (by kernel_rfl)
 refine SC.skipThen ?_
 refine SC.cut (fun a w => ∃ (x_15 : Int) (c_22 : T_api_Store), wirelesslaw39_FlashPlans_j2 F key_2 value_3 x_9 x_15 c_22 = some r ∧ A 96 3 fx [(1, vi .u16 key_2), (2, vs 2), (9, vp 3 0), (12, vi .i64 x_15), (15, vp 7 0)] [.gone, .gone, .rd 1 R8 value_3, .blk 40 (C_api_Store x_9.1 (.s 4) (.s 5) (.s 6)), .rd 1 R8 x_9.1.Flash.Banks.1, .rd 1 R8 x_9.1.Flash.Banks.2, .rd 2 R_T_api_Item x_9.1.Items, .blk 40 (C_api_Store c_22 (.s 8) (.s 9) (.s 10)), .rd 1 R8 c_22.Flash.Banks.1, .rd 1 R8 c_22.Flash.Banks.2, .rd 2 R_T_api_Item c_22.Items] a w) ?_ ?_
 · refine SC.draw MO (bm 11 2044) (by kernel_rfl) fun kap_28 D_29 => ?_
   refine SD.takes tk D_29 [] kn0 [0, 1, 2] [] [] (bm 11 7) [(1, vi .u16 key_2), (2, vs 2), (9, vp 7 0), (74, .g (C_api_Store x_8.1 (.s 4) (.s 5) (.s 6))), (75, vi .u16 key_2), (76, vs 2)] rfl (by kernel_rfl) (by kernel_rfl) (by kernel_rfl) ?_
   obtain ⟨x_270, e_x_270, hp⟩ := bind_inv hp
   obtain ⟨x_350, e_x_350, hp⟩ := bind_inv hp
   refine SD.lay 0 (bm 11 2047) [(1, vi .u16 key_2), (2, vs 2), (9, vp 7 0), (12, vi .i64 x_350.2), (15, vp 15 0)] [.gone, .gone, .rd 1 R8 value_3, .blk 40 (C_api_Store x_8.1 (.s 4) (.s 5) (.s 6)), .rd 1 R8 x_8.1.Flash.Banks.1, .rd 1 R8 x_8.1.Flash.Banks.2, .rd 2 R_T_api_Item x_8.1.Items, .blk 40 (C_api_Store x_9.1 (.s 8) (.s 9) (.s 10)), .rd 1 R8 x_9.1.Flash.Banks.1, .rd 1 R8 x_9.1.Flash.Banks.2, .rd 2 R_T_api_Item x_9.1.Items, .gone, .rd 1 R8 x_350.1.Flash.Banks.1, .rd 1 R8 x_350.1.Flash.Banks.2, .rd 2 R_T_api_Item x_350.1.Items, .blk 40 (C_api_Store x_350.1 (.s 12) (.s 13) (.s 14))] ?_ (fun c_29_0 => ?_)
   · refine SD.done (by kernel_rfl) fun a w h => ?_
     exact ⟨x_350.2, x_350.1, hp, h.at (js := [.g 0, .g 1, .g 2, .g 7, .g 8, .g 9, .g 10, .g 15, .g 12, .g 13, .g 14]) (by kernel_rfl)⟩
   refine SD.lay 2 (bm 11 511) [(1, vi .u16 key_2), (2, vs 2), (9, vp 7 0), (15, vp 15 0), (79, .g (C_api_Store x_350.1 (.s 12) (.s 13) (.s 14))), (80, vi .i64 x_350.2)] [.gone, .gone, .rd 1 R8 value_3, .blk 40 (C_api_Store x_8.1 (.s 4) (.s 5) (.s 6)), .rd 1 R8 x_8.1.Flash.Banks.1, .rd 1 R8 x_8.1.Flash.Banks.2, .rd 2 R_T_api_Item x_8.1.Items, .blk 40 (C_api_Store x_9.1 (.s 8) (.s 9) (.s 10)), .rd 1 R8 x_9.1.Flash.Banks.1, .rd 1 R8 x_9.1.Flash.Banks.2, .rd 2 R_T_api_Item x_9.1.Items, .gone, .rd 1 R8 x_350.1.Flash.Banks.1, .rd 1 R8 x_350.1.Flash.Banks.2, .rd 2 R_T_api_Item x_350.1.Items, .blk 40 [nl, nl, ci .i64 0, ci .i64 0, ci .i64 0, nl]] ?_ (fun c_29_1 => ?_)
   · refine SD.all1 (i := 9) (by kernel_rfl) ?_
     refine SW.store D_29 tk (i := 9) (q := 15) (T := 40) (cs := (C_api_Store x_350.1 (.s 12) (.s 13) (.s 14))) (bs' := (bm 11 1023)) rfl (by kernel_rfl) rfl rfl (by kernel_rfl) ?_
     refine SD.takes tk D_29 [] kn0 [10] [] [] (bm 11 2047) [(1, vi .u16 key_2), (2, vs 2), (9, vp 7 0), (12, vi .i64 x_350.2), (15, vp 15 0)] rfl (by kernel_rfl) (by kernel_rfl) (by kernel_rfl) ?_
     exact SD.vie D_29 [.g 0, .g 1, .g 2, .g 3, .g 4, .g 5, .g 6, .g 7, .g 8, .g 9, .g 10, .n, .g 12, .g 13, .g 14, .g 15] c_29_0 (by kernel_rfl)
   refine SD.lay 3 (bm 11 255) [(1, vi .u16 key_2), (2, vs 2), (9, vp 7 0), (79, .g (C_api_Store x_350.1 (.s 12) (.s 13) (.s 14))), (80, vi .i64 x_350.2)] [.gone, .gone, .rd 1 R8 value_3, .blk 40 (C_api_Store x_8.1 (.s 4) (.s 5) (.s 6)), .rd 1 R8 x_8.1.Flash.Banks.1, .rd 1 R8 x_8.1.Flash.Banks.2, .rd 2 R_T_api_Item x_8.1.Items, .blk 40 (C_api_Store x_9.1 (.s 8) (.s 9) (.s 10)), .rd 1 R8 x_9.1.Flash.Banks.1, .rd 1 R8 x_9.1.Flash.Banks.2, .rd 2 R_T_api_Item x_9.1.Items, .gone, .rd 1 R8 x_350.1.Flash.Banks.1, .rd 1 R8 x_350.1.Flash.Banks.2, .rd 2 R_T_api_Item x_350.1.Items] ?_ (fun c_29_2 => ?_)
   · refine SD.all1 (i := 8) (by kernel_rfl) ?_
     refine SW.eff D_29 (i := 8) (bs' := (bm 11 511)) rfl (.inl rfl) rfl (e_alloc (E := 40) tk [nl, nl, ci .i64 0, ci .i64 0, ci .i64 0, nl] (by kernel_rfl)) (by kernel_rfl) rfl (by kernel_rfl) ?_
     exact SD.vie D_29 [.g 0, .g 1, .g 2, .g 3, .g 4, .g 5, .g 6, .g 7, .g 8, .g 9, .g 10, .n, .g 12, .g 13, .g 14, .g 15] c_29_1 (by kernel_rfl)
   refine SD.lay 6 (bm 11 271) [(1, vi .u16 key_2), (2, vs 2), (9, vp 7 0), (15, vp 12 0), (74, .g (C_api_Store x_8.1 (.s 4) (.s 5) (.s 6))), (75, vi .u16 key_2), (77, vs 11)] [.gone, .gone, .rd 1 R8 value_3, .blk 40 (C_api_Store x_8.1 (.s 4) (.s 5) (.s 6)), .rd 1 R8 x_8.1.Flash.Banks.1, .rd 1 R8 x_8.1.Flash.Banks.2, .rd 2 R_T_api_Item x_8.1.Items, .blk 40 (C_api_Store x_9.1 (.s 8) (.s 9) (.s 10)), .rd 1 R8 x_9.1.Flash.Banks.1, .rd 1 R8 x_9.1.Flash.Banks.2, .rd 2 R_T_api_Item x_9.1.Items, .rd 1 R8 x_270, .blk 40 [nl, nl, ci .i64 0, ci .i64 0, ci .i64 0, nl]] ?_ (fun c_29_3 => ?_)
   · refine SD.all1 (i := 4) (by kernel_rfl) ?_
     refine SW.eff D_29 (i := 4) (bs' := (bm 11 287)) rfl (.inl rfl) rfl (e_c Tryd.call25 (ok_flash_Put F x_8.1 key_2 x_270 _ e_x_350) [.g 4, .g 5, .g 6, .g 11] [.g (C_api_Store x_8.1 (.s 4) (.s 5) (.s 6)), vi .u16 key_2, vs 11] (.u [.inr (C_api_Store x_350.1 (.s 13) (.s 14) (.s 15)), .inl (ci .i64 x_350.2)]) (by kernel_rfl) (.inl rfl)) (by kernel_rfl) rfl (by kernel_rfl) ?_
     refine SD.takes tk D_29 [] kn0 [5, 6, 7] [] [] (bm 11 511) [(1, vi .u16 key_2), (2, vs 2), (9, vp 7 0), (15, vp 12 0), (79, .g (C_api_Store x_350.1 (.s 13) (.s 14) (.s 15))), (80, vi .i64 x_350.2)] rfl (by kernel_rfl) (by kernel_rfl) (by kernel_rfl) ?_
     exact SD.vie D_29 [.g 0, .g 1, .g 2, .g 3, .g 4, .g 5, .g 6, .g 7, .g 8, .g 9, .g 10, .n, .g 13, .g 14, .g 15, .g 12] c_29_1 (by kernel_rfl)
   refine SD.lay 7 (bm 11 15) [(1, vi .u16 key_2), (2, vs 2), (9, vp 7 0), (74, .g (C_api_Store x_8.1 (.s 4) (.s 5) (.s 6))), (75, vi .u16 key_2), (77, vs 11)] [.gone, .gone, .rd 1 R8 value_3, .blk 40 (C_api_Store x_8.1 (.s 4) (.s 5) (.s 6)), .rd 1 R8 x_8.1.Flash.Banks.1, .rd 1 R8 x_8.1.Flash.Banks.2, .rd 2 R_T_api_Item x_8.1.Items, .blk 40 (C_api_Store x_9.1 (.s 8) (.s 9) (.s 10)), .rd 1 R8 x_9.1.Flash.Banks.1, .rd 1 R8 x_9.1.Flash.Banks.2, .rd 2 R_T_api_Item x_9.1.Items, .rd 1 R8 x_270] ?_ (fun c_29_4 => ?_)
   · refine SD.all2 (i := 4) (j := 8) (by kernel_rfl) ?_ ?_
     · refine SW.eff D_29 (i := 4) (bs' := (bm 11 31)) rfl (.inl rfl) rfl (e_c Tryd.call25 (ok_flash_Put F x_8.1 key_2 x_270 _ e_x_350) [.g 4, .g 5, .g 6, .g 11] [.g (C_api_Store x_8.1 (.s 4) (.s 5) (.s 6)), vi .u16 key_2, vs 11] (.u [.inr (C_api_Store x_350.1 (.s 12) (.s 13) (.s 14)), .inl (ci .i64 x_350.2)]) (by kernel_rfl) (.inl rfl)) (by kernel_rfl) rfl (by kernel_rfl) ?_
       refine SD.takes tk D_29 [] kn0 [5, 6, 7] [] [] (bm 11 255) [(1, vi .u16 key_2), (2, vs 2), (9, vp 7 0), (79, .g (C_api_Store x_350.1 (.s 12) (.s 13) (.s 14))), (80, vi .i64 x_350.2)] rfl (by kernel_rfl) (by kernel_rfl) (by kernel_rfl) ?_
       exact SD.vie D_29 [.g 0, .g 1, .g 2, .g 3, .g 4, .g 5, .g 6, .g 7, .g 8, .g 9, .g 10, .n, .g 12, .g 13, .g 14] c_29_2 (by kernel_rfl)
     refine SW.eff D_29 (i := 8) (bs' := (bm 11 271)) rfl (.inl rfl) rfl (e_alloc (E := 40) tk [nl, nl, ci .i64 0, ci .i64 0, ci .i64 0, nl] (by kernel_rfl)) (by kernel_rfl) rfl (by kernel_rfl) ?_
     exact SD.vie D_29 [.g 0, .g 1, .g 2, .g 3, .g 4, .g 5, .g 6, .g 7, .g 8, .g 9, .g 10, .g 11, .g 12] c_29_3 (by kernel_rfl)
   refine SD.lay 7 (bm 11 263) [(1, vi .u16 key_2), (2, vs 2), (9, vp 7 0), (15, vp 11 0), (74, .g (C_api_Store x_8.1 (.s 4) (.s 5) (.s 6))), (75, vi .u16 key_2), (76, vs 2)] [.gone, .gone, .rd 1 R8 value_3, .blk 40 (C_api_Store x_8.1 (.s 4) (.s 5) (.s 6)), .rd 1 R8 x_8.1.Flash.Banks.1, .rd 1 R8 x_8.1.Flash.Banks.2, .rd 2 R_T_api_Item x_8.1.Items, .blk 40 (C_api_Store x_9.1 (.s 8) (.s 9) (.s 10)), .rd 1 R8 x_9.1.Flash.Banks.1, .rd 1 R8 x_9.1.Flash.Banks.2, .rd 2 R_T_api_Item x_9.1.Items, .blk 40 [nl, nl, ci .i64 0, ci .i64 0, ci .i64 0, nl]] ?_ (fun c_29_5 => ?_)
   · refine SD.all1 (i := 3) (by kernel_rfl) ?_
     refine SW.eff D_29 (i := 3) (bs' := (bm 11 271)) rfl (.inl rfl) rfl (e_c Tryd.call11 (ok_wirelesslaw39_copied F value_3 _ e_x_270) [.g 2] [vs 2] (vs 12) (by kernel_rfl) (.inl rfl)) (by kernel_rfl) rfl (by kernel_rfl) ?_
     exact SD.vie D_29 [.g 0, .g 1, .g 2, .g 3, .g 4, .g 5, .g 6, .g 7, .g 8, .g 9, .g 10, .g 12, .g 11] c_29_3 (by kernel_rfl)
   refine SD.all2 (i := 3) (j := 8) (by kernel_rfl) ?_ ?_
   · refine SW.eff D_29 (i := 3) (bs' := (bm 11 15)) rfl (.inl rfl) rfl (e_c Tryd.call11 (ok_wirelesslaw39_copied F value_3 _ e_x_270) [.g 2] [vs 2] (vs 11) (by kernel_rfl) (.inl rfl)) (by kernel_rfl) rfl (by kernel_rfl) ?_
     exact SD.vie D_29 [.g 0, .g 1, .g 2, .g 3, .g 4, .g 5, .g 6, .g 7, .g 8, .g 9, .g 10, .g 11] c_29_4 (by kernel_rfl)
   refine SW.eff D_29 (i := 8) (bs' := (bm 11 263)) rfl (.inl rfl) rfl (e_alloc (E := 40) tk [nl, nl, ci .i64 0, ci .i64 0, ci .i64 0, nl] (by kernel_rfl)) (by kernel_rfl) rfl (by kernel_rfl) ?_
   exact SD.vie D_29 [.g 0, .g 1, .g 2, .g 3, .g 4, .g 5, .g 6, .g 7, .g 8, .g 9, .g 10, .g 11] c_29_5 (by kernel_rfl)
 rintro a w ⟨x_15, c_22, hp, h⟩
 refine h.go ?_
 refine SC.seq ?_
 refine SC.reg ?_
 refine SL.sim tk 3 [(12, vi .i64 x_15), (15, vp 7 0), (82, .g (C_api_Store x_9.1 (.s 4) (.s 5) (.s 6))), (83, vi .u16 key_2), (84, vs 2)] [] [] [] (by kernel_rfl) ?_
 obtain ⟨x_23, e_x_23, hp⟩ := bind_inv hp
 refine SL.eff (e_c Tryd.call26 (ok_wirelessref39_Put F x_9.1 key_2 value_3 _ e_x_23) [.g 4, .g 5, .g 6, .g 2] [.g (C_api_Store x_9.1 (.s 4) (.s 5) (.s 6)), vi .u16 key_2, vs 2] (.u [.inr (C_api_Store x_23.1 (.s 11) (.s 12) (.s 13)), .inl (ci .i64 x_23.2)]) (by kernel_rfl) (.inl rfl)) rfl (by kernel_rfl) ?_
 refine SL.sim tk 3 [(12, vi .i64 x_15), (15, vp 7 0), (86, .g (C_api_Store x_23.1 (.s 11) (.s 12) (.s 13))), (87, vi .i64 x_23.2)] [] [] [] (by kernel_rfl) ?_
 refine SL.eff (e_alloc (E := 40) tk [nl, nl, ci .i64 0, ci .i64 0, ci .i64 0, nl] (by kernel_rfl)) rfl (by kernel_rfl) ?_
 refine SL.sim tk 2 [(12, vi .i64 x_15), (14, vi .i64 x_23.2), (15, vp 7 0), (16, vp 14 0)] [(14, 40, (C_api_Store x_23.1 (.s 11) (.s 12) (.s 13)))] [] [] (by kernel_rfl) ?_
 refine SL.nilThen ?_
 refine SC.seq ?_
 refine SC.reg ?_
 refine SL.sim tk 4 [(15, vp 7 0), (16, vp 14 0), (91, vb (x_15 == x_23.2))] [] [] [] (by kernel_rfl) ?_
 obtain ⟨z_25, hz, hpr⟩ := bind_inv hp
 clear hp
 refine SL.cutAt 4 (fun a w => A 96 3 fx [(95, vb z_25)] [.gone, .gone, .gone] a w) ?_ ?_
 · have hp := hz
   rcases Bool.eq_false_or_eq_true ((x_15 == x_23.2)) with hg_24 | hg_24
   · replace hp := if_t hp hg_24
     refine SL.yes rfl rfl hg_24 ?_
     refine SL.sim tk 1 [(16, vp 14 0), (91, vb (x_15 == x_23.2)), (92, .g (C_api_Store c_22 (.s 8) (.s 9) (.s 10)))] [] [] [] (by kernel_rfl) ?_
     refine SL.yes rfl rfl hg_24 ?_
     refine SL.sim tk 1 [(91, vb (x_15 == x_23.2)), (92, .g (C_api_Store c_22 (.s 8) (.s 9) (.s 10))), (93, .g (C_api_Store x_23.1 (.s 11) (.s 12) (.s 13)))] [] [] [] (by kernel_rfl) ?_
     refine SL.yes rfl rfl hg_24 ?_
     obtain ⟨x_27, e_x_27, hp⟩ := bind_inv hp
     refine SL.eff (e_c Tryd.call18 (ok_wirelessref39_Same F c_22 x_23.1 _ e_x_27) [.g 8, .g 9, .g 10, .g 11, .g 12, .g 13] [.g (C_api_Store c_22 (.s 8) (.s 9) (.s 10)), .g (C_api_Store x_23.1 (.s 11) (.s 12) (.s 13))] (vb x_27) (by kernel_rfl) (.inl rfl)) rfl (by kernel_rfl) ?_
     refine SL.norm (itsN := [.gone, .gone, .rd 1 R8 value_3, .blk 40 (C_api_Store x_9.1 (.s 4) (.s 5) (.s 6)), .rd 1 R8 x_9.1.Flash.Banks.1, .rd 1 R8 x_9.1.Flash.Banks.2, .rd 2 R_T_api_Item x_9.1.Items, .blk 40 (C_api_Store c_22 (.s 8) (.s 9) (.s 10)), .rd 1 R8 c_22.Flash.Banks.1, .rd 1 R8 c_22.Flash.Banks.2, .rd 2 R_T_api_Item c_22.Items, .rd 1 R8 x_23.1.Flash.Banks.1, .rd 1 R8 x_23.1.Flash.Banks.2, .rd 2 R_T_api_Item x_23.1.Items, .blk 40 (C_api_Store x_23.1 (.s 11) (.s 12) (.s 13))]) (by kernel_rfl) ?_
     refine SL.pickt rfl hg_24 rfl rfl ?_
     refine SL.nilJ fun a w h => ?_
     obtain rfl := some_inv' hp
     exact h.at (js := [.g 0, .g 1, .g 2]) (by kernel_rfl)
   replace hp := if_f hp hg_24
   refine SL.no rfl rfl hg_24 rfl ?_
   refine SL.no rfl rfl hg_24 rfl ?_
   refine SL.no rfl rfl hg_24 rfl ?_
   refine SL.pickf rfl hg_24 rfl rfl ?_
   refine SL.nilJ fun a w h => ?_
   obtain rfl := some_inv' hp
   exact h.at (js := [.g 0, .g 1, .g 2]) (by kernel_rfl)
 intro a w h
 have hp := hpr; clear hpr hz
 refine h.goL ?_
 refine SL.sim tk 1 [(6, vb z_25)] [] [] [] (by kernel_rfl) ?_
 refine SL.nilThen ?_
 obtain rfl := some_inv' hp
 exact SC.re (js := [.g 0, .g 1, .g 2]) tk (by kernel_rfl)
end V
end Go.Proofs.YtojcklkcjnnkaaaDoor
