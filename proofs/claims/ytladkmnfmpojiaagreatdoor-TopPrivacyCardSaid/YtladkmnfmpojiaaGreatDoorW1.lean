/-
  Walks, written by program: each Go function returns what its pure twin says.
-/
import Derived.Test.YtladkmnfmpojiaaGreatDoorFc
namespace Go.Proofs.YtladkmnfmpojiaaGreatDoor
namespace V
theorem ok_wirelesstop_livesWorld (F : Nat) (r : Bool) (hp : wirelesstop_livesWorld F = some r) : Spec Tryz.prog 4 [] [] (vb r) [] := by
  have h : some true = some r := hp
  injection h with h
  subst h
  exact ok_lives
theorem ok_wirelesstop_TopPrivacy (F : Nat) (a_1 : Int) (b_2 : Int) (local_3 : Int) (later_4 : Int) (period_5 : Int) (r : Bool) (hp : wirelesstop_TopPrivacy F a_1 b_2 local_3 later_4 period_5 = some r) : Spec Tryz.prog 3 [vi .u64 a_1, vi .u64 b_2, vi .i64 local_3, vi .i64 later_4, vi .i64 period_5] [] (vb r) [] := by
 refine Spec.enter Tryz.func3 rfl Tryz.ntmps3 rfl rfl fun fx => ?_
 refine SC.r tk [(0, vi .u64 a_1), (1, vi .u64 b_2), (2, vi .i64 local_3), (3, vi .i64 later_4), (4, vi .i64 period_5)] [] [] [] (by kernel_rfl) ?_
 refine SC.seq ?_
 refine SC.seq ?_
 refine SC.reg ?_
 obtain ⟨x_6, e_x_6, hp⟩ := bind_inv hp
 refine SL.eff (e_c Tryz.call4 (ok_wirelesstop_livesWorld F  _ e_x_6) [] [] (vb x_6) (by kernel_rfl) (.inl rfl)) rfl (by kernel_rfl) ?_
 refine SL.sim tk 1 [(0, vi .u64 a_1), (1, vi .u64 b_2), (2, vi .i64 local_3), (3, vi .i64 later_4), (4, vi .i64 period_5), (15, vb (!x_6))] [] [] [] (by kernel_rfl) ?_
 refine SL.nilThen ?_
 refine SC.if' rfl hp (fun hp => ?_) (fun hp => ?_)
 · refine SC.r tk [(10, vb false)] [] [] [] (by kernel_rfl) ?_
   obtain rfl := some_inv' hp
   exact SC.re (js := []) tk (by kernel_rfl)
 · refine SC.skipThen ?_
   refine SC.seq ?_
   refine SC.r tk [(0, vi .u64 a_1), (2, vi .i64 local_3), (3, vi .i64 later_4), (4, vi .i64 period_5), (34, vb (((((a_1 == 0) || (b_2 == 0)) || (decide (period_5 < 1))) || (decide (local_3 < 0))) || (decide (later_4 < local_3))))] [] [] [] (by kernel_rfl) ?_
   refine SC.if' rfl hp (fun hp => ?_) (fun hp => ?_)
   · refine SC.r tk [(10, vb true)] [] [] [] (by kernel_rfl) ?_
     obtain rfl := some_inv' hp
     exact SC.re (js := []) tk (by kernel_rfl)
   · refine SC.skipThen ?_
     refine SC.seq ?_
     refine SC.reg ?_
     refine SL.sim tk 3 [(0, vi .u64 a_1), (2, vi .i64 local_3), (3, vi .i64 later_4), (4, vi .i64 period_5), (37, .g [ci .i64 1, ci .u64 5, ci .u64 a_1])] [] [] [] (by kernel_rfl) ?_
     refine SL.eff (e_alloc (E := 28) tk [ci .i64 0, ci .u64 0, ci .u64 0] (by kernel_rfl)) rfl (by kernel_rfl) ?_
     refine SL.sim tk 1 [(0, vi .u64 a_1), (2, vi .i64 local_3), (3, vi .i64 later_4), (4, vi .i64 period_5), (11, vp 0 0)] [(0, 28, [ci .i64 1, ci .u64 5, ci .u64 a_1])] [] [] (by kernel_rfl) ?_
     refine SL.nilThen ?_
     refine SC.seq ?_
     refine SC.reg ?_
     refine SL.sim tk 3 [(0, vi .u64 a_1), (2, vi .i64 local_3), (3, vi .i64 later_4), (4, vi .i64 period_5), (11, vp 0 0), (38, .g [ci .i64 1, ci .u64 5, ci .u64 a_1]), (39, vi .i64 local_3), (40, vi .i64 period_5)] [] [] [] (by kernel_rfl) ?_
     obtain ⟨x_7, e_x_7, hp⟩ := bind_inv hp
     refine SL.eff (e_c Tryz.call5 (ok_privacy_Current F (T_api_Identity.mk (T_api_Address.mk 1 5) a_1) true local_3 period_5 _ e_x_7) [] [.g [ci .i64 1, ci .u64 5, ci .u64 a_1], vb true, vi .i64 local_3, vi .i64 period_5] (.g (C_api_Address x_7)) (by kernel_rfl) (.inl rfl)) rfl (by kernel_rfl) ?_
     refine SL.norm (itsN := [.blk 28 [ci .i64 1, ci .u64 5, ci .u64 a_1]]) (by kernel_rfl) ?_
     refine SL.eff (e_alloc (E := 26) tk [ci .i64 0, ci .u64 0] (by kernel_rfl)) rfl (by kernel_rfl) ?_
     refine SL.sim tk 1 [(0, vi .u64 a_1), (2, vi .i64 local_3), (3, vi .i64 later_4), (4, vi .i64 period_5), (11, vp 0 0), (12, vp 1 0)] [(1, 26, (C_api_Address x_7))] [] [] (by kernel_rfl) ?_
     refine SL.nilThen ?_
     refine SC.seq ?_
     refine SC.reg ?_
     refine SL.sim tk 3 [(0, vi .u64 a_1), (2, vi .i64 local_3), (3, vi .i64 later_4), (4, vi .i64 period_5), (11, vp 0 0), (12, vp 1 0), (42, .g [ci .i64 1, ci .u64 5, ci .u64 a_1]), (43, vi .i64 later_4), (44, vi .i64 period_5)] [] [] [] (by kernel_rfl) ?_
     obtain ⟨x_8, e_x_8, hp⟩ := bind_inv hp
     refine SL.eff (e_c Tryz.call5 (ok_privacy_Current F (T_api_Identity.mk (T_api_Address.mk 1 5) a_1) true later_4 period_5 _ e_x_8) [] [.g [ci .i64 1, ci .u64 5, ci .u64 a_1], vb true, vi .i64 later_4, vi .i64 period_5] (.g (C_api_Address x_8)) (by kernel_rfl) (.inl rfl)) rfl (by kernel_rfl) ?_
     refine SL.norm (itsN := [.blk 28 [ci .i64 1, ci .u64 5, ci .u64 a_1], .blk 26 (C_api_Address x_7)]) (by kernel_rfl) ?_
     refine SL.eff (e_alloc (E := 26) tk [ci .i64 0, ci .u64 0] (by kernel_rfl)) rfl (by kernel_rfl) ?_
     refine SL.sim tk 1 [(0, vi .u64 a_1), (2, vi .i64 local_3), (3, vi .i64 later_4), (4, vi .i64 period_5), (11, vp 0 0), (12, vp 1 0), (13, vp 2 0)] [(2, 26, (C_api_Address x_8))] [] [] (by kernel_rfl) ?_
     refine SL.nilThen ?_
     refine SC.seq ?_
     refine SC.seq ?_
     refine SC.reg ?_
     refine SL.sim tk 2 [(0, vi .u64 a_1), (2, vi .i64 local_3), (3, vi .i64 later_4), (4, vi .i64 period_5), (11, vp 0 0), (12, vp 1 0), (13, vp 2 0), (46, vi .u64 a_1), (47, .g (C_api_Address x_7))] [] [] [] (by kernel_rfl) ?_
     obtain ⟨x_9, e_x_9, hp⟩ := bind_inv hp
     refine SL.eff (e_c Tryz.call6 (ok_privacy_Resolves F a_1 x_7 _ e_x_9) [] [vi .u64 a_1, .g (C_api_Address x_7)] (vb x_9) (by kernel_rfl) (.inl rfl)) rfl (by kernel_rfl) ?_
     refine SL.norm (itsN := [.blk 28 [ci .i64 1, ci .u64 5, ci .u64 a_1], .blk 26 (C_api_Address x_7), .blk 26 (C_api_Address x_8)]) (by kernel_rfl) ?_
     refine SL.sim tk 2 [(0, vi .u64 a_1), (2, vi .i64 local_3), (3, vi .i64 later_4), (4, vi .i64 period_5), (11, vp 0 0), (12, vp 1 0), (13, vp 2 0), (50, vb (!x_9))] [] [] [] (by kernel_rfl) ?_
     obtain ⟨z_11, hz, hpr⟩ := bind_inv hp
     clear hp
     refine SL.cutAt 5 (fun a w => A 92 0 fx [(0, vi .u64 a_1), (2, vi .i64 local_3), (3, vi .i64 later_4), (4, vi .i64 period_5), (11, vp 0 0), (12, vp 1 0), (13, vp 2 0), (55, vb z_11)] [.blk 28 [ci .i64 1, ci .u64 5, ci .u64 a_1], .blk 26 (C_api_Address x_7), .blk 26 (C_api_Address x_8)] a w) ?_ ?_
     · have hp := hz
       rcases Bool.eq_false_or_eq_true ((!x_9)) with hg_10 | hg_10
       · replace hp := if_t hp hg_10
         refine SL.no rfl rfl hg_10 rfl ?_
         refine SL.no rfl rfl hg_10 rfl ?_
         refine SL.no rfl rfl hg_10 rfl ?_
         refine SL.no rfl rfl hg_10 rfl ?_
         refine SL.pickt rfl hg_10 rfl rfl ?_
         refine SL.nilJ fun a w h => ?_
         obtain rfl := some_inv' hp
         exact h.at (js := [.g 0, .g 1, .g 2]) (by kernel_rfl)
       · replace hp := if_f hp hg_10
         refine SL.yes rfl rfl hg_10 ?_
         refine SL.sim tk 1 [(0, vi .u64 a_1), (2, vi .i64 local_3), (3, vi .i64 later_4), (4, vi .i64 period_5), (11, vp 0 0), (12, vp 1 0), (13, vp 2 0), (50, vb (!x_9)), (51, vi .u64 a_1)] [] [] [] (by kernel_rfl) ?_
         refine SL.yes rfl rfl hg_10 ?_
         refine SL.sim tk 1 [(0, vi .u64 a_1), (2, vi .i64 local_3), (3, vi .i64 later_4), (4, vi .i64 period_5), (11, vp 0 0), (12, vp 1 0), (13, vp 2 0), (50, vb (!x_9)), (51, vi .u64 a_1), (52, .g (C_api_Address x_8))] [] [] [] (by kernel_rfl) ?_
         refine SL.yes rfl rfl hg_10 ?_
         obtain ⟨x_29, e_x_29, hp⟩ := bind_inv hp
         refine SL.eff (e_c Tryz.call6 (ok_privacy_Resolves F a_1 x_8 _ e_x_29) [] [vi .u64 a_1, .g (C_api_Address x_8)] (vb x_29) (by kernel_rfl) (.inl rfl)) rfl (by kernel_rfl) ?_
         refine SL.yes rfl rfl hg_10 ?_
         refine SL.sim tk 1 [(0, vi .u64 a_1), (2, vi .i64 local_3), (3, vi .i64 later_4), (4, vi .i64 period_5), (11, vp 0 0), (12, vp 1 0), (13, vp 2 0), (50, vb (!x_9)), (54, vb (!x_29))] [] [] [] (by kernel_rfl) ?_
         refine SL.pickf rfl hg_10 rfl rfl ?_
         refine SL.nilJ fun a w h => ?_
         obtain rfl := some_inv' hp
         exact h.at (js := [.g 0, .g 1, .g 2]) (by kernel_rfl)
     · intro a w h
       have hp := hpr; clear hpr hz
       refine h.goL ?_
       refine SL.sim tk 1 [(0, vi .u64 a_1), (2, vi .i64 local_3), (3, vi .i64 later_4), (4, vi .i64 period_5), (11, vp 0 0), (12, vp 1 0), (13, vp 2 0), (56, vb z_11)] [] [] [] (by kernel_rfl) ?_
       obtain ⟨z_13, hz, hpr⟩ := bind_inv hp
       clear hp
       refine SL.cutAt 8 (fun a w => A 92 0 fx [(2, vi .i64 local_3), (3, vi .i64 later_4), (4, vi .i64 period_5), (11, vp 0 0), (12, vp 1 0), (13, vp 2 0), (64, vb z_13)] [.blk 28 [ci .i64 1, ci .u64 5, ci .u64 a_1], .blk 26 (C_api_Address x_7), .blk 26 (C_api_Address x_8)] a w) ?_ ?_
       · have hp := hz
         rcases Bool.eq_false_or_eq_true (z_11) with hg_12 | hg_12
         · replace hp := if_t hp hg_12
           refine SL.no rfl rfl hg_12 rfl ?_
           refine SL.no rfl rfl hg_12 rfl ?_
           refine SL.no rfl rfl hg_12 rfl ?_
           refine SL.no rfl rfl hg_12 rfl ?_
           refine SL.no rfl rfl hg_12 rfl ?_
           refine SL.no rfl rfl hg_12 rfl ?_
           refine SL.no rfl rfl hg_12 rfl ?_
           refine SL.pickt rfl hg_12 rfl rfl ?_
           refine SL.nilJ fun a w h => ?_
           obtain rfl := some_inv' hp
           exact h.at (js := [.g 0, .g 1, .g 2]) (by kernel_rfl)
         · replace hp := if_f hp hg_12
           refine SL.yes rfl rfl hg_12 ?_
           refine SL.sim tk 1 [(0, vi .u64 a_1), (2, vi .i64 local_3), (3, vi .i64 later_4), (4, vi .i64 period_5), (11, vp 0 0), (12, vp 1 0), (13, vp 2 0), (56, vb z_11), (57, .g [ci .i64 1, ci .u64 9])] [] [] [] (by kernel_rfl) ?_
           refine SL.yes rfl rfl hg_12 ?_
           refine SL.sim tk 1 [(2, vi .i64 local_3), (3, vi .i64 later_4), (4, vi .i64 period_5), (11, vp 0 0), (12, vp 1 0), (13, vp 2 0), (56, vb z_11), (57, .g [ci .i64 1, ci .u64 9]), (58, vi .u64 a_1)] [] [] [] (by kernel_rfl) ?_
           refine SL.yes rfl rfl hg_12 ?_
           refine SL.sim tk 1 [(2, vi .i64 local_3), (3, vi .i64 later_4), (4, vi .i64 period_5), (11, vp 0 0), (12, vp 1 0), (13, vp 2 0), (56, vb z_11), (59, .g [ci .i64 1, ci .u64 9, ci .u64 a_1])] [] [] [] (by kernel_rfl) ?_
           refine SL.yes rfl rfl hg_12 ?_
           refine SL.eff (e_lit (sz := 3) (E := 28) (R := R_T_api_Identity) (by_ := 24) tk [[ci .i64 1, ci .u64 9, ci .u64 a_1]] [(T_api_Identity.mk (T_api_Address.mk 1 9) a_1)] (by kernel_rfl) ⟨(clo_T_api_Identity (x := (T_api_Identity.mk (T_api_Address.mk 1 9) a_1))), trivial⟩ rfl (by kernel_rfl) (by kernel_rfl)) rfl (by kernel_rfl) ?_
           refine SL.yes rfl rfl hg_12 ?_
           refine SL.sim tk 1 [(2, vi .i64 local_3), (3, vi .i64 later_4), (4, vi .i64 period_5), (11, vp 0 0), (12, vp 1 0), (13, vp 2 0), (56, vb z_11), (60, vs 3), (61, .g (C_api_Address x_8))] [] [] [] (by kernel_rfl) ?_
           refine SL.yes rfl rfl hg_12 ?_
           obtain ⟨x_27, e_x_27, hp⟩ := bind_inv hp
           refine SL.eff (e_c Tryz.call7 (ok_privacy_Find F [(T_api_Identity.mk (T_api_Address.mk 1 9) a_1)] x_8 _ e_x_27) [.l 3] [vs 3, .g (C_api_Address x_8)] (vi .i64 x_27) (by kernel_rfl) (.inr ⟨trivial, trivial⟩)) rfl (by kernel_rfl) ?_
           refine SL.yes rfl rfl hg_12 ?_
           refine SL.sim tk 1 [(2, vi .i64 local_3), (3, vi .i64 later_4), (4, vi .i64 period_5), (11, vp 0 0), (12, vp 1 0), (13, vp 2 0), (56, vb z_11), (63, vb (x_27 != 0))] [] [] [] (by kernel_rfl) ?_
           refine SL.pickf rfl hg_12 rfl rfl ?_
           refine SL.nilJ fun a w h => ?_
           obtain rfl := some_inv' hp
           exact h.at (js := [.g 0, .g 1, .g 2]) (by kernel_rfl)
       · intro a w h
         have hp := hpr; clear hpr hz
         refine h.goL ?_
         refine SL.nilThen ?_
         refine SC.if' rfl hp (fun hp => ?_) (fun hp => ?_)
         · refine SC.r tk [(10, vb false)] [] [] [] (by kernel_rfl) ?_
           obtain rfl := some_inv' hp
           exact SC.re (js := []) tk (by kernel_rfl)
         · refine SC.skipThen ?_
           refine SC.seq ?_
           refine SC.cut (fun a w => ∃ (z_14 : Bool), wirelesstop_TopPrivacy_j1 F a_1 local_3 period_5 x_7 z_14 = some r ∧ A 92 0 fx [(2, vi .i64 local_3), (4, vi .i64 period_5), (11, vp 0 0), (12, vp 1 0), (76, vb z_14)] [.blk 28 [ci .i64 1, ci .u64 5, ci .u64 a_1], .blk 26 (C_api_Address x_7)] a w) ?_ ?_
           · refine SC.draw MO [true, true, true] (by kernel_rfl) fun kap_21 D_22 => ?_
             obtain ⟨x_23, e_x_23, hp⟩ := bind_inv hp
             obtain ⟨x_24, e_x_24, hp⟩ := bind_inv hp
             refine SD.takes tk D_22 [] kn0 [0, 1, 2, 3, 4, 5, 6, 7] [.bin .quo .i64 local_3 period_5 x_23 e_x_23, .bin .quo .i64 later_4 period_5 x_24 e_x_24] [local_3, period_5, later_4, period_5] [I, I, I, I, I, I, I, I, O, O, O, O] [(2, vi .i64 local_3), (4, vi .i64 period_5), (11, vp 0 0), (12, vp 1 0), (13, vp 2 0), (72, vb (x_23 == x_24))] rfl (by kernel_rfl) (by kernel_rfl) (by kernel_rfl) ?_
             rcases Bool.eq_false_or_eq_true ((x_23 == x_24)) with hg_25 | hg_25
             · replace hp := if_t hp hg_25
               refine SD.takes tk D_22 [(72, true)] (knS rfl hg_25 kn0) [8, 9] [] [] [I, I, I, I, I, I, I, I, I, I, O, O] [(2, vi .i64 local_3), (4, vi .i64 period_5), (11, vp 0 0), (12, vp 1 0), (72, vb (x_23 == x_24)), (73, .g (C_api_Address x_7)), (74, .g (C_api_Address x_8))] rfl (by kernel_rfl) (by kernel_rfl) (by kernel_rfl) ?_
               refine SD.all1 (i := 10) (by kernel_rfl) ?_
               refine SW.eff D_22 (i := 10) (bs' := [I, I, I, I, I, I, I, I, I, I, I, O]) rfl (.inr ⟨_, _, _, _, rfl, rfl, rfl, hg_25⟩) rfl (e_eqs tk (cs := (C_api_Address x_7)) (ds := (C_api_Address x_8)) [(x_7.Kind == x_8.Kind), (x_7.Bits == x_8.Bits)] (!((x_7.Kind == x_8.Kind) && (x_7.Bits == x_8.Bits))) rfl rfl (by kernel_rfl) (by kernel_rfl) (by kernel_rfl) (.inr ⟨rfl, (by kernel_rfl)⟩)) (by kernel_rfl) rfl (by kernel_rfl) ?_
               refine SD.takes tk D_22 [(72, true)] (knS rfl hg_25 kn0) [11] [] [] [I, I, I, I, I, I, I, I, I, I, I, I] [(2, vi .i64 local_3), (4, vi .i64 period_5), (11, vp 0 0), (12, vp 1 0), (76, vb (!((x_7.Kind == x_8.Kind) && (x_7.Bits == x_8.Bits))))] rfl (by kernel_rfl) (by kernel_rfl) (by kernel_rfl) ?_
               refine SD.done (by kernel_rfl) fun a w h => ?_
               exact ⟨(!((x_7.Kind == x_8.Kind) && (x_7.Bits == x_8.Bits))), hp, h.at (js := [.g 0, .g 1]) (by kernel_rfl)⟩
             · replace hp := if_f hp hg_25
               refine SD.takes tk D_22 [(72, false)] (knS rfl hg_25 kn0) [8, 9, 10, 11] [] [] [I, I, I, I, I, I, I, I, I, I, I, I] [(2, vi .i64 local_3), (4, vi .i64 period_5), (11, vp 0 0), (12, vp 1 0), (76, vb false)] rfl (by kernel_rfl) (by kernel_rfl) (by kernel_rfl) ?_
               refine SD.done (by kernel_rfl) fun a w h => ?_
               exact ⟨false, hp, h.at (js := [.g 0, .g 1]) (by kernel_rfl)⟩
           · rintro a w ⟨z_14, hp, h⟩
             refine h.go ?_
             refine SC.if' rfl hp (fun hp => ?_) (fun hp => ?_)
             · refine SC.r tk [(10, vb false)] [] [] [] (by kernel_rfl) ?_
               obtain rfl := some_inv' hp
               exact SC.re (js := []) tk (by kernel_rfl)
             · refine SC.skipThen ?_
               refine SC.cut (fun a w => ∃ (z_15 : Bool), wirelesstop_TopPrivacy_j2 F z_15 = some r ∧ A 92 0 fx [(10, vb z_15)] [] a w) ?_ ?_
               · refine SC.draw MO [true, true] (by kernel_rfl) fun kap_16 D_17 => ?_
                 refine SD.takes tk D_17 [] kn0 [0, 1, 3] [] [] [I, I, O, I, O, O, O, O, O, O, O, O, O, O, O, O] [(2, vi .i64 local_3), (4, vi .i64 period_5), (11, vp 0 0), (78, .g [ci .i64 1, ci .u64 5, ci .u64 0]), (80, .g (C_api_Address x_7))] rfl (by kernel_rfl) (by kernel_rfl) (by kernel_rfl) ?_
                 refine SD.all1 (i := 2) (by kernel_rfl) ?_
                 refine SW.eff D_17 (i := 2) (bs' := [I, I, I, I, O, O, O, O, O, O, O, O, O, O, O, O]) rfl (.inl rfl) rfl (e_lit (sz := 3) (E := 28) (R := R_T_api_Identity) (by_ := 24) tk [[ci .i64 1, ci .u64 5, ci .u64 0]] [(T_api_Identity.mk (T_api_Address.mk 1 5) 0)] (by kernel_rfl) ⟨(clo_T_api_Identity (x := (T_api_Identity.mk (T_api_Address.mk 1 5) 0))), trivial⟩ rfl (by kernel_rfl) (by kernel_rfl)) (by kernel_rfl) rfl (by kernel_rfl) ?_
                 obtain ⟨x_18, e_x_18, hp⟩ := bind_inv hp
                 refine SD.all1 (i := 4) (by kernel_rfl) ?_
                 refine SW.eff D_17 (i := 4) (bs' := [I, I, I, I, I, O, O, O, O, O, O, O, O, O, O, O]) rfl (.inl rfl) rfl (e_c Tryz.call7 (ok_privacy_Find F [(T_api_Identity.mk (T_api_Address.mk 1 5) 0)] x_7 _ e_x_18) [.l 2] [vs 2, .g (C_api_Address x_7)] (vi .i64 x_18) (by kernel_rfl) (.inr ⟨trivial, trivial⟩)) (by kernel_rfl) rfl (by kernel_rfl) ?_
                 refine SD.norm (itsN := [.blk 28 [ci .i64 1, ci .u64 5, ci .u64 a_1], .blk 26 (C_api_Address x_7), .own 3 28 R_T_api_Identity [(T_api_Identity.mk (T_api_Address.mk 1 5) 0)]]) (by kernel_rfl) ?_
                 refine SD.takes tk D_17 [] kn0 [5, 6] [] [] [I, I, I, I, I, I, I, O, O, O, O, O, O, O, O, O] [(2, vi .i64 local_3), (4, vi .i64 period_5), (11, vp 0 0), (83, vb (x_18 == (-1)))] rfl (by kernel_rfl) (by kernel_rfl) (by kernel_rfl) ?_
                 rcases Bool.eq_false_or_eq_true ((x_18 == (-1))) with hg_19 | hg_19
                 · replace hp := if_t hp hg_19
                   refine SD.takes tk D_17 [(83, true)] (knS rfl hg_19 kn0) [7, 8, 9, 11, 12] [] [] [I, I, I, I, I, I, I, I, I, I, O, I, I, O, O, O] [(83, vb (x_18 == (-1))), (84, .g [ci .i64 1, ci .u64 5, ci .u64 a_1]), (85, vi .i64 local_3), (86, vi .i64 period_5), (89, .g [ci .i64 1, ci .u64 5])] rfl (by kernel_rfl) (by kernel_rfl) (by kernel_rfl) ?_
                   obtain ⟨x_20, e_x_20, hp⟩ := bind_inv hp
                   refine SD.all1 (i := 10) (by kernel_rfl) ?_
                   refine SW.eff D_17 (i := 10) (bs' := [I, I, I, I, I, I, I, I, I, I, I, I, I, O, O, O]) rfl (.inr ⟨_, _, _, _, rfl, rfl, rfl, hg_19⟩) rfl (e_c Tryz.call5 (ok_privacy_Current F (T_api_Identity.mk (T_api_Address.mk 1 5) a_1) false local_3 period_5 _ e_x_20) [] [.g [ci .i64 1, ci .u64 5, ci .u64 a_1], vb false, vi .i64 local_3, vi .i64 period_5] (.g (C_api_Address x_20)) (by kernel_rfl) (.inl rfl)) (by kernel_rfl) rfl (by kernel_rfl) ?_
                   refine SD.all1 (i := 13) (by kernel_rfl) ?_
                   refine SW.eff D_17 (i := 13) (bs' := [I, I, I, I, I, I, I, I, I, I, I, I, I, I, O, O]) rfl (.inr ⟨_, _, _, _, rfl, rfl, rfl, hg_19⟩) rfl (e_eqs tk (cs := (C_api_Address x_20)) (ds := [ci .i64 1, ci .u64 5]) [(x_20.Kind == 1), (x_20.Bits == 5)] ((x_20.Kind == 1) && (x_20.Bits == 5)) rfl rfl (by kernel_rfl) (by kernel_rfl) (by kernel_rfl) (.inl ⟨rfl, (by kernel_rfl)⟩)) (by kernel_rfl) rfl (by kernel_rfl) ?_
                   refine SD.norm (itsN := [.blk 28 [ci .i64 1, ci .u64 5, ci .u64 a_1], .blk 26 (C_api_Address x_7), .own 3 28 R_T_api_Identity [(T_api_Identity.mk (T_api_Address.mk 1 5) 0)]]) (by kernel_rfl) ?_
                   refine SD.takes tk D_17 [(83, true)] (knS rfl hg_19 kn0) [14, 15] [] [] [I, I, I, I, I, I, I, I, I, I, I, I, I, I, I, I] [(10, vb ((x_20.Kind == 1) && (x_20.Bits == 5)))] rfl (by kernel_rfl) (by kernel_rfl) (by kernel_rfl) ?_
                   refine SD.done (by kernel_rfl) fun a w h => ?_
                   exact ⟨((x_20.Kind == 1) && (x_20.Bits == 5)), hp, h.at (js := []) (by kernel_rfl)⟩
                 · replace hp := if_f hp hg_19
                   refine SD.takes tk D_17 [(83, false)] (knS rfl hg_19 kn0) [7, 8, 9, 10, 11, 12, 13, 14, 15] [] [] [I, I, I, I, I, I, I, I, I, I, I, I, I, I, I, I] [(10, vb false)] rfl (by kernel_rfl) (by kernel_rfl) (by kernel_rfl) ?_
                   refine SD.done (by kernel_rfl) fun a w h => ?_
                   exact ⟨false, hp, h.at (js := []) (by kernel_rfl)⟩
               · rintro a w ⟨z_15, hp, h⟩
                 refine h.go ?_
                 obtain rfl := some_inv' hp
                 exact SC.re (js := []) tk (by kernel_rfl)
end V
end Go.Proofs.YtladkmnfmpojiaaGreatDoor
