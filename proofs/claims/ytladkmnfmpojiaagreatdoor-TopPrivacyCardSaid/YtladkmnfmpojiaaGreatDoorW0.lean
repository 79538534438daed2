/-
  Walks, written by program: each Go function returns what its pure twin says.
-/
import Derived.Test.YtladkmnfmpojiaaGreatDoorRep
namespace Go.Proofs.YtladkmnfmpojiaaGreatDoor
namespace V
theorem ok_privacy_Epoch (F : Nat) (local_1 : Int) (period_2 : Int) (r : Int) (hp : privacy_Epoch F local_1 period_2 = some r) : Spec Tryz.prog 13 [vi .i64 local_1, vi .i64 period_2] [] (vi .i64 r) [] := by
 refine Spec.enter Tryz.func13 rfl Tryz.ntmps13 rfl rfl fun fx => ?_
 refine SC.r tk [(0, vi .i64 local_1), (1, vi .i64 period_2)] [] [] [] (by kernel_rfl) ?_
 refine SC.seq ?_
 refine SC.r tk [(0, vi .i64 local_1), (1, vi .i64 period_2), (10, vb ((decide (period_2 < 1)) || (decide (local_1 < 0))))] [] [] [] (by kernel_rfl) ?_
 refine SC.if' rfl hp (fun hp => ?_) (fun hp => ?_)
 · refine SC.r tk [(4, vi .i64 0)] [] [] [] (by kernel_rfl) ?_
   obtain rfl := some_inv' hp
   exact SC.re (js := []) tk (by kernel_rfl)
 · refine SC.skipThen ?_
   obtain ⟨x_3, e_x_3, hp⟩ := bind_inv hp
   refine SC.r tk [(4, vi .i64 x_3)] [] [.bin .quo .i64 local_1 period_2 x_3 e_x_3] [local_1, period_2] (by kernel_rfl) ?_
   obtain rfl := some_inv' hp
   exact SC.re (js := []) tk (by kernel_rfl)

theorem ok_octets_sized (F : Nat) (n_1 : Int) (r : Bool) (hp : octets_sized F n_1 = some r) : Spec Tryz.prog 145 [vi .i64 n_1] [] (vb r) [] := by
 refine Spec.enter Tryz.func145 rfl Tryz.ntmps145 rfl rfl fun fx => ?_
 refine SC.r tk [(0, vi .i64 n_1)] [] [] [] (by kernel_rfl) ?_
 refine SC.r tk [(2, vb ((decide (n_1 ≥ 1)) && (decide (n_1 ≤ 8))))] [] [] [] (by kernel_rfl) ?_
 obtain rfl := some_inv' hp
 exact SC.re (js := []) tk (by kernel_rfl)

theorem ok_octets_Put (F : Nat) (fields_1 : (List T_api_Field)) (r : (List Int) × Int) (hp : octets_Put F fields_1 = some r) : Spec Tryz.prog 80 [vs 0] [.rd 2 R_T_api_Field fields_1] (.u [.inl (.s 1), .inl (ci .i64 r.2)]) [.gone, .rd 1 R8 r.1] := by
 refine Spec.enter Tryz.func80 rfl Tryz.ntmps80 rfl rfl fun fx => ?_
 refine SC.r tk [(0, vs 0)] [] [] [] (by kernel_rfl) ?_
 refine SC.r tk [(0, vs 0), (4, vn)] [] [] [] (by kernel_rfl) ?_
 refine SC.cut (fun a w => ∃ (l_2 : (List Int)), octets_Put_j1 F l_2 = some r ∧ A 49 1 fx [(4, vs 1)] [.gone, .own 1 5 R8 l_2] a w) ?_ ?_
 · refine SC.r tk [(4, vn), (8, vs 0), (9, vi .i64 (len fields_1)), (10, vi .i64 0)] [] [] [] (by kernel_rfl) ?_
   refine SC.block ?_
   obtain ⟨o1, hi1, ho1⟩ := bind_inv hp
   clear hp
   refine SC.loop (fun n a w => ∃ (l_3 : (List Int)) (x_4 : Int), iter (fun s => octets_Put_l1 F fields_1 s.1 s.2) n (l_3, x_4) = some o1 ∧ A 49 1 fx [(4, vs 1), (8, vs 0), (9, vi .i64 (len fields_1)), (10, vi .i64 x_4)] [.rd 2 R_T_api_Field fields_1, .own 1 5 R8 l_3] a w) F (fun a w h => ⟨[], 0, hi1, h.at (js := [.g 0, .n]) (by kernel_rfl)⟩) ?_
   rintro n1 a w ⟨l_3, x_4, hi1, h⟩
   obtain ⟨n1, q1, rfl, hp, hs1⟩ := iter_inv hi1
   replace hp : octets_Put_l1 F fields_1 l_3 x_4 = some q1 := hp
   clear hi1
   refine h.go ?_
   refine SC.r tk [(4, vs 1), (8, vs 0), (9, vi .i64 (len fields_1)), (10, vi .i64 x_4), (11, vb (decide (x_4 < (len fields_1))))] [] [] [] (by kernel_rfl) ?_
   refine SC.seq ?_
   refine SC.if' rfl hp (fun hp => ?_) (fun hp => ?_)
   · refine SC.skipThen ?_
     refine SC.cut (fun a w => ∃ (l_5 : (List Int)), octets_Put_j2 F x_4 l_5 = some q1 ∧ A 49 1 fx [(4, vs 1), (8, vs 0), (9, vi .i64 (len fields_1)), (10, vi .i64 x_4)] [.rd 2 R_T_api_Field fields_1, .own 1 5 R8 l_5] a w) ?_ ?_
     · refine SC.block ?_
       refine SC.seq ?_
       refine SC.reg ?_
       obtain ⟨x_6, e_x_6, hp⟩ := bind_inv hp
       refine SL.pre (pre_ix (i := 0) (iv := x_4) (sz := 2) (R := R_T_api_Field) (l := fields_1) (by kernel_rfl) rfl e_x_6) ?_
       refine SL.sim tk 2 [(4, vs 1), (8, vs 0), (9, vi .i64 (len fields_1)), (10, vi .i64 x_4), (13, .g (C_api_Field x_6))] [] [.el 2] [x_4] (by kernel_rfl) ?_
       refine SL.eff (e_alloc (E := 258) tk [ci .i64 0, ci .u64 0] (by kernel_rfl)) rfl (by kernel_rfl) ?_
       refine SL.sim tk 1 [(4, vs 1), (6, vp 3 0), (8, vs 0), (9, vi .i64 (len fields_1)), (10, vi .i64 x_4)] [(3, 258, (C_api_Field x_6))] [] [] (by kernel_rfl) ?_
       refine SL.nilThen ?_
       refine SC.seq ?_
       refine SC.seq ?_
       refine SC.reg ?_
       refine SL.sim tk 2 [(4, vs 1), (6, vp 3 0), (8, vs 0), (9, vi .i64 (len fields_1)), (10, vi .i64 x_4), (15, vi .i64 x_6.Size)] [] [] [] (by kernel_rfl) ?_
       obtain ⟨x_7, e_x_7, hp⟩ := bind_inv hp
       refine SL.eff (e_c Tryz.call145 (ok_octets_sized F x_6.Size _ e_x_7) [] [vi .i64 x_6.Size] (vb x_7) (by kernel_rfl) (.inl rfl)) rfl (by kernel_rfl) ?_
       refine SL.norm (itsN := [.rd 2 R_T_api_Field fields_1, .own 1 5 R8 l_3, .elt (some (0, x_4)) false (C_api_Field x_6), .blk 258 (C_api_Field x_6)]) (by kernel_rfl) ?_
       refine SL.sim tk 2 [(4, vs 1), (6, vp 3 0), (8, vs 0), (9, vi .i64 (len fields_1)), (10, vi .i64 x_4), (18, vb (!x_7))] [] [] [] (by kernel_rfl) ?_
       obtain ⟨z_9, hz, hpr⟩ := bind_inv hp
       clear hp
       refine SL.cutAt 13 (fun a w => A 49 1 fx [(4, vs 1), (6, vp 2 0), (8, vs 0), (9, vi .i64 (len fields_1)), (10, vi .i64 x_4), (31, vb z_9)] [.rd 2 R_T_api_Field fields_1, .own 1 5 R8 l_3, .blk 258 (C_api_Field x_6)] a w) ?_ ?_
       · have hp := hz
         rcases Bool.eq_false_or_eq_true ((!x_7)) with hg_8 | hg_8
         · replace hp := if_t hp hg_8
           refine SL.no rfl rfl hg_8 rfl ?_
           refine SL.no rfl rfl hg_8 rfl ?_
           refine SL.no rfl rfl hg_8 rfl ?_
           refine SL.no rfl rfl hg_8 rfl ?_
           refine SL.noU rfl rfl rfl ?_
           refine SL.noU rfl rfl rfl ?_
           refine SL.noU rfl rfl rfl ?_
           refine SL.noU rfl rfl rfl ?_
           refine SL.noU rfl rfl rfl ?_
           refine SL.noU rfl rfl rfl ?_
           refine SL.noU rfl rfl rfl ?_
           refine SL.no rfl rfl hg_8 rfl ?_
           refine SL.pickt rfl hg_8 rfl rfl ?_
           refine SL.nilJ fun a w h => ?_
           obtain rfl := some_inv' hp
           exact h.at (js := [.g 0, .g 1, .g 3]) (by kernel_rfl)
         · replace hp := if_f hp hg_8
           refine SL.yes rfl rfl hg_8 ?_
           refine SL.sim tk 1 [(4, vs 1), (6, vp 3 0), (8, vs 0), (9, vi .i64 (len fields_1)), (10, vi .i64 x_4), (18, vb (!x_7)), (19, vp 3 0)] [] [] [] (by kernel_rfl) ?_
           refine SL.yes rfl rfl hg_8 ?_
           refine SL.sim tk 1 [(4, vs 1), (6, vp 3 0), (8, vs 0), (9, vi .i64 (len fields_1)), (10, vi .i64 x_4), (18, vb (!x_7)), (19, vp 3 0), (20, vi .i64 x_6.Size)] [] [] [] (by kernel_rfl) ?_
           refine SL.yes rfl rfl hg_8 ?_
           refine SL.sim tk 1 [(4, vs 1), (6, vp 3 0), (8, vs 0), (9, vi .i64 (len fields_1)), (10, vi .i64 x_4), (18, vb (!x_7)), (19, vp 3 0), (20, vi .i64 x_6.Size), (21, vb (decide (x_6.Size < 8)))] [] [] [] (by kernel_rfl) ?_
           refine SL.yes rfl rfl hg_8 ?_
           refine SL.sim tk 1 [(4, vs 1), (6, vp 3 0), (8, vs 0), (9, vi .i64 (len fields_1)), (10, vi .i64 x_4), (18, vb (!x_7)), (19, vp 3 0), (20, vi .i64 x_6.Size), (21, vb (decide (x_6.Size < 8))), (22, vb (decide (x_6.Size < 8)))] [] [] [] (by kernel_rfl) ?_
           rcases Bool.eq_false_or_eq_true (decide (x_6.Size < 8)) with hg_15 | hg_15
           · replace hp := if_t hp hg_15
             refine SL.yes rfl rfl hg_15 ?_
             refine SL.sim tk 1 [(4, vs 1), (6, vp 3 0), (8, vs 0), (9, vi .i64 (len fields_1)), (10, vi .i64 x_4), (18, vb (!x_7)), (19, vp 3 0), (20, vi .i64 x_6.Size), (21, vb (decide (x_6.Size < 8))), (22, vb (decide (x_6.Size < 8))), (23, vp 3 1)] [] [] [] (by kernel_rfl) ?_
             refine SL.yes rfl rfl hg_15 ?_
             refine SL.sim tk 1 [(4, vs 1), (6, vp 3 0), (8, vs 0), (9, vi .i64 (len fields_1)), (10, vi .i64 x_4), (18, vb (!x_7)), (19, vp 3 0), (20, vi .i64 x_6.Size), (21, vb (decide (x_6.Size < 8))), (22, vb (decide (x_6.Size < 8))), (23, vp 3 1), (24, vi .u64 x_6.Value)] [] [] [] (by kernel_rfl) ?_
             refine SL.yes rfl rfl hg_15 ?_
             refine SL.sim tk 1 [(4, vs 1), (6, vp 3 0), (8, vs 0), (9, vi .i64 (len fields_1)), (10, vi .i64 x_4), (18, vb (!x_7)), (19, vp 3 0), (20, vi .i64 x_6.Size), (21, vb (decide (x_6.Size < 8))), (22, vb (decide (x_6.Size < 8))), (23, vp 3 1), (24, vi .u64 x_6.Value), (25, vp 3 0)] [] [] [] (by kernel_rfl) ?_
             refine SL.yes rfl rfl hg_15 ?_
             refine SL.sim tk 1 [(4, vs 1), (6, vp 3 0), (8, vs 0), (9, vi .i64 (len fields_1)), (10, vi .i64 x_4), (18, vb (!x_7)), (19, vp 3 0), (20, vi .i64 x_6.Size), (21, vb (decide (x_6.Size < 8))), (22, vb (decide (x_6.Size < 8))), (23, vp 3 1), (24, vi .u64 x_6.Value), (25, vp 3 0), (26, vi .i64 x_6.Size)] [] [] [] (by kernel_rfl) ?_
             refine SL.yes rfl rfl hg_15 ?_
             refine SL.sim tk 1 [(4, vs 1), (6, vp 3 0), (8, vs 0), (9, vi .i64 (len fields_1)), (10, vi .i64 x_4), (18, vb (!x_7)), (19, vp 3 0), (20, vi .i64 x_6.Size), (21, vb (decide (x_6.Size < 8))), (22, vb (decide (x_6.Size < 8))), (23, vp 3 1), (24, vi .u64 x_6.Value), (25, vp 3 0), (26, vi .i64 x_6.Size), (27, vi .i64 (w64 (8 * x_6.Size)))] [] [] [] (by kernel_rfl) ?_
             refine SL.yes rfl rfl hg_15 ?_
             obtain ⟨x_16, e_x_16, hp⟩ := bind_inv hp
             refine SL.sim tk 1 [(4, vs 1), (6, vp 3 0), (8, vs 0), (9, vi .i64 (len fields_1)), (10, vi .i64 x_4), (18, vb (!x_7)), (19, vp 3 0), (20, vi .i64 x_6.Size), (21, vb (decide (x_6.Size < 8))), (22, vb (decide (x_6.Size < 8))), (23, vp 3 1), (24, vi .u64 x_6.Value), (25, vp 3 0), (26, vi .i64 x_6.Size), (27, vi .i64 (w64 (8 * x_6.Size))), (28, vi .u64 x_16)] [] [.bin .shr .u64 x_6.Value (w64 (8 * x_6.Size)) x_16 e_x_16] [x_6.Value, w64 (8 * x_6.Size)] (by kernel_rfl) ?_
             refine SL.yes rfl rfl hg_15 ?_
             refine SL.sim tk 1 [(4, vs 1), (6, vp 3 0), (8, vs 0), (9, vi .i64 (len fields_1)), (10, vi .i64 x_4), (18, vb (!x_7)), (19, vp 3 0), (20, vi .i64 x_6.Size), (21, vb (decide (x_6.Size < 8))), (22, vb (decide (x_6.Size < 8))), (23, vp 3 1), (24, vi .u64 x_6.Value), (25, vp 3 0), (26, vi .i64 x_6.Size), (27, vi .i64 (w64 (8 * x_6.Size))), (28, vi .u64 x_16), (29, vb (x_16 != 0))] [] [] [] (by kernel_rfl) ?_
             refine SL.yes rfl rfl hg_8 ?_
             refine SL.pickt rfl hg_15 rfl rfl ?_
             refine SL.pickf rfl hg_8 rfl rfl ?_
             refine SL.nilJ fun a w h => ?_
             obtain rfl := some_inv' hp
             exact h.at (js := [.g 0, .g 1, .g 3]) (by kernel_rfl)
           · replace hp := if_f hp hg_15
             refine SL.no rfl rfl hg_15 rfl ?_
             refine SL.no rfl rfl hg_15 rfl ?_
             refine SL.no rfl rfl hg_15 rfl ?_
             refine SL.no rfl rfl hg_15 rfl ?_
             refine SL.no rfl rfl hg_15 rfl ?_
             refine SL.no rfl rfl hg_15 rfl ?_
             refine SL.no rfl rfl hg_15 rfl ?_
             refine SL.yes rfl rfl hg_8 ?_
             refine SL.pickf rfl hg_15 rfl rfl ?_
             refine SL.pickf rfl hg_8 rfl rfl ?_
             refine SL.nilJ fun a w h => ?_
             obtain rfl := some_inv' hp
             exact h.at (js := [.g 0, .g 1, .g 3]) (by kernel_rfl)
       · intro a w h
         have hp := hpr; clear hpr hz
         refine h.goL ?_
         refine SL.nilThen ?_
         refine SC.if' rfl hp (fun hp => ?_) (fun hp => ?_)
         · refine SC.r tk [(2, vn), (3, vi .i64 5)] [] [] [] (by kernel_rfl) ?_
           have ho := done_inv hp hs1
           replace hp := ho1
           try rw [ho] at hp
           obtain rfl := some_inv' hp
           exact SC.re (js := [.g 0, .n]) tk (by kernel_rfl)
         · refine SC.skipThen ?_
           refine SC.r tk [(4, vs 1), (6, vp 2 0), (8, vs 0), (9, vi .i64 (len fields_1)), (10, vi .i64 x_4), (33, vi .i64 x_6.Size), (34, vi .i64 0)] [] [] [] (by kernel_rfl) ?_
           refine SC.block ?_
           obtain ⟨o2, hi2, ho2⟩ := bind_inv hp
           clear hp
           refine SC.loop (fun n a w => ∃ (l_10 : (List Int)) (x_11 : Int), iter (fun s => octets_Put_l2 F x_6 s.1 s.2) n (l_10, x_11) = some o2 ∧ A 49 1 fx [(4, vs 1), (6, vp 2 0), (8, vs 0), (9, vi .i64 (len fields_1)), (10, vi .i64 x_4), (33, vi .i64 x_6.Size), (34, vi .i64 x_11)] [.rd 2 R_T_api_Field fields_1, .own 1 5 R8 l_10, .blk 258 (C_api_Field x_6)] a w) F (fun a w h => ⟨l_3, 0, hi2, h.at (js := [.g 0, .g 1, .g 2]) (by kernel_rfl)⟩) ?_
           rintro n2 a w ⟨l_10, x_11, hi2, h⟩
           obtain ⟨n2, q2, rfl, hp, hs2⟩ := iter_inv hi2
           replace hp : octets_Put_l2 F x_6 l_10 x_11 = some q2 := hp
           clear hi2
           refine h.go ?_
           refine SC.r tk [(4, vs 1), (6, vp 2 0), (8, vs 0), (9, vi .i64 (len fields_1)), (10, vi .i64 x_4), (33, vi .i64 x_6.Size), (34, vi .i64 x_11), (35, vb (decide (x_11 < x_6.Size)))] [] [] [] (by kernel_rfl) ?_
           refine SC.seq ?_
           refine SC.if' rfl hp (fun hp => ?_) (fun hp => ?_)
           · refine SC.skipThen ?_
             refine SC.seq ?_
             refine SC.block ?_
             refine SC.r tk [(4, vs 1), (6, vp 2 0), (7, vi .i64 x_11), (8, vs 0), (9, vi .i64 (len fields_1)), (10, vi .i64 x_4), (33, vi .i64 x_6.Size), (34, vi .i64 x_11)] [] [] [] (by kernel_rfl) ?_
             refine SC.reg ?_
             obtain ⟨x_12, e_x_12, hp⟩ := bind_inv hp
             refine SL.sim tk 7 [(4, vs 1), (6, vp 2 0), (8, vs 0), (9, vi .i64 (len fields_1)), (10, vi .i64 x_4), (33, vi .i64 x_6.Size), (34, vi .i64 x_11), (37, vs 1), (43, vi .u8 (wu8 x_12))] [] [.bin .shr .u64 x_6.Value (w64 (8 * x_11)) x_12 e_x_12] [x_6.Value, w64 (8 * x_11)] (by kernel_rfl) ?_
             refine SL.eff (e_lit (sz := 1) (E := 5) (R := R8) (by_ := 1) tk [[ci .u8 (wu8 x_12)]] [wu8 x_12] (by kernel_rfl) ⟨Clo.int, trivial⟩ rfl (by kernel_rfl) (by kernel_rfl)) rfl (by kernel_rfl) ?_
             obtain ⟨l_13, e_l_13, hp⟩ := bind_inv hp
             refine SL.eff (e_app (i := 1) (l := l_10) (sz := 1) (E := 5) (R := R8) (by_ := 1) (m := [wu8 x_12]) tk rfl (by kernel_rfl) rfl (.o 5 (by kernel_rfl)) e_l_13 (by kernel_rfl)) rfl (by kernel_rfl) ?_
             refine SL.sim tk 1 [(4, vs 4), (6, vp 2 0), (8, vs 0), (9, vi .i64 (len fields_1)), (10, vi .i64 x_4), (33, vi .i64 x_6.Size), (34, vi .i64 x_11)] [] [] [] (by kernel_rfl) ?_
             refine SL.nilThen ?_
             refine SC.reg ?_
             refine SL.sim tk 2 [(4, vs 4), (6, vp 2 0), (8, vs 0), (9, vi .i64 (len fields_1)), (10, vi .i64 x_4), (33, vi .i64 x_6.Size), (34, vi .i64 (w64 (x_11 + 1)))] [] [] [] (by kernel_rfl) ?_
             refine SL.nilJ fun a w h => ?_
             exact ⟨n2, Nat.lt_succ_self _, l_13, w64 (x_11 + 1), next_inv hp hs2, h.at (js := [.g 0, .g 4, .g 2]) (by kernel_rfl)⟩
           · refine SC.exitJ rfl fun a w h => ?_
             have ho := done_inv hp hs2
             replace hp := ho2
             try rw [ho] at hp
             exact ⟨l_10, hp, h.at (js := [.g 0, .g 1]) (by kernel_rfl)⟩
     · rintro a w ⟨l_5, hp, h⟩
       refine h.go ?_
       refine SC.reg ?_
       refine SL.sim tk 2 [(4, vs 1), (8, vs 0), (9, vi .i64 (len fields_1)), (10, vi .i64 (w64 (x_4 + 1)))] [] [] [] (by kernel_rfl) ?_
       refine SL.nilJ fun a w h => ?_
       exact ⟨n1, Nat.lt_succ_self _, l_5, w64 (x_4 + 1), next_inv hp hs1, h.at (js := [.g 0, .g 1]) (by kernel_rfl)⟩
   · refine SC.exitJ rfl fun a w h => ?_
     have ho := done_inv hp hs1
     replace hp := ho1
     try rw [ho] at hp
     exact ⟨l_3, hp, h.at (js := [.g 0, .g 1]) (by kernel_rfl)⟩
 · rintro a w ⟨l_2, hp, h⟩
   refine h.go ?_
   refine SC.r tk [(2, vs 1), (3, vi .i64 0)] [] [] [] (by kernel_rfl) ?_
   obtain rfl := some_inv' hp
   exact SC.re (js := [.g 0, .z 1]) tk (by kernel_rfl)

theorem ok_mac_bytes (F : Nat) (numbers_1 : (List Int)) (r : (List Int)) (hp : mac_bytes F numbers_1 = some r) : Spec Tryz.prog 45 [vs 0] [.rd 1 (RInt .u64) numbers_1] (vs 1) [.gone, .rd 1 R8 r] := by
 refine Spec.enter Tryz.func45 rfl Tryz.ntmps45 rfl rfl fun fx => ?_
 refine SC.r tk [(0, vs 0)] [] [] [] (by kernel_rfl) ?_
 refine SC.r tk [(0, vs 0), (3, vn)] [] [] [] (by kernel_rfl) ?_
 refine SC.cut (fun a w => ∃ (l_2 : (List T_api_Field)), mac_bytes_j1 F l_2 = some r ∧ A 26 1 fx [(3, vs 1)] [.gone, .own 2 258 R_T_api_Field l_2] a w) ?_ ?_
 · refine SC.r tk [(3, vn), (8, vs 0), (9, vi .i64 (len numbers_1)), (10, vi .i64 0)] [] [] [] (by kernel_rfl) ?_
   refine SC.block ?_
   obtain ⟨o1, hi1, ho1⟩ := bind_inv hp
   clear hp
   refine SC.loop (fun n a w => ∃ (l_4 : (List T_api_Field)) (x_5 : Int), iter (fun s => mac_bytes_l1 F numbers_1 s.1 s.2) n (l_4, x_5) = some o1 ∧ A 26 1 fx [(3, vs 1), (8, vs 0), (9, vi .i64 (len numbers_1)), (10, vi .i64 x_5)] [.rd 1 (RInt .u64) numbers_1, .own 2 258 R_T_api_Field l_4] a w) F (fun a w h => ⟨[], 0, hi1, h.at (js := [.g 0, .n]) (by kernel_rfl)⟩) ?_
   rintro n1 a w ⟨l_4, x_5, hi1, h⟩
   obtain ⟨n1, q1, rfl, hp, hs1⟩ := iter_inv hi1
   replace hp : mac_bytes_l1 F numbers_1 l_4 x_5 = some q1 := hp
   clear hi1
   refine h.go ?_
   refine SC.r tk [(3, vs 1), (8, vs 0), (9, vi .i64 (len numbers_1)), (10, vi .i64 x_5), (11, vb (decide (x_5 < (len numbers_1))))] [] [] [] (by kernel_rfl) ?_
   refine SC.seq ?_
   refine SC.if' rfl hp (fun hp => ?_) (fun hp => ?_)
   · refine SC.skipThen ?_
     refine SC.seq ?_
     refine SC.block ?_
     obtain ⟨x_6, e_x_6, hp⟩ := bind_inv hp
     refine SC.pre (pre_ix (i := 0) (iv := x_5) (sz := 1) (R := (RInt .u64)) (l := numbers_1) (by kernel_rfl) rfl e_x_6) ?_
     refine SC.r tk [(3, vs 1), (5, vi .u64 x_6), (8, vs 0), (9, vi .i64 (len numbers_1)), (10, vi .i64 x_5)] [] [.el 2] [x_5] (by kernel_rfl) ?_
     refine SC.reg ?_
     refine SL.sim tk 3 [(3, vs 1), (8, vs 0), (9, vi .i64 (len numbers_1)), (10, vi .i64 x_5), (14, vs 1), (16, .g [ci .i64 8, ci .u64 x_6])] [] [] [] (by kernel_rfl) ?_
     refine SL.eff (e_lit (sz := 2) (E := 258) (R := R_T_api_Field) (by_ := 16) tk [[ci .i64 8, ci .u64 x_6]] [(T_api_Field.mk 8 x_6)] (by kernel_rfl) ⟨(clo_T_api_Field (x := (T_api_Field.mk 8 x_6))), trivial⟩ rfl (by kernel_rfl) (by kernel_rfl)) rfl (by kernel_rfl) ?_
     obtain ⟨l_7, e_l_7, hp⟩ := bind_inv hp
     refine SL.eff (e_app (i := 1) (l := l_4) (sz := 2) (E := 258) (R := R_T_api_Field) (by_ := 16) (m := [(T_api_Field.mk 8 x_6)]) tk rfl (by kernel_rfl) rfl (.o 258 (by kernel_rfl)) e_l_7 (by kernel_rfl)) rfl (by kernel_rfl) ?_
     refine SL.sim tk 1 [(3, vs 4), (8, vs 0), (9, vi .i64 (len numbers_1)), (10, vi .i64 x_5)] [] [] [] (by kernel_rfl) ?_
     refine SL.nilThen ?_
     refine SC.reg ?_
     refine SL.sim tk 2 [(3, vs 4), (8, vs 0), (9, vi .i64 (len numbers_1)), (10, vi .i64 (w64 (x_5 + 1)))] [] [] [] (by kernel_rfl) ?_
     refine SL.nilJ fun a w h => ?_
     exact ⟨n1, Nat.lt_succ_self _, l_7, w64 (x_5 + 1), next_inv hp hs1, h.at (js := [.g 0, .g 4]) (by kernel_rfl)⟩
   · refine SC.exitJ rfl fun a w h => ?_
     have ho := done_inv hp hs1
     replace hp := ho1
     try rw [ho] at hp
     exact ⟨l_4, hp, h.at (js := [.g 0, .g 1]) (by kernel_rfl)⟩
 · rintro a w ⟨l_2, hp, h⟩
   refine h.go ?_
   refine SC.seq ?_
   refine SC.reg ?_
   refine SL.sim tk 1 [(21, vs 1)] [] [] [] (by kernel_rfl) ?_
   obtain ⟨x_3, e_x_3, hp⟩ := bind_inv hp
   refine SL.pre (pre_frz (i := 1) (sz := 2) (E := 258) (R := R_T_api_Field) (l := l_2) (by kernel_rfl)) ?_
   refine SL.eff (e_c Tryz.call80 (ok_octets_Put F l_2 _ e_x_3) [.g 1] [vs 1] (.u [.inl (.s 2), .inl (ci .i64 x_3.2)]) (by kernel_rfl) (.inl rfl)) rfl (by kernel_rfl) ?_
   refine SL.sim tk 5 [(6, vs 2)] [] [] [] (by kernel_rfl) ?_
   refine SL.nilThen ?_
   refine SC.r tk [(2, vs 2)] [] [] [] (by kernel_rfl) ?_
   obtain rfl := some_inv' hp
   exact SC.re (js := [.g 0, .g 2]) tk (by kernel_rfl)

theorem ok_octets_Join (F : Nat) (parts_1 : (List (List Int))) (r : (List Int)) (hp : octets_Join F parts_1 = some r) : Spec Tryz.prog 44 [vs 0] [.rd 1 (RSl 1 R8) parts_1] (vs 1) [.gone, .rd 1 R8 r] := by
 refine Spec.enter Tryz.func44 rfl Tryz.ntmps44 rfl rfl fun fx => ?_
 refine SC.r tk [(0, vs 0)] [] [] [] (by kernel_rfl) ?_
 refine SC.r tk [(0, vs 0), (3, vn)] [] [] [] (by kernel_rfl) ?_
 refine SC.cut (fun a w => ∃ (l_2 : (List Int)), octets_Join_j1 F l_2 = some r ∧ A 17 1 fx [(3, vs 1)] [.gone, .own 1 5 R8 l_2] a w) ?_ ?_
 · refine SC.r tk [(3, vn), (6, vs 0), (7, vi .i64 (len parts_1)), (8, vi .i64 0)] [] [] [] (by kernel_rfl) ?_
   refine SC.block ?_
   obtain ⟨o1, hi1, ho1⟩ := bind_inv hp
   clear hp
   refine SC.loop (fun n a w => ∃ (l_3 : (List Int)) (x_4 : Int), iter (fun s => octets_Join_l1 F parts_1 s.1 s.2) n (l_3, x_4) = some o1 ∧ A 17 1 fx [(3, vs 1), (6, vs 0), (7, vi .i64 (len parts_1)), (8, vi .i64 x_4)] [.rd 1 (RSl 1 R8) parts_1, .own 1 5 R8 l_3] a w) F (fun a w h => ⟨[], 0, hi1, h.at (js := [.g 0, .n]) (by kernel_rfl)⟩) ?_
   rintro n1 a w ⟨l_3, x_4, hi1, h⟩
   obtain ⟨n1, q1, rfl, hp, hs1⟩ := iter_inv hi1
   replace hp : octets_Join_l1 F parts_1 l_3 x_4 = some q1 := hp
   clear hi1
   refine h.go ?_
   refine SC.r tk [(3, vs 1), (6, vs 0), (7, vi .i64 (len parts_1)), (8, vi .i64 x_4), (9, vb (decide (x_4 < (len parts_1))))] [] [] [] (by kernel_rfl) ?_
   refine SC.seq ?_
   refine SC.if' rfl hp (fun hp => ?_) (fun hp => ?_)
   · refine SC.skipThen ?_
     refine SC.seq ?_
     refine SC.block ?_
     obtain ⟨x_5, e_x_5, hp⟩ := bind_inv hp
     refine SC.pre (pre_ix (i := 0) (iv := x_4) (sz := 1) (R := (RSl 1 R8)) (l := parts_1) (by kernel_rfl) rfl e_x_5) ?_
     refine SC.r tk [(3, vs 1), (5, vs 3), (6, vs 0), (7, vi .i64 (len parts_1)), (8, vi .i64 x_4)] [] [.el 2] [x_4] (by kernel_rfl) ?_
     refine SC.reg ?_
     refine SL.sim tk 2 [(3, vs 1), (6, vs 0), (7, vi .i64 (len parts_1)), (8, vi .i64 x_4), (12, vs 1), (13, vs 3)] [] [] [] (by kernel_rfl) ?_
     obtain ⟨l_6, e_l_6, hp⟩ := bind_inv hp
     refine SL.eff (e_app (i := 1) (l := l_3) (sz := 1) (E := 5) (R := R8) (by_ := 1) (m := x_5) tk rfl (by kernel_rfl) rfl (.r (by kernel_rfl)) e_l_6 (by kernel_rfl)) rfl (by kernel_rfl) ?_
     refine SL.sim tk 1 [(3, vs 4), (6, vs 0), (7, vi .i64 (len parts_1)), (8, vi .i64 x_4)] [] [] [] (by kernel_rfl) ?_
     refine SL.nilThen ?_
     refine SC.reg ?_
     refine SL.sim tk 2 [(3, vs 4), (6, vs 0), (7, vi .i64 (len parts_1)), (8, vi .i64 (w64 (x_4 + 1)))] [] [] [] (by kernel_rfl) ?_
     refine SL.nilJ fun a w h => ?_
     exact ⟨n1, Nat.lt_succ_self _, l_6, w64 (x_4 + 1), next_inv hp hs1, h.at (js := [.g 0, .g 4]) (by kernel_rfl)⟩
   · refine SC.exitJ rfl fun a w h => ?_
     have ho := done_inv hp hs1
     replace hp := ho1
     try rw [ho] at hp
     exact ⟨l_3, hp, h.at (js := [.g 0, .g 1]) (by kernel_rfl)⟩
 · rintro a w ⟨l_2, hp, h⟩
   refine h.go ?_
   refine SC.r tk [(2, vs 1)] [] [] [] (by kernel_rfl) ?_
   obtain rfl := some_inv' hp
   exact SC.re (js := [.g 0, .z 1]) tk (by kernel_rfl)

theorem ok_serial_Low (F : Nat) (n_1 : Int) (bits_2 : Int) (r : Int) (hp : serial_Low F n_1 bits_2 = some r) : Spec Tryz.prog 208 [vi .u64 n_1, vi .i64 bits_2] [] (vi .u64 r) [] := by
 refine Spec.enter Tryz.func208 rfl Tryz.ntmps208 rfl rfl fun fx => ?_
 refine SC.r tk [(0, vi .u64 n_1), (1, vi .i64 bits_2)] [] [] [] (by kernel_rfl) ?_
 refine SC.seq ?_
 refine SC.block ?_
 refine SC.r tk [(0, vi .u64 n_1), (1, vi .i64 bits_2), (5, vb (decide (bits_2 ≤ 0)))] [] [] [] (by kernel_rfl) ?_
 refine SC.if' rfl hp (fun hp => ?_) (fun hp => ?_)
 · refine SC.r tk [(4, vi .u64 0)] [] [] [] (by kernel_rfl) ?_
   obtain rfl := some_inv' hp
   exact SC.re (js := []) tk (by kernel_rfl)
 · refine SC.r tk [(0, vi .u64 n_1), (1, vi .i64 bits_2), (8, vb (decide (bits_2 ≥ 64)))] [] [] [] (by kernel_rfl) ?_
   refine SC.if' rfl hp (fun hp => ?_) (fun hp => ?_)
   · refine SC.r tk [(4, vi .u64 n_1)] [] [] [] (by kernel_rfl) ?_
     obtain rfl := some_inv' hp
     exact SC.re (js := []) tk (by kernel_rfl)
   · refine SC.skipThen ?_
     obtain ⟨x_3, e_x_3, hp⟩ := bind_inv hp
     refine SC.r tk [(4, vi .u64 (iand .u64 n_1 (wu64 (x_3 - 1))))] [] [.bin .shl .u64 1 bits_2 x_3 e_x_3] [1, bits_2] (by kernel_rfl) ?_
     obtain rfl := some_inv' hp
     exact SC.re (js := []) tk (by kernel_rfl)

theorem ok_block_split (F : Nat) (x_1 : Int) (r : (Int × Int)) (hp : block_split F x_1 = some r) : Spec Tryz.prog 141 [vi .u64 x_1] [] (.g [ci .u32 r.1, ci .u32 r.2]) [] := by
 refine Spec.enter Tryz.func141 rfl Tryz.ntmps141 rfl rfl fun fx => ?_
 refine SC.seq ?_
 refine SC.reg ?_
 refine SL.eff (e_alloc (E := 327) tk [ci .u32 0, ci .u32 0] (by kernel_rfl)) rfl (by kernel_rfl) ?_
 refine SL.nilThen ?_
 refine SC.seq ?_
 refine SC.reg ?_
 refine SL.sim tk 4 [(2, vp 0 0), (5, vi .u32 (wu32 (shrp x_1 32))), (6, vi .u64 x_1)] [] [.bin .shr .u64 x_1 32 (shrp x_1 32) (by kernel_rfl)] [x_1, 32] (by kernel_rfl) ?_
 obtain ⟨x_2, e_x_2, hp⟩ := bind_inv hp
 refine SL.eff (e_c Tryz.call208 (ok_serial_Low F x_1 32 _ e_x_2) [] [vi .u64 x_1, vi .i64 32] (vi .u64 x_2) (by kernel_rfl) (.inl rfl)) rfl (by kernel_rfl) ?_
 refine SL.sim tk 3 [(2, vp 0 0)] [(0, 327, [ci .u32 (wu32 (shrp x_1 32)), ci .u32 (wu32 x_2)])] [] [] (by kernel_rfl) ?_
 refine SL.nilThen ?_
 obtain rfl := some_inv' hp
 exact SC.re (js := []) tk (by kernel_rfl)

theorem ok_math_bits_RotateLeft64 (F : Nat) (x_1 : Int) (k_2 : Int) (r : Int) (hp : math_bits_RotateLeft64 F x_1 k_2 = some r) : Spec Tryz.prog 209 [vi .u64 x_1, vi .i64 k_2] [] (vi .u64 r) [] := by
 refine Spec.enter Tryz.func209 rfl Tryz.ntmps209 rfl rfl fun fx => ?_
 refine SC.r tk [(0, vi .u64 x_1), (1, vi .i64 k_2)] [] [] [] (by kernel_rfl) ?_
 refine SC.r tk [(0, vi .u64 x_1), (5, vi .u64 (iand .u64 (wu64 k_2) 63))] [] [] [] (by kernel_rfl) ?_
 obtain ⟨x_3, e_x_3, hp⟩ := bind_inv hp
 obtain ⟨x_4, e_x_4, hp⟩ := bind_inv hp
 refine SC.r tk [(4, vi .u64 (ior .u64 x_3 x_4))] [] [.bin .shl .u64 x_1 (iand .u64 (wu64 k_2) 63) x_3 e_x_3, .bin .shr .u64 x_1 (wu64 (64 - (iand .u64 (wu64 k_2) 63))) x_4 e_x_4] [x_1, iand .u64 (wu64 k_2) 63, x_1, wu64 (64 - (iand .u64 (wu64 k_2) 63))] (by kernel_rfl) ?_
 obtain rfl := some_inv' hp
 exact SC.re (js := []) tk (by kernel_rfl)

theorem ok_math_bits_RotateLeft32 (F : Nat) (x_1 : Int) (k_2 : Int) (r : Int) (hp : math_bits_RotateLeft32 F x_1 k_2 = some r) : Spec Tryz.prog 210 [vi .u32 x_1, vi .i64 k_2] [] (vi .u32 r) [] := by
 refine Spec.enter Tryz.func210 rfl Tryz.ntmps210 rfl rfl fun fx => ?_
 refine SC.r tk [(0, vi .u32 x_1), (1, vi .i64 k_2)] [] [] [] (by kernel_rfl) ?_
 refine SC.r tk [(0, vi .u32 x_1), (5, vi .u64 (iand .u64 (wu64 k_2) 31))] [] [] [] (by kernel_rfl) ?_
 obtain ⟨x_3, e_x_3, hp⟩ := bind_inv hp
 obtain ⟨x_4, e_x_4, hp⟩ := bind_inv hp
 refine SC.r tk [(4, vi .u32 (ior .u32 x_3 x_4))] [] [.bin .shl .u32 x_1 (iand .u64 (wu64 k_2) 31) x_3 e_x_3, .bin .shr .u32 x_1 (wu64 (32 - (iand .u64 (wu64 k_2) 31))) x_4 e_x_4] [x_1, iand .u64 (wu64 k_2) 31, x_1, wu64 (32 - (iand .u64 (wu64 k_2) 31))] (by kernel_rfl) ?_
 obtain rfl := some_inv' hp
 exact SC.re (js := []) tk (by kernel_rfl)

theorem ok_block_Round (F : Nat) (k_1 : Int) (i_2 : Int) (half_3 : Int) (r : Int) (hp : block_Round F k_1 i_2 half_3 = some r) : Spec Tryz.prog 142 [vi .u64 k_1, vi .i64 i_2, vi .u32 half_3] [] (vi .u32 r) [] := by
 refine Spec.enter Tryz.func142 rfl Tryz.ntmps142 rfl rfl fun fx => ?_
 refine SC.r tk [(0, vi .u64 k_1), (1, vi .i64 i_2), (2, vi .u32 half_3)] [] [] [] (by kernel_rfl) ?_
 refine SC.r tk [(0, vi .u64 k_1), (2, vi .u32 half_3), (7, vi .i64 (remp (w64 (11 * (remp i_2 64))) 64))] [] [.bin .rem .i64 i_2 64 (remp i_2 64) (by kernel_rfl), .bin .rem .i64 (w64 (11 * (remp i_2 64))) 64 (remp (w64 (11 * (remp i_2 64))) 64) (by kernel_rfl)] [i_2, 64, w64 (11 * (remp i_2 64)), 64] (by kernel_rfl) ?_
 refine SC.seq ?_
 refine SC.reg ?_
 refine SL.sim tk 2 [(2, vi .u32 half_3), (13, vi .u64 k_1), (14, vi .i64 (remp (w64 (11 * (remp i_2 64))) 64))] [] [] [] (by kernel_rfl) ?_
 obtain ⟨x_4, e_x_4, hp⟩ := bind_inv hp
 refine SL.eff (e_c Tryz.call209 (ok_math_bits_RotateLeft64 F k_1 (remp (w64 (11 * (remp i_2 64))) 64) _ e_x_4) [] [vi .u64 k_1, vi .i64 (remp (w64 (11 * (remp i_2 64))) 64)] (vi .u64 x_4) (by kernel_rfl) (.inl rfl)) rfl (by kernel_rfl) ?_
 obtain ⟨x_5, e_x_5, hp⟩ := bind_inv hp
 refine SL.eff (e_c Tryz.call208 (ok_serial_Low F x_4 32 _ e_x_5) [] [vi .u64 x_4, vi .i64 32] (vi .u64 x_5) (by kernel_rfl) (.inl rfl)) rfl (by kernel_rfl) ?_
 refine SL.norm (itsN := []) (by kernel_rfl) ?_
 refine SL.sim tk 2 [(2, vi .u32 half_3), (8, vi .u32 (wu32 x_5))] [] [] [] (by kernel_rfl) ?_
 refine SL.nilThen ?_
 refine SC.seq ?_
 refine SC.reg ?_
 refine SL.sim tk 3 [(8, vi .u32 (wu32 x_5)), (20, vi .u32 (wu32 (half_3 + (wu32 x_5))))] [] [] [] (by kernel_rfl) ?_
 obtain ⟨x_6, e_x_6, hp⟩ := bind_inv hp
 refine SL.eff (e_c Tryz.call210 (ok_math_bits_RotateLeft32 F (wu32 (half_3 + (wu32 x_5))) 7 _ e_x_6) [] [vi .u32 (wu32 (half_3 + (wu32 x_5))), vi .i64 7] (vi .u32 x_6) (by kernel_rfl) (.inl rfl)) rfl (by kernel_rfl) ?_
 refine SL.sim tk 2 [(22, vi .u32 (wu32 (x_6 * 2654435761))), (23, vi .u32 (wu32 x_5))] [] [] [] (by kernel_rfl) ?_
 obtain ⟨x_7, e_x_7, hp⟩ := bind_inv hp
 refine SL.eff (e_c Tryz.call210 (ok_math_bits_RotateLeft32 F (wu32 x_5) 16 _ e_x_7) [] [vi .u32 (wu32 x_5), vi .i64 16] (vi .u32 x_7) (by kernel_rfl) (.inl rfl)) rfl (by kernel_rfl) ?_
 refine SL.norm (itsN := []) (by kernel_rfl) ?_
 refine SL.sim tk 2 [(6, vi .u32 (ixor .u32 (wu32 (x_6 * 2654435761)) x_7))] [] [] [] (by kernel_rfl) ?_
 refine SL.nilThen ?_
 obtain rfl := some_inv' hp
 exact SC.re (js := []) tk (by kernel_rfl)

theorem ok_block_halves_join (F : Nat) (h_1 : (Int × Int)) (r : Int) (hp : block_halves_join F h_1 = some r) : Spec Tryz.prog 143 [.g [ci .u32 h_1.1, ci .u32 h_1.2]] [] (vi .u64 r) [] := by
 refine Spec.enter Tryz.func143 rfl Tryz.ntmps143 rfl rfl fun fx => ?_
 refine SC.seq ?_
 refine SC.reg ?_
 refine SL.eff (e_box (E := 327) [ci .u32 h_1.1, ci .u32 h_1.2] (by kernel_rfl)) rfl (by kernel_rfl) ?_
 refine SL.sim tk 1 [(1, vp 0 0)] [] [] [] (by kernel_rfl) ?_
 refine SL.nilThen ?_
 refine SC.r tk [(2, vi .u64 (ior .u64 (shlp .u64 (wu64 h_1.1) 32) (wu64 h_1.2)))] [] [.bin .shl .u64 (wu64 h_1.1) 32 (shlp .u64 (wu64 h_1.1) 32) (by kernel_rfl)] [wu64 h_1.1, 32] (by kernel_rfl) ?_
 obtain rfl := some_inv' hp
 exact SC.re (js := []) tk (by kernel_rfl)

theorem ok_block_Mix (F : Nat) (k_1 : Int) (x_2 : Int) (r : Int) (hp : block_Mix F k_1 x_2 = some r) : Spec Tryz.prog 78 [vi .u64 k_1, vi .u64 x_2] [] (vi .u64 r) [] := by
 refine Spec.enter Tryz.func78 rfl Tryz.ntmps78 rfl rfl fun fx => ?_
 refine SC.r tk [(0, vi .u64 k_1), (1, vi .u64 x_2)] [] [] [] (by kernel_rfl) ?_
 refine SC.seq ?_
 refine SC.reg ?_
 refine SL.sim tk 1 [(0, vi .u64 k_1), (7, vi .u64 x_2)] [] [] [] (by kernel_rfl) ?_
 obtain ⟨x_3, e_x_3, hp⟩ := bind_inv hp
 refine SL.eff (e_c Tryz.call141 (ok_block_split F x_2 _ e_x_3) [] [vi .u64 x_2] (.g [ci .u32 x_3.1, ci .u32 x_3.2]) (by kernel_rfl) (.inl rfl)) rfl (by kernel_rfl) ?_
 refine SL.eff (e_alloc (E := 327) tk [ci .u32 0, ci .u32 0] (by kernel_rfl)) rfl (by kernel_rfl) ?_
 refine SL.sim tk 1 [(0, vi .u64 k_1), (5, vp 0 0)] [(0, 327, [ci .u32 x_3.1, ci .u32 x_3.2])] [] [] (by kernel_rfl) ?_
 refine SL.nilThen ?_
 refine SC.cut (fun a w => ∃ (x_4 : Int) (x_5 : Int), block_Mix_j1 F x_4 x_5 = some r ∧ A 26 0 fx [(5, vp 0 0)] [.blk 327 [ci .u32 x_4, ci .u32 x_5]] a w) ?_ ?_
 · refine SC.r tk [(0, vi .u64 k_1), (5, vp 0 0), (9, vi .i64 0)] [] [] [] (by kernel_rfl) ?_
   refine SC.block ?_
   obtain ⟨o1, hi1, ho1⟩ := bind_inv hp
   clear hp
   refine SC.loop (fun n a w => ∃ (x_7 : Int) (x_8 : Int) (x_9 : Int), iter (fun s => block_Mix_l1 F k_1 s.1 s.2.1 s.2.2) n (x_7, x_8, x_9) = some o1 ∧ A 26 0 fx [(0, vi .u64 k_1), (5, vp 0 0), (9, vi .i64 x_9)] [.blk 327 [ci .u32 x_7, ci .u32 x_8]] a w) F (fun a w h => ⟨x_3.1, x_3.2, 0, hi1, h.at (js := [.g 0]) (by kernel_rfl)⟩) ?_
   rintro n1 a w ⟨x_7, x_8, x_9, hi1, h⟩
   obtain ⟨n1, q1, rfl, hp, hs1⟩ := iter_inv hi1
   replace hp : block_Mix_l1 F k_1 x_7 x_8 x_9 = some q1 := hp
   clear hi1
   refine h.go ?_
   refine SC.r tk [(0, vi .u64 k_1), (5, vp 0 0), (9, vi .i64 x_9), (10, vb (decide (x_9 < 8)))] [] [] [] (by kernel_rfl) ?_
   refine SC.seq ?_
   refine SC.if' rfl hp (fun hp => ?_) (fun hp => ?_)
   · refine SC.skipThen ?_
     refine SC.seq ?_
     refine SC.block ?_
     refine SC.r tk [(0, vi .u64 k_1), (5, vp 0 0), (6, vi .i64 x_9), (9, vi .i64 x_9)] [] [] [] (by kernel_rfl) ?_
     refine SC.drw MO ([false], [true], [11]) (by kernel_rfl) fun kap_10 D_11 => ?_
     refine SD.takes tk D_11 [] kn0 [0, 1, 2, 3, 4, 5, 6, 7] [] [] [I, I, I, I, I, I, I, I, O, O, O, O] [(0, vi .u64 k_1), (5, vp 0 0), (9, vi .i64 x_9), (13, vi .u32 x_8), (15, vi .u32 x_7), (16, vi .u64 k_1), (17, vi .i64 x_9), (19, vi .u32 x_8)] rfl (by kernel_rfl) (by kernel_rfl) (by kernel_rfl) ?_
     obtain ⟨x_12, e_x_12, hp⟩ := bind_inv hp
     refine SD.all1 (i := 8) (by kernel_rfl) ?_
     refine SW.eff D_11 (i := 8) (bs' := [I, I, I, I, I, I, I, I, I, O, O, O]) rfl (.inl rfl) rfl (e_c Tryz.call142 (ok_block_Round F k_1 x_9 x_8 _ e_x_12) [] [vi .u64 k_1, vi .i64 x_9, vi .u32 x_8] (vi .u32 x_12) (by kernel_rfl) (.inl rfl)) (by kernel_rfl) rfl (by kernel_rfl) ?_
     refine SD.takes tk D_11 [] kn0 [9, 10] [] [] [I, I, I, I, I, I, I, I, I, I, I, O] [(0, vi .u64 k_1), (5, vp 0 0), (9, vi .i64 x_9), (22, .g [ci .u32 x_8, ci .u32 (ixor .u32 x_7 x_12)])] rfl (by kernel_rfl) (by kernel_rfl) (by kernel_rfl) ?_
     refine SD.all1 (i := 11) (by kernel_rfl) ?_
     refine SW.store D_11 tk (i := 11) (q := 0) (T := 327) (cs := [ci .u32 x_8, ci .u32 (ixor .u32 x_7 x_12)]) (bs' := [I, I, I, I, I, I, I, I, I, I, I, I]) rfl (by kernel_rfl) (by kernel_rfl) rfl (by kernel_rfl) ?_
     refine SD.norm (itsN := [.blk 327 [ci .u32 x_8, ci .u32 (ixor .u32 x_7 x_12)]]) (by kernel_rfl) ?_
     refine SD.doneThen (by kernel_rfl) ?_
     refine SC.reg ?_
     refine SL.sim tk 2 [(0, vi .u64 k_1), (5, vp 0 0), (9, vi .i64 (w64 (x_9 + 1)))] [] [] [] (by kernel_rfl) ?_
     refine SL.nilJ fun a w h => ?_
     exact ⟨n1, Nat.lt_succ_self _, x_8, ixor .u32 x_7 x_12, w64 (x_9 + 1), next_inv hp hs1, h.at (js := [.g 0]) (by kernel_rfl)⟩
   · refine SC.exitJ rfl fun a w h => ?_
     have ho := done_inv hp hs1
     replace hp := ho1
     try rw [ho] at hp
     exact ⟨x_7, x_8, hp, h.at (js := [.g 0]) (by kernel_rfl)⟩
 · rintro a w ⟨x_4, x_5, hp, h⟩
   refine h.go ?_
   refine SC.seq ?_
   refine SC.reg ?_
   refine SL.sim tk 1 [(24, .g [ci .u32 x_4, ci .u32 x_5])] [] [] [] (by kernel_rfl) ?_
   obtain ⟨x_6, e_x_6, hp⟩ := bind_inv hp
   refine SL.eff (e_c Tryz.call143 (ok_block_halves_join F (x_4, x_5) _ e_x_6) [] [.g [ci .u32 x_4, ci .u32 x_5]] (vi .u64 x_6) (by kernel_rfl) (.inl rfl)) rfl (by kernel_rfl) ?_
   refine SL.sim tk 1 [(4, vi .u64 x_6)] [] [] [] (by kernel_rfl) ?_
   refine SL.nilThen ?_
   obtain rfl := some_inv' hp
   exact SC.re (js := []) tk (by kernel_rfl)

theorem ok_mac_groups (p0 : (List Int)) : Spec Tryz.prog 79 [vs 0] [.rd 1 R8 p0] (.f 144 [.p 1 0]) [.rd 1 R8 p0, .blk 73 [.s 0]] := by
 refine Spec.enter Tryz.func79 rfl Tryz.ntmps79 rfl rfl fun fx => ?_
 refine SC.seq ?_
 refine SC.reg ?_
 refine SL.eff (e_box (E := 73) [.s 0] (by kernel_rfl)) rfl (by kernel_rfl) ?_
 refine SL.sim tk 1 [(1, vp 1 0)] [] [] [] (by kernel_rfl) ?_
 refine SL.nilThen ?_
 refine SC.seq ?_
 refine SC.reg ?_
 refine SL.sim tk 2 [(2, .f 144 [.p 1 0])] [] [] [] (by kernel_rfl) ?_
 refine SL.nilThen ?_
 exact SC.re (js := [.g 0, .g 1]) tk (by kernel_rfl)

theorem ok_mac_Tag (F : Nat) (k_1 : Int) (b_2 : (List Int)) (r : Int) (hp : mac_Tag F k_1 b_2 = some r) : Spec Tryz.prog 43 [vi .u64 k_1, vs 0] [.rd 1 R8 b_2] (vi .u64 r) [.gone] := by
 refine Spec.enterM Tryz.func43 rfl Tryz.ntmps43 rfl rfl fun fx => ?_
 refine SC.seq ?_
 refine SC.reg ?_
 refine SL.eff (e_box (E := 23) [ci .u64 k_1] (by kernel_rfl)) rfl (by kernel_rfl) ?_
 refine SL.sim tk 1 [(1, vs 0), (2, vp 1 0)] [] [] [] (by kernel_rfl) ?_
 refine SL.nilThen ?_
 refine SC.seq ?_
 refine SC.reg ?_
 refine SL.sim tk 4 [(1, vs 0), (2, vp 1 0), (7, vi .u64 k_1), (10, vi .u64 (wu64 (len b_2)))] [] [] [] (by kernel_rfl) ?_
 obtain ⟨x_3, e_x_3, hp⟩ := bind_inv hp
 refine SL.eff (e_c Tryz.call78 (ok_block_Mix F k_1 (wu64 (len b_2)) _ e_x_3) [] [vi .u64 k_1, vi .u64 (wu64 (len b_2))] (vi .u64 x_3) (by kernel_rfl) (.inl rfl)) rfl (by kernel_rfl) ?_
 refine SL.eff (e_alloc (E := 22) tk [ci .u64 0] (by kernel_rfl)) rfl (by kernel_rfl) ?_
 refine SL.norm (itsN := [.rd 1 R8 b_2, .blk 23 [ci .u64 k_1], .blk 22 [ci .u64 0]]) (by kernel_rfl) ?_
 refine SL.sim tk 1 [(1, vs 0), (2, vp 1 0), (5, vp 2 0)] [(2, 22, [ci .u64 x_3])] [] [] (by kernel_rfl) ?_
 refine SL.nilThen ?_
 refine SC.seq ?_
 refine SC.seq ?_
 refine SC.reg ?_
 refine SL.sim tk 1 [(2, vp 1 0), (5, vp 2 0), (12, vs 0)] [] [] [] (by kernel_rfl) ?_
 refine SL.eff (e_c Tryz.call79 (ok_mac_groups b_2) [.g 0] [vs 0] (.f 144 [.p 3 0]) (by kernel_rfl) (.inl rfl)) rfl (by kernel_rfl) ?_
 refine SL.nilThen ?_
 obtain ⟨o_4, e_o_4, hp⟩ := bind_inv hp
 refine SC.mk fun a w h => (show A 21 1 fx [(2, vp 1 0), (5, vp 2 0), (13, .f 144 [.p 3 0])] [.gone, .blk 23 [ci .u64 k_1], .blk 22 [ci .u64 x_3], .blk 73 [.s 4], .rd 1 R8 b_2] a w from h.at (js := [.g 0, .g 1, .g 2, .g 3, .g 0]) (by kernel_rfl)).go ?_
 refine SC.range (pl := [14]) (itsE := [.gone, .gone, .blk 22 [ci .u64 o_4], .gone, .gone]) (its2 := [.gone, .gone, .blk 22 [ci .u64 o_4], .gone, .gone]) (envR := [(5, vp 2 0)]) (env2 := [(4, vi .u64 o_4)]) rfl Tryz.call144 Tryz.func144 rfl Tryz.ntmps144 rfl rfl rfl rfl rfl rfl (fun fx l rec hu hx hw hst hpe hpl has hbo hnp hS => ?_) (fun fx => ?_) rfl (fun a w h => ?_)
 · replace hp := e_o_4
   refine SC.r tk [(0, yv l), (1, vp 3 0), (3, vi .i64 0)] [] [] [] (by kernel_rfl) ?_
   refine SC.block ?_
   obtain ⟨o1, hi1, ho1⟩ := bind_inv hp
   clear hp
   refine SC.loop (fun n a w => ∃ (x_6 : Int) (x_7 : Int), iter (fun s => mac_Tag_it_l1 F k_1 b_2 s.1 s.2) n (x_6, x_7) = some o1 ∧ A 39 5 fx [(0, yv l), (1, vp 3 0), (3, vi .i64 x_7)] [.gone, .blk 23 [ci .u64 k_1], .blk 22 [ci .u64 x_6], .blk 73 [.s 4], .rd 1 R8 b_2] a w) F (fun a w h => ⟨x_3, 0, hi1, h.at (js := [.g 0, .g 1, .g 2, .g 3, .g 4]) (by kernel_rfl)⟩) ?_
   rintro n1 a w ⟨x_6, x_7, hi1, h⟩
   obtain ⟨n1, q1, rfl, hp, hs1⟩ := iter_inv hi1
   replace hp : mac_Tag_it_l1 F k_1 b_2 x_6 x_7 = some q1 := hp
   clear hi1
   refine h.go ?_
   refine SC.seq ?_
   refine SC.r tk [(0, yv l), (1, vp 3 0), (3, vi .i64 x_7), (10, vb (decide (x_7 < (len b_2))))] [] [] [] (by kernel_rfl) ?_
   refine SC.if' rfl hp (fun hp => ?_) (fun hp => ?_)
   · refine SC.skipThen ?_
     refine SC.cut (fun a w => ∃ (x_8 : Int), mac_Tag_it_j1 F x_7 x_8 = some q1 ∧ A 39 5 fx [(0, yv l), (1, vp 3 0), (3, vi .i64 x_7)] [.gone, .blk 23 [ci .u64 k_1], .blk 22 [ci .u64 x_8], .blk 73 [.s 4], .rd 1 R8 b_2] a w) ?_ ?_
     · refine SC.block ?_
       refine SC.r tk [(0, yv l), (1, vp 3 0), (3, vi .i64 x_7), (4, vi .u64 0)] [] [] [] (by kernel_rfl) ?_
       refine SC.cut (fun a w => ∃ (x_9 : Int), mac_Tag_it_j2 F k_1 x_6 x_7 x_9 = some q1 ∧ A 39 5 fx [(0, yv l), (1, vp 3 0), (3, vi .i64 x_7), (4, vi .u64 x_9)] [.gone, .blk 23 [ci .u64 k_1], .blk 22 [ci .u64 x_6], .blk 73 [.s 4], .rd 1 R8 b_2] a w) ?_ ?_
       · refine SC.seq ?_
         refine SC.reg ?_
         refine SL.sim tk 7 [(0, yv l), (1, vp 3 0), (3, vi .i64 x_7), (4, vi .u64 0), (13, vs 4), (14, vi .i64 x_7), (19, vi .i64 (imin (w64 (x_7 + 8)) (len b_2)))] [] [] [] (by kernel_rfl) ?_
         obtain ⟨l_12, e_l_12, hp⟩ := bind_inv hp
         refine SL.eff (e_sub (sz := 1) (E := 5) (R := R8) (by_ := 1) (l := b_2) tk rfl (.inl ⟨4, rfl, (by kernel_rfl)⟩) rfl rfl e_l_12 (by kernel_rfl)) rfl (by kernel_rfl) ?_
         refine SL.sim tk 2 [(0, yv l), (1, vp 3 0), (3, vi .i64 x_7), (4, vi .u64 0), (20, vs 5), (21, vi .i64 (len l_12)), (22, vi .i64 0)] [] [] [] (by kernel_rfl) ?_
         refine SL.nilThen ?_
         refine SC.block ?_
         obtain ⟨o2, hi2, ho2⟩ := bind_inv hp
         clear hp
         refine SC.loop (fun n a w => ∃ (x_13 : Int) (x_14 : Int), iter (fun s => mac_Tag_it_l2 F l_12 s.1 s.2) n (x_13, x_14) = some o2 ∧ A 39 5 fx [(0, yv l), (1, vp 3 0), (3, vi .i64 x_7), (4, vi .u64 x_13), (20, vs 5), (21, vi .i64 (len l_12)), (22, vi .i64 x_14)] [.gone, .blk 23 [ci .u64 k_1], .blk 22 [ci .u64 x_6], .blk 73 [.s 4], .rd 1 R8 b_2, .rd 1 R8 l_12] a w) F (fun a w h => ⟨0, 0, hi2, h.at (js := [.g 0, .g 1, .g 2, .g 3, .g 4, .g 5]) (by kernel_rfl)⟩) ?_
         rintro n2 a w ⟨x_13, x_14, hi2, h⟩
         obtain ⟨n2, q2, rfl, hp, hs2⟩ := iter_inv hi2
         replace hp : mac_Tag_it_l2 F l_12 x_13 x_14 = some q2 := hp
         clear hi2
         refine h.go ?_
         refine SC.r tk [(0, yv l), (1, vp 3 0), (3, vi .i64 x_7), (4, vi .u64 x_13), (20, vs 5), (21, vi .i64 (len l_12)), (22, vi .i64 x_14), (23, vb (decide (x_14 < (len l_12))))] [] [] [] (by kernel_rfl) ?_
         refine SC.seq ?_
         refine SC.if' rfl hp (fun hp => ?_) (fun hp => ?_)
         · refine SC.skipThen ?_
           refine SC.seq ?_
           refine SC.block ?_
           obtain ⟨x_15, e_x_15, hp⟩ := bind_inv hp
           refine SC.pre (pre_ix (i := 5) (iv := x_14) (sz := 1) (R := R8) (l := l_12) (by kernel_rfl) rfl e_x_15) ?_
           refine SC.r tk [(0, yv l), (1, vp 3 0), (3, vi .i64 x_7), (4, vi .u64 x_13), (5, vi .i64 x_14), (6, vi .u8 x_15), (20, vs 5), (21, vi .i64 (len l_12)), (22, vi .i64 x_14)] [] [.el 6] [x_14] (by kernel_rfl) ?_
           refine SC.reg ?_
           obtain ⟨x_16, e_x_16, hp⟩ := bind_inv hp
           refine SL.sim tk 8 [(0, yv l), (1, vp 3 0), (3, vi .i64 x_7), (4, vi .u64 (ior .u64 x_13 x_16)), (20, vs 5), (21, vi .i64 (len l_12)), (22, vi .i64 x_14)] [] [.bin .shl .u64 (wu64 x_15) (w64 (8 * x_14)) x_16 e_x_16] [wu64 x_15, w64 (8 * x_14)] (by kernel_rfl) ?_
           refine SL.nilThen ?_
           refine SC.reg ?_
           refine SL.sim tk 2 [(0, yv l), (1, vp 3 0), (3, vi .i64 x_7), (4, vi .u64 (ior .u64 x_13 x_16)), (20, vs 5), (21, vi .i64 (len l_12)), (22, vi .i64 (w64 (x_14 + 1)))] [] [] [] (by kernel_rfl) ?_
           refine SL.nilJ fun a w h => ?_
           exact ⟨n2, Nat.lt_succ_self _, ior .u64 x_13 x_16, w64 (x_14 + 1), next_inv hp hs2, h.at (js := [.g 0, .g 1, .g 2, .g 3, .g 4, .g 5]) (by kernel_rfl)⟩
         · refine SC.exitJ rfl fun a w h => ?_
           have ho := done_inv hp hs2
           replace hp := ho2
           try rw [ho] at hp
           exact ⟨x_13, hp, h.at (js := [.g 0, .g 1, .g 2, .g 3, .g 4]) (by kernel_rfl)⟩
       · rintro a w ⟨x_9, hp, h⟩
         refine h.go ?_
         obtain ⟨o_10, e_o_10, hp⟩ := bind_inv hp
         refine SC.cut (fun a w => A 39 5 fx [(0, yv l), (1, vp 3 0), (3, vi .i64 x_7), (38, vb false)] [.gone, .blk 23 [ci .u64 k_1], .blk 22 [ci .u64 o_10], .blk 73 [.s 4], .rd 1 R8 b_2] a w) ?_ (fun a w h => h.go ?_)
         · refine SC.regI ?_
           refine SLI.cutAt hnp 2 (fun a w => A 39 5 fx [(0, yv l), (1, vp 3 0), (3, vi .i64 x_7), (35, yv l), (36, vi .u64 x_9)] [.gone, .blk 23 [ci .u64 k_1], .blk 22 [ci .u64 x_6], .blk 73 [.s 4], .rd 1 R8 b_2] a w) ?_ rfl (fun a w h => h.goLI ?_)
           · refine SL.sim tk 2 [(0, yv l), (1, vp 3 0), (3, vi .i64 x_7), (35, yv l), (36, vi .u64 x_9)] [] [] [] (by kernel_rfl) ?_
             refine SL.nilJ fun a w h => ?_
             exact h.at (js := [.g 0, .g 1, .g 2, .g 3, .g 4]) (by kernel_rfl)
           · refine SLI.yield (X := Unit) (Pr := fun _ => True) (itsX := fun _ => [.gone, .blk 23 [ci .u64 k_1], .blk 22 [ci .u64 o_10], .blk 73 [.s 4], .rd 1 R8 b_2]) (pl := [14]) (vs := [vi .u64 x_9]) (envA := [(0, yv l), (1, vp 3 0), (3, vi .i64 x_7)]) (envS := [(2, vp 1 0), (5, vp 2 0)]) (envB := [(2, vp 1 0), (5, vp 2 0), (6, vi .u64 x_9)]) hu hx hw hst hpe hpl (by simpa using hS.sub (lkEs_sub (e := [(2, vp 1 0), (5, vp 2 0)]) rfl)) rfl rfl rfl (by kernel_rfl) rfl rfl ?_ ?_ (fun _ => rfl) (fun _ => rfl) (fun _ _ => SLI.of hnp ?_ rfl)
             · rw [has]
               refine SCI.reg hnp ?_ rfl
               refine SL.sim tk 1 [(2, vp 1 0), (5, vp 2 0), (6, vi .u64 x_9)] [] [] [] (by kernel_rfl) ?_
               refine SL.nilJ fun a w h => ?_
               exact h.at (js := [.g 0, .g 1, .g 2, .g 3, .g 4]) (by kernel_rfl)
             · have hnp : ∀ v w, ¬ (fx.put l (.loop { rec with state := .busy }) hu).px v w := hnp
               revert hnp
               generalize (fx.put l (.loop { rec with state := .busy }) hu) = fx
               intro hnp
               rw [hbo]
               have hp := e_o_10
               refine SCI.block ?_
               obtain ⟨x_11, e_x_11, hp⟩ := bind_inv hp
               refine SCI.reg hnp ?_ rfl
               refine SL.sim tk 4 [(5, vp 2 0), (15, vi .u64 k_1), (18, vi .u64 (ixor .u64 x_6 x_9))] [] [] [] (by kernel_rfl) ?_
               refine SL.eff (e_c Tryz.call78 (ok_block_Mix F k_1 (ixor .u64 x_6 x_9) _ e_x_11) [] [vi .u64 k_1, vi .u64 (ixor .u64 x_6 x_9)] (vi .u64 x_11) (by kernel_rfl) (.inl rfl)) rfl (by kernel_rfl) ?_
               refine SL.sim tk 1 [] [(2, 22, [ci .u64 x_11])] [] [] (by kernel_rfl) ?_
               refine SL.nilJ fun a w h => ?_
               obtain rfl := some_inv' hp
               obtain ⟨κ, _, S⟩ := (show A 21 5 fx [] [.gone, .blk 23 [ci .u64 k_1], .blk 22 [ci .u64 x_11], .blk 73 [.s 4], .rd 1 R8 b_2] a w from h.at (js := [.g 0, .g 1, .g 2, .g 3, .g 4]) (by kernel_rfl))
               exact ⟨(), trivial, κ, S⟩
             · refine SL.sim tk 1 [(0, yv l), (1, vp 3 0), (3, vi .i64 x_7), (38, vb false)] [] [] [] (by kernel_rfl) ?_
               refine SL.nilJ fun a w h => ?_
               exact h.at (js := [.g 0, .g 1, .g 2, .g 3, .g 4]) (by kernel_rfl)
         · refine SC.iff rfl ?_
           refine SC.skipJ fun a w h => ?_
           exact ⟨o_10, hp, h.at (js := [.g 0, .g 1, .g 2, .g 3, .g 4]) (by kernel_rfl)⟩
     · rintro a w ⟨x_8, hp, h⟩
       refine h.go ?_
       refine SC.reg ?_
       refine SL.sim tk 3 [(0, yv l), (1, vp 3 0), (3, vi .i64 (w64 (x_7 + 8)))] [] [] [] (by kernel_rfl) ?_
       refine SL.nilJ fun a w h => ?_
       exact ⟨n1, Nat.lt_succ_self _, x_8, w64 (x_7 + 8), next_inv hp hs1, h.at (js := [.g 0, .g 1, .g 2, .g 3, .g 4]) (by kernel_rfl)⟩
   · refine SC.exitJ rfl fun a w h => ?_
     have ho := done_inv hp hs1
     replace hp := ho1
     try rw [ho] at hp
     obtain rfl := some_inv' hp
     exact A.re (js := [.g 0, .g 1, .g 2, .g 3, .g 4]) tk h (by kernel_rfl)
 · refine SL.sim tk 2 [(4, vi .u64 o_4)] [] [] [] (by kernel_rfl) ?_
   refine SL.nilJ fun a w h => ?_
   exact h.at (js := [.g 0, .g 1, .g 2, .g 3, .g 4]) (by kernel_rfl)
 · obtain rfl := some_inv' hp
   exact A.re (js := [.g 0]) tk h (by kernel_rfl)

theorem ok_mac_Derive (F : Nat) (k_1 : Int) (label_2 : List Int) (parts_3 : (List Int)) (r : Int) (hp : mac_Derive F k_1 label_2 parts_3 = some r) : Spec Tryz.prog 24 [vi .u64 k_1, vt 0, vs 1] [.str label_2, .rd 1 (RInt .u64) parts_3] (vi .u64 r) [.gone, .gone] := by
 refine Spec.enter Tryz.func24 rfl Tryz.ntmps24 rfl rfl fun fx => ?_
 refine SC.r tk [(0, vi .u64 k_1), (1, vt 0), (2, vs 1)] [] [] [] (by kernel_rfl) ?_
 refine SC.seq ?_
 refine SC.reg ?_
 refine SL.sim tk 2 [(2, vs 1), (7, vi .u64 k_1), (8, vt 0)] [] [] [] (by kernel_rfl) ?_
 obtain ⟨l_4, e_l_4, hp⟩ := bind_inv hp
 refine SL.eff (e_s2b (E := 5) tk rfl (.t rfl) e_l_4 (by kernel_rfl)) rfl (by kernel_rfl) ?_
 refine SL.eff (e_lit (sz := 1) (E := 5) (R := R8) (by_ := 1) tk [[ci .u8 0]] [0] (by kernel_rfl) ⟨Clo.int, trivial⟩ rfl (by kernel_rfl) (by kernel_rfl)) rfl (by kernel_rfl) ?_
 refine SL.sim tk 1 [(7, vi .u64 k_1), (9, vs 2), (10, vs 3), (11, vs 1)] [] [] [] (by kernel_rfl) ?_
 obtain ⟨x_5, e_x_5, hp⟩ := bind_inv hp
 refine SL.eff (e_c Tryz.call45 (ok_mac_bytes F parts_3 _ e_x_5) [.g 1] [vs 1] (vs 4) (by kernel_rfl) (.inl rfl)) rfl (by kernel_rfl) ?_
 refine SL.norm (itsN := [.str label_2, .rd 1 (RInt .u64) parts_3, .own 1 5 R8 l_4, .own 1 5 R8 [0], .rd 1 R8 x_5]) (by kernel_rfl) ?_
 refine SL.pre (pre_frz (i := 3) (sz := 1) (E := 5) (R := R8) (l := [0]) (by kernel_rfl)) ?_
 refine SL.pre (pre_frz (i := 2) (sz := 1) (E := 5) (R := R8) (l := l_4) (by kernel_rfl)) ?_
 refine SL.eff (e_lit (sz := 1) (E := 73) (R := (RSl 1 R8)) (by_ := 24) tk [[.s 2], [.s 3], [.s 4]] [l_4, [0], x_5] (by kernel_rfl) ⟨(Clo.sl (by kernel_rfl)), ⟨(Clo.sl (by kernel_rfl)), ⟨(Clo.sl (by kernel_rfl)), trivial⟩⟩⟩ rfl (by kernel_rfl) (by kernel_rfl)) rfl (by kernel_rfl) ?_
 obtain ⟨x_6, e_x_6, hp⟩ := bind_inv hp
 refine SL.pre (pre_frz (i := 5) (sz := 1) (E := 73) (R := (RSl 1 R8)) (l := [l_4, [0], x_5]) (by kernel_rfl)) ?_
 refine SL.eff (e_c Tryz.call44 (ok_octets_Join F [l_4, [0], x_5] _ e_x_6) [.g 5] [vs 5] (vs 6) (by kernel_rfl) (.inl rfl)) rfl (by kernel_rfl) ?_
 obtain ⟨x_7, e_x_7, hp⟩ := bind_inv hp
 refine SL.eff (e_c Tryz.call43 (ok_mac_Tag F k_1 x_6 _ e_x_7) [.g 6] [vi .u64 k_1, vs 6] (vi .u64 x_7) (by kernel_rfl) (.inl rfl)) rfl (by kernel_rfl) ?_
 refine SL.norm (itsN := [.str label_2, .rd 1 (RInt .u64) parts_3, .rd 1 R8 l_4, .rd 1 R8 [0], .rd 1 R8 x_5, .rd 1 (RSl 1 R8) [l_4, [0], x_5], .rd 1 R8 x_6]) (by kernel_rfl) ?_
 refine SL.sim tk 1 [(6, vi .u64 x_7)] [] [] [] (by kernel_rfl) ?_
 refine SL.nilThen ?_
 obtain rfl := some_inv' hp
 exact SC.re (js := [.g 0, .g 1]) tk (by kernel_rfl)

theorem ok_privacy_hash (F : Nat) (irk_1 : Int) (prand_2 : Int) (r : Int) (hp : privacy_hash F irk_1 prand_2 = some r) : Spec Tryz.prog 15 [vi .u64 irk_1, vi .u64 prand_2] [] (vi .u64 r) [] := by
 refine Spec.enter Tryz.func15 rfl Tryz.ntmps15 rfl rfl fun fx => ?_
 refine SC.r tk [(0, vi .u64 irk_1), (1, vi .u64 prand_2)] [] [] [] (by kernel_rfl) ?_
 refine SC.seq ?_
 refine SC.reg ?_
 refine SL.sim tk 2 [(5, vi .u64 irk_1), (6, vi .u64 prand_2)] [] [] [] (by kernel_rfl) ?_
 refine SL.eff (e_lit (sz := 1) (E := 22) (R := (RInt .u64)) (by_ := 8) tk [[ci .u64 prand_2]] [prand_2] (by kernel_rfl) ⟨Clo.int, trivial⟩ rfl (by kernel_rfl) (by kernel_rfl)) rfl (by kernel_rfl) ?_
 obtain ⟨x_3, e_x_3, hp⟩ := bind_inv hp
 refine SL.eff (e_c Tryz.call24 (ok_mac_Derive F irk_1 [114, 112, 97] [prand_2] _ e_x_3) [.k ⟨#[114, 112, 97]⟩, .l 0] [vi .u64 irk_1, .c (.v (.string ⟨#[114, 112, 97]⟩)), vs 0] (vi .u64 x_3) (by kernel_rfl) (.inr ⟨trivial, trivial, trivial⟩)) rfl (by kernel_rfl) ?_
 refine SL.sim tk 2 [(4, vi .u64 (iand .u64 x_3 16777215))] [] [] [] (by kernel_rfl) ?_
 refine SL.nilThen ?_
 obtain rfl := some_inv' hp
 exact SC.re (js := []) tk (by kernel_rfl)

theorem ok_address_mask (F : Nat) (bits_1 : Int) (r : Int) (hp : address_mask F bits_1 = some r) : Spec Tryz.prog 27 [vi .i64 bits_1] [] (vi .u64 r) [] := by
 refine Spec.enter Tryz.func27 rfl Tryz.ntmps27 rfl rfl fun fx => ?_
 refine SC.r tk [(0, vi .i64 bits_1)] [] [] [] (by kernel_rfl) ?_
 obtain ⟨x_2, e_x_2, hp⟩ := bind_inv hp
 refine SC.r tk [(2, vi .u64 (wu64 (x_2 - 1)))] [] [.bin .shl .u64 1 bits_1 x_2 e_x_2] [1, bits_1] (by kernel_rfl) ?_
 obtain rfl := some_inv' hp
 exact SC.re (js := []) tk (by kernel_rfl)

theorem ok_address_fit (F : Nat) (x_1 : Int) (bits_2 : Int) (r : Int) (hp : address_fit F x_1 bits_2 = some r) : Spec Tryz.prog 81 [vi .u64 x_1, vi .i64 bits_2] [] (vi .u64 r) [] := by
 refine Spec.enter Tryz.func81 rfl Tryz.ntmps81 rfl rfl fun fx => ?_
 refine SC.r tk [(0, vi .u64 x_1), (1, vi .i64 bits_2)] [] [] [] (by kernel_rfl) ?_
 refine SC.seq ?_
 refine SC.reg ?_
 refine SL.sim tk 2 [(1, vi .i64 bits_2), (5, vi .u64 x_1), (6, vi .i64 bits_2)] [] [] [] (by kernel_rfl) ?_
 obtain ⟨x_3, e_x_3, hp⟩ := bind_inv hp
 refine SL.eff (e_c Tryz.call27 (ok_address_mask F bits_2 _ e_x_3) [] [vi .i64 bits_2] (vi .u64 x_3) (by kernel_rfl) (.inl rfl)) rfl (by kernel_rfl) ?_
 refine SL.sim tk 3 [(9, vi .u64 (imax (iand .u64 x_1 x_3) 1)), (10, vi .i64 bits_2)] [] [] [] (by kernel_rfl) ?_
 obtain ⟨x_4, e_x_4, hp⟩ := bind_inv hp
 refine SL.eff (e_c Tryz.call27 (ok_address_mask F bits_2 _ e_x_4) [] [vi .i64 bits_2] (vi .u64 x_4) (by kernel_rfl) (.inl rfl)) rfl (by kernel_rfl) ?_
 refine SL.norm (itsN := []) (by kernel_rfl) ?_
 refine SL.sim tk 3 [(4, vi .u64 (imin (imax (iand .u64 x_1 x_3) 1) (wu64 (x_4 - 1))))] [] [] [] (by kernel_rfl) ?_
 refine SL.nilThen ?_
 obtain rfl := some_inv' hp
 exact SC.re (js := []) tk (by kernel_rfl)

theorem ok_address_Random (F : Nat) (kind_1 : Int) (bits_2 : Int) (r : T_api_Address) (hp : address_Random F kind_1 bits_2 = some r) : Spec Tryz.prog 46 [vi .i64 kind_1, vi .u64 bits_2] [] (.g (C_api_Address r)) [] := by
 refine Spec.enter Tryz.func46 rfl Tryz.ntmps46 rfl rfl fun fx => ?_
 refine SC.seq ?_
 refine SC.reg ?_
 refine SL.eff (e_alloc (E := 26) tk [ci .i64 0, ci .u64 0] (by kernel_rfl)) rfl (by kernel_rfl) ?_
 refine SL.nilThen ?_
 refine SC.seq ?_
 refine SC.r tk [(0, vi .i64 kind_1), (1, vi .u64 bits_2), (4, vp 0 0), (5, vi .i64 kind_1)] [] [] [] (by kernel_rfl) ?_
 refine SC.block ?_
 refine SC.r tk [(0, vi .i64 kind_1), (1, vi .u64 bits_2), (4, vp 0 0), (5, vi .i64 kind_1), (6, vb (kind_1 == 1))] [] [] [] (by kernel_rfl) ?_
 refine SC.if' rfl hp (fun hp => ?_) (fun hp => ?_)
 · refine SC.seq ?_
   refine SC.reg ?_
   refine SL.sim tk 2 [(4, vp 0 0), (8, vi .i64 kind_1), (9, vi .u64 bits_2)] [] [] [] (by kernel_rfl) ?_
   obtain ⟨x_3, e_x_3, hp⟩ := bind_inv hp
   refine SL.eff (e_c Tryz.call27 (ok_address_mask F 48 _ e_x_3) [] [vi .i64 48] (vi .u64 x_3) (by kernel_rfl) (.inl rfl)) rfl (by kernel_rfl) ?_
   refine SL.sim tk 3 [(4, vp 0 0)] [(0, 26, [ci .i64 kind_1, ci .u64 (iand .u64 bits_2 x_3)])] [] [] (by kernel_rfl) ?_
   refine SL.nilThen ?_
   obtain rfl := some_inv' hp
   exact SC.re (js := []) tk (by kernel_rfl)
 · refine SC.cut (fun a w => ∃ (z_4 : Bool), address_Random_j1 F kind_1 bits_2 z_4 = some r ∧ A 43 0 fx [(0, vi .i64 kind_1), (1, vi .u64 bits_2), (4, vp 0 0), (5, vi .i64 kind_1), (13, vb z_4)] [.blk 26 [ci .i64 0, ci .u64 0]] a w) ?_ ?_
   · refine SC.r tk [(0, vi .i64 kind_1), (1, vi .u64 bits_2), (4, vp 0 0), (5, vi .i64 kind_1), (13, vb (kind_1 == 2))] [] [] [] (by kernel_rfl) ?_
     refine SC.if' rfl hp (fun hp => ?_) (fun hp => ?_)
     · refine SC.skipJ fun a w h => ?_
       exact ⟨(kind_1 == 2), hp, h.at (js := [.g 0]) (by kernel_rfl)⟩
     · refine SC.reg ?_
       refine SL.sim tk 2 [(0, vi .i64 kind_1), (1, vi .u64 bits_2), (4, vp 0 0), (5, vi .i64 kind_1), (13, vb (kind_1 == 4))] [] [] [] (by kernel_rfl) ?_
       refine SL.nilJ fun a w h => ?_
       exact ⟨(kind_1 == 4), hp, h.at (js := [.g 0]) (by kernel_rfl)⟩
   · rintro a w ⟨z_4, hp, h⟩
     refine h.go ?_
     refine SC.if' rfl hp (fun hp => ?_) (fun hp => ?_)
     · refine SC.cut (fun a w => ∃ (x_5 : Int), address_Random_j2 F kind_1 x_5 = some r ∧ A 43 0 fx [(4, vp 0 0)] [.blk 26 [ci .i64 kind_1, ci .u64 x_5]] a w) ?_ ?_
       · refine SC.drw MO ([false], [true], [9]) (by kernel_rfl) fun kap_6 D_7 => ?_
         refine SD.takes tk D_7 [] kn0 [0, 1, 5] [] [] [I, I, O, O, O, I, O, O, O, O] [(4, vp 0 0), (16, vi .i64 kind_1), (17, vi .i64 kind_1), (21, vi .u64 bits_2)] rfl (by kernel_rfl) (by kernel_rfl) (by kernel_rfl) ?_
         obtain ⟨x_168, e_x_168, hp⟩ := bind_inv hp
         obtain ⟨x_488, e_x_488, hp⟩ := bind_inv hp
         refine SD.lay 0 [I, I, I, I, I, I, I, I, I, I] [(4, vp 0 0)] [.blk 26 [ci .i64 kind_1, ci .u64 (ior .u64 (shlp .u64 x_168 46) x_488)]] ?_ (fun c_7_0 => ?_)
         · refine SD.done (by kernel_rfl) fun a w h => ?_
           exact ⟨ior .u64 (shlp .u64 x_168 46) x_488, hp, h.at (js := [.g 0]) (by kernel_rfl)⟩
         · refine SD.lay 1 [I, I, I, I, I, I, I, I, I, O] [(4, vp 0 0), (24, .g [ci .i64 kind_1, ci .u64 (ior .u64 (shlp .u64 x_168 46) x_488)])] [.blk 26 [ci .i64 0, ci .u64 0]] ?_ (fun c_7_1 => ?_)
           · refine SD.all1 (i := 9) (by kernel_rfl) ?_
             refine SW.store D_7 tk (i := 9) (q := 0) (T := 26) (cs := [ci .i64 kind_1, ci .u64 (ior .u64 (shlp .u64 x_168 46) x_488)]) (bs' := [I, I, I, I, I, I, I, I, I, I]) rfl (by kernel_rfl) (by kernel_rfl) rfl (by kernel_rfl) ?_
             exact SD.vie D_7 [.g 0] c_7_0 (by kernel_rfl)
           · refine SD.lay 4 [I, I, I, I, I, I, O, O, O, O] [(4, vp 0 0), (16, vi .i64 kind_1), (20, vi .u64 (shlp .u64 x_168 46)), (21, vi .u64 bits_2)] [.blk 26 [ci .i64 0, ci .u64 0]] ?_ (fun c_7_2 => ?_)
             · refine SD.all1 (i := 6) (by kernel_rfl) ?_
               refine SW.eff D_7 (i := 6) (bs' := [I, I, I, I, I, I, I, O, O, O]) rfl (.inl rfl) rfl (e_c Tryz.call81 (ok_address_fit F bits_2 46 _ e_x_488) [] [vi .u64 bits_2, vi .i64 46] (vi .u64 x_488) (by kernel_rfl) (.inl rfl)) (by kernel_rfl) rfl (by kernel_rfl) ?_
               refine SD.takes tk D_7 [] kn0 [7, 8] [] [] [I, I, I, I, I, I, I, I, I, O] [(4, vp 0 0), (24, .g [ci .i64 kind_1, ci .u64 (ior .u64 (shlp .u64 x_168 46) x_488)])] rfl (by kernel_rfl) (by kernel_rfl) (by kernel_rfl) ?_
               exact SD.vie D_7 [.g 0] c_7_1 (by kernel_rfl)
             · refine SD.lay 5 [I, I, I, O, O, I, I, O, O, O] [(4, vp 0 0), (16, vi .i64 kind_1), (18, vp 1 0), (22, vi .u64 x_488)] [.blk 26 [ci .i64 0, ci .u64 0], .elt none false [ci .u64 x_168]] ?_ (fun c_7_3 => ?_)
               · refine SD.all1 (i := 3) (by kernel_rfl) ?_
                 refine SW.eff D_7 (i := 3) (v := vi .u64 x_168) (bs' := [I, I, I, I, O, I, I, O, O, O]) rfl (.inl rfl) rfl (e_val tk (by kernel_rfl)) (by kernel_rfl) rfl (by kernel_rfl) ?_
                 refine SD.takes tk D_7 [] kn0 [4, 7, 8] [.bin .shl .u64 x_168 46 (shlp .u64 x_168 46) (by kernel_rfl)] [x_168, 46] [I, I, I, I, I, I, I, I, I, O] [(4, vp 0 0), (24, .g [ci .i64 kind_1, ci .u64 (ior .u64 (shlp .u64 x_168 46) x_488)])] rfl (by kernel_rfl) (by kernel_rfl) (by kernel_rfl) ?_
                 exact SD.vie D_7 [.g 0] c_7_1 (by kernel_rfl)
               · refine SD.lay 6 [I, I, I, O, O, I, O, O, O, O] [(4, vp 0 0), (16, vi .i64 kind_1), (18, vp 1 0), (21, vi .u64 bits_2)] [.blk 26 [ci .i64 0, ci .u64 0], .elt none false [ci .u64 x_168]] ?_ (fun c_7_4 => ?_)
                 · refine SD.all2 (i := 3) (j := 6) (by kernel_rfl) ?_ ?_
                   · refine SW.eff D_7 (i := 3) (v := vi .u64 x_168) (bs' := [I, I, I, I, O, I, O, O, O, O]) rfl (.inl rfl) rfl (e_val tk (by kernel_rfl)) (by kernel_rfl) rfl (by kernel_rfl) ?_
                     refine SD.takes tk D_7 [] kn0 [4] [.bin .shl .u64 x_168 46 (shlp .u64 x_168 46) (by kernel_rfl)] [x_168, 46] [I, I, I, I, I, I, O, O, O, O] [(4, vp 0 0), (16, vi .i64 kind_1), (20, vi .u64 (shlp .u64 x_168 46)), (21, vi .u64 bits_2)] rfl (by kernel_rfl) (by kernel_rfl) (by kernel_rfl) ?_
                     exact SD.vie D_7 [.g 0] c_7_2 (by kernel_rfl)
                   · refine SW.eff D_7 (i := 6) (bs' := [I, I, I, O, O, I, I, O, O, O]) rfl (.inl rfl) rfl (e_c Tryz.call81 (ok_address_fit F bits_2 46 _ e_x_488) [] [vi .u64 bits_2, vi .i64 46] (vi .u64 x_488) (by kernel_rfl) (.inl rfl)) (by kernel_rfl) rfl (by kernel_rfl) ?_
                     exact SD.vie D_7 [.g 0, .g 1] c_7_3 (by kernel_rfl)
                 · refine SD.lay 6 [I, I, O, O, O, I, I, O, O, O] [(4, vp 0 0), (16, vi .i64 kind_1), (17, vi .i64 kind_1), (22, vi .u64 x_488)] [.blk 26 [ci .i64 0, ci .u64 0]] ?_ (fun c_7_5 => ?_)
                   · refine SD.all1 (i := 2) (by kernel_rfl) ?_
                     refine SW.eff D_7 (i := 2) (bs' := [I, I, I, O, O, I, I, O, O, O]) rfl (.inl rfl) rfl (e_gix (E := 22) (g := 0) (kk := .u64) (l := [0, 0, 3, 1, 0]) tk rfl rfl e_x_168 (by kernel_rfl)) (by kernel_rfl) rfl (by kernel_rfl) ?_
                     exact SD.vie D_7 [.g 0, .g 1] c_7_3 (by kernel_rfl)
                   · refine SD.all2 (i := 2) (j := 6) (by kernel_rfl) ?_ ?_
                     · refine SW.eff D_7 (i := 2) (bs' := [I, I, I, O, O, I, O, O, O, O]) rfl (.inl rfl) rfl (e_gix (E := 22) (g := 0) (kk := .u64) (l := [0, 0, 3, 1, 0]) tk rfl rfl e_x_168 (by kernel_rfl)) (by kernel_rfl) rfl (by kernel_rfl) ?_
                       exact SD.vie D_7 [.g 0, .g 1] c_7_4 (by kernel_rfl)
                     · refine SW.eff D_7 (i := 6) (bs' := [I, I, O, O, O, I, I, O, O, O]) rfl (.inl rfl) rfl (e_c Tryz.call81 (ok_address_fit F bits_2 46 _ e_x_488) [] [vi .u64 bits_2, vi .i64 46] (vi .u64 x_488) (by kernel_rfl) (.inl rfl)) (by kernel_rfl) rfl (by kernel_rfl) ?_
                       exact SD.vie D_7 [.g 0] c_7_5 (by kernel_rfl)
       · rintro a w ⟨x_5, hp, h⟩
         refine h.go ?_
         obtain rfl := some_inv' hp
         exact SC.re (js := []) tk (by kernel_rfl)
     · refine SC.r tk [(0, vi .i64 kind_1), (1, vi .u64 bits_2), (4, vp 0 0), (25, vb (kind_1 == 3))] [] [] [] (by kernel_rfl) ?_
       refine SC.if' rfl hp (fun hp => ?_) (fun hp => ?_)
       · refine SC.cut (fun a w => ∃ (x_888 : Int), address_Random_j3 F kind_1 x_888 = some r ∧ A 43 0 fx [(4, vp 0 0)] [.blk 26 [ci .i64 kind_1, ci .u64 x_888]] a w) ?_ ?_
         · refine SC.drw MO ([false], [true], [15]) (by kernel_rfl) fun kap_889 D_890 => ?_
           refine SD.takes tk D_890 [] kn0 [0, 1, 5, 6, 10] [.bin .shr .u64 bits_2 24 (shrp bits_2 24) (by kernel_rfl)] [bits_2, 24] [I, I, O, O, O, I, I, O, O, O, I, O, O, O, O, O] [(4, vp 0 0), (27, vi .i64 kind_1), (28, vi .i64 kind_1), (33, vi .u64 (shrp bits_2 24)), (37, vi .u64 bits_2)] rfl (by kernel_rfl) (by kernel_rfl) (by kernel_rfl) ?_
           obtain ⟨x_1051, e_x_1051, hp⟩ := bind_inv hp
           obtain ⟨x_1451, e_x_1451, hp⟩ := bind_inv hp
           obtain ⟨x_1771, e_x_1771, hp⟩ := bind_inv hp
           refine SD.lay 0 [I, I, I, I, I, I, I, I, I, I, I, I, I, I, I, I] [(4, vp 0 0)] [.blk 26 [ci .i64 kind_1, ci .u64 (ior .u64 (ior .u64 (shlp .u64 x_1051 46) (shlp .u64 x_1451 24)) (iand .u64 bits_2 x_1771))]] ?_ (fun c_890_0 => ?_)
           · refine SD.done (by kernel_rfl) fun a w h => ?_
             exact ⟨ior .u64 (ior .u64 (shlp .u64 x_1051 46) (shlp .u64 x_1451 24)) (iand .u64 bits_2 x_1771), hp, h.at (js := [.g 0]) (by kernel_rfl)⟩
           · refine SD.lay 1 [I, I, I, I, I, I, I, I, I, I, I, I, I, I, I, O] [(4, vp 0 0), (41, .g [ci .i64 kind_1, ci .u64 (ior .u64 (ior .u64 (shlp .u64 x_1051 46) (shlp .u64 x_1451 24)) (iand .u64 bits_2 x_1771))])] [.blk 26 [ci .i64 0, ci .u64 0]] ?_ (fun c_890_1 => ?_)
             · refine SD.all1 (i := 15) (by kernel_rfl) ?_
               refine SW.store D_890 tk (i := 15) (q := 0) (T := 26) (cs := [ci .i64 kind_1, ci .u64 (ior .u64 (ior .u64 (shlp .u64 x_1051 46) (shlp .u64 x_1451 24)) (iand .u64 bits_2 x_1771))]) (bs' := [I, I, I, I, I, I, I, I, I, I, I, I, I, I, I, I]) rfl (by kernel_rfl) (by kernel_rfl) rfl (by kernel_rfl) ?_
               exact SD.vie D_890 [.g 0] c_890_0 (by kernel_rfl)
             · refine SD.lay 5 [I, I, I, I, I, I, I, I, I, I, I, O, O, O, O, O] [(4, vp 0 0), (27, vi .i64 kind_1), (36, vi .u64 (ior .u64 (shlp .u64 x_1051 46) (shlp .u64 x_1451 24))), (37, vi .u64 bits_2)] [.blk 26 [ci .i64 0, ci .u64 0]] ?_ (fun c_890_2 => ?_)
               · refine SD.all1 (i := 11) (by kernel_rfl) ?_
                 refine SW.eff D_890 (i := 11) (bs' := [I, I, I, I, I, I, I, I, I, I, I, I, O, O, O, O]) rfl (.inl rfl) rfl (e_c Tryz.call27 (ok_address_mask F 24 _ e_x_1771) [] [vi .i64 24] (vi .u64 x_1771) (by kernel_rfl) (.inl rfl)) (by kernel_rfl) rfl (by kernel_rfl) ?_
                 refine SD.takes tk D_890 [] kn0 [12, 13, 14] [] [] [I, I, I, I, I, I, I, I, I, I, I, I, I, I, I, O] [(4, vp 0 0), (41, .g [ci .i64 kind_1, ci .u64 (ior .u64 (ior .u64 (shlp .u64 x_1051 46) (shlp .u64 x_1451 24)) (iand .u64 bits_2 x_1771))])] rfl (by kernel_rfl) (by kernel_rfl) (by kernel_rfl) ?_
                 exact SD.vie D_890 [.g 0] c_890_1 (by kernel_rfl)
               · refine SD.lay 8 [I, I, I, I, I, I, I, O, O, O, I, O, O, O, O, O] [(4, vp 0 0), (27, vi .i64 kind_1), (31, vi .u64 (shlp .u64 x_1051 46)), (33, vi .u64 (shrp bits_2 24)), (37, vi .u64 bits_2)] [.blk 26 [ci .i64 0, ci .u64 0]] ?_ (fun c_890_3 => ?_)
                 · refine SD.all1 (i := 7) (by kernel_rfl) ?_
                   refine SW.eff D_890 (i := 7) (bs' := [I, I, I, I, I, I, I, I, O, O, I, O, O, O, O, O]) rfl (.inl rfl) rfl (e_c Tryz.call81 (ok_address_fit F (shrp bits_2 24) 22 _ e_x_1451) [] [vi .u64 (shrp bits_2 24), vi .i64 22] (vi .u64 x_1451) (by kernel_rfl) (.inl rfl)) (by kernel_rfl) rfl (by kernel_rfl) ?_
                   refine SD.takes tk D_890 [] kn0 [8, 9] [.bin .shl .u64 x_1451 24 (shlp .u64 x_1451 24) (by kernel_rfl)] [x_1451, 24] [I, I, I, I, I, I, I, I, I, I, I, O, O, O, O, O] [(4, vp 0 0), (27, vi .i64 kind_1), (36, vi .u64 (ior .u64 (shlp .u64 x_1051 46) (shlp .u64 x_1451 24))), (37, vi .u64 bits_2)] rfl (by kernel_rfl) (by kernel_rfl) (by kernel_rfl) ?_
                   exact SD.vie D_890 [.g 0] c_890_2 (by kernel_rfl)
                 · refine SD.lay 6 [I, I, I, O, O, I, I, I, I, O, I, I, I, O, O, O] [(4, vp 0 0), (27, vi .i64 kind_1), (29, vp 1 0), (35, vi .u64 (shlp .u64 x_1451 24)), (39, vi .u64 (iand .u64 bits_2 x_1771))] [.blk 26 [ci .i64 0, ci .u64 0], .elt none false [ci .u64 x_1051]] ?_ (fun c_890_4 => ?_)
                   · refine SD.all1 (i := 3) (by kernel_rfl) ?_
                     refine SW.eff D_890 (i := 3) (v := vi .u64 x_1051) (bs' := [I, I, I, I, O, I, I, I, I, O, I, I, I, O, O, O]) rfl (.inl rfl) rfl (e_val tk (by kernel_rfl)) (by kernel_rfl) rfl (by kernel_rfl) ?_
                     refine SD.takes tk D_890 [] kn0 [4, 9, 13, 14] [.bin .shl .u64 x_1051 46 (shlp .u64 x_1051 46) (by kernel_rfl)] [x_1051, 46] [I, I, I, I, I, I, I, I, I, I, I, I, I, I, I, O] [(4, vp 0 0), (41, .g [ci .i64 kind_1, ci .u64 (ior .u64 (ior .u64 (shlp .u64 x_1051 46) (shlp .u64 x_1451 24)) (iand .u64 bits_2 x_1771))])] rfl (by kernel_rfl) (by kernel_rfl) (by kernel_rfl) ?_
                     exact SD.vie D_890 [.g 0] c_890_1 (by kernel_rfl)
                   · refine SD.lay 8 [I, I, I, O, O, I, I, I, I, O, I, O, O, O, O, O] [(4, vp 0 0), (27, vi .i64 kind_1), (29, vp 1 0), (35, vi .u64 (shlp .u64 x_1451 24)), (37, vi .u64 bits_2)] [.blk 26 [ci .i64 0, ci .u64 0], .elt none false [ci .u64 x_1051]] ?_ (fun c_890_5 => ?_)
                     · refine SD.all2 (i := 3) (j := 11) (by kernel_rfl) ?_ ?_
                       · refine SW.eff D_890 (i := 3) (v := vi .u64 x_1051) (bs' := [I, I, I, I, O, I, I, I, I, O, I, O, O, O, O, O]) rfl (.inl rfl) rfl (e_val tk (by kernel_rfl)) (by kernel_rfl) rfl (by kernel_rfl) ?_
                         refine SD.takes tk D_890 [] kn0 [4, 9] [.bin .shl .u64 x_1051 46 (shlp .u64 x_1051 46) (by kernel_rfl)] [x_1051, 46] [I, I, I, I, I, I, I, I, I, I, I, O, O, O, O, O] [(4, vp 0 0), (27, vi .i64 kind_1), (36, vi .u64 (ior .u64 (shlp .u64 x_1051 46) (shlp .u64 x_1451 24))), (37, vi .u64 bits_2)] rfl (by kernel_rfl) (by kernel_rfl) (by kernel_rfl) ?_
                         exact SD.vie D_890 [.g 0] c_890_2 (by kernel_rfl)
                       · refine SW.eff D_890 (i := 11) (bs' := [I, I, I, O, O, I, I, I, I, O, I, I, O, O, O, O]) rfl (.inl rfl) rfl (e_c Tryz.call27 (ok_address_mask F 24 _ e_x_1771) [] [vi .i64 24] (vi .u64 x_1771) (by kernel_rfl) (.inl rfl)) (by kernel_rfl) rfl (by kernel_rfl) ?_
                         refine SD.takes tk D_890 [] kn0 [12] [] [] [I, I, I, O, O, I, I, I, I, O, I, I, I, O, O, O] [(4, vp 0 0), (27, vi .i64 kind_1), (29, vp 1 0), (35, vi .u64 (shlp .u64 x_1451 24)), (39, vi .u64 (iand .u64 bits_2 x_1771))] rfl (by kernel_rfl) (by kernel_rfl) (by kernel_rfl) ?_
                         exact SD.vie D_890 [.g 0, .g 1] c_890_4 (by kernel_rfl)
                     · refine SD.lay 10 [I, I, I, O, O, I, I, O, O, O, I, O, O, O, O, O] [(4, vp 0 0), (27, vi .i64 kind_1), (29, vp 1 0), (33, vi .u64 (shrp bits_2 24)), (37, vi .u64 bits_2)] [.blk 26 [ci .i64 0, ci .u64 0], .elt none false [ci .u64 x_1051]] ?_ (fun c_890_6 => ?_)
                       · refine SD.all2 (i := 3) (j := 7) (by kernel_rfl) ?_ ?_
                         · refine SW.eff D_890 (i := 3) (v := vi .u64 x_1051) (bs' := [I, I, I, I, O, I, I, O, O, O, I, O, O, O, O, O]) rfl (.inl rfl) rfl (e_val tk (by kernel_rfl)) (by kernel_rfl) rfl (by kernel_rfl) ?_
                           refine SD.takes tk D_890 [] kn0 [4] [.bin .shl .u64 x_1051 46 (shlp .u64 x_1051 46) (by kernel_rfl)] [x_1051, 46] [I, I, I, I, I, I, I, O, O, O, I, O, O, O, O, O] [(4, vp 0 0), (27, vi .i64 kind_1), (31, vi .u64 (shlp .u64 x_1051 46)), (33, vi .u64 (shrp bits_2 24)), (37, vi .u64 bits_2)] rfl (by kernel_rfl) (by kernel_rfl) (by kernel_rfl) ?_
                           exact SD.vie D_890 [.g 0] c_890_3 (by kernel_rfl)
                         · refine SW.eff D_890 (i := 7) (bs' := [I, I, I, O, O, I, I, I, O, O, I, O, O, O, O, O]) rfl (.inl rfl) rfl (e_c Tryz.call81 (ok_address_fit F (shrp bits_2 24) 22 _ e_x_1451) [] [vi .u64 (shrp bits_2 24), vi .i64 22] (vi .u64 x_1451) (by kernel_rfl) (.inl rfl)) (by kernel_rfl) rfl (by kernel_rfl) ?_
                           refine SD.takes tk D_890 [] kn0 [8] [.bin .shl .u64 x_1451 24 (shlp .u64 x_1451 24) (by kernel_rfl)] [x_1451, 24] [I, I, I, O, O, I, I, I, I, O, I, O, O, O, O, O] [(4, vp 0 0), (27, vi .i64 kind_1), (29, vp 1 0), (35, vi .u64 (shlp .u64 x_1451 24)), (37, vi .u64 bits_2)] rfl (by kernel_rfl) (by kernel_rfl) (by kernel_rfl) ?_
                           exact SD.vie D_890 [.g 0, .g 1] c_890_5 (by kernel_rfl)
                       · refine SD.lay 7 [I, I, O, O, O, I, I, I, I, O, I, I, I, O, O, O] [(4, vp 0 0), (27, vi .i64 kind_1), (28, vi .i64 kind_1), (35, vi .u64 (shlp .u64 x_1451 24)), (39, vi .u64 (iand .u64 bits_2 x_1771))] [.blk 26 [ci .i64 0, ci .u64 0]] ?_ (fun c_890_7 => ?_)
                         · refine SD.all1 (i := 2) (by kernel_rfl) ?_
                           refine SW.eff D_890 (i := 2) (bs' := [I, I, I, O, O, I, I, I, I, O, I, I, I, O, O, O]) rfl (.inl rfl) rfl (e_gix (E := 22) (g := 0) (kk := .u64) (l := [0, 0, 3, 1, 0]) tk rfl rfl e_x_1051 (by kernel_rfl)) (by kernel_rfl) rfl (by kernel_rfl) ?_
                           exact SD.vie D_890 [.g 0, .g 1] c_890_4 (by kernel_rfl)
                         · refine SD.lay 9 [I, I, O, O, O, I, I, I, I, O, I, O, O, O, O, O] [(4, vp 0 0), (27, vi .i64 kind_1), (28, vi .i64 kind_1), (35, vi .u64 (shlp .u64 x_1451 24)), (37, vi .u64 bits_2)] [.blk 26 [ci .i64 0, ci .u64 0]] ?_ (fun c_890_8 => ?_)
                           · refine SD.all2 (i := 2) (j := 11) (by kernel_rfl) ?_ ?_
                             · refine SW.eff D_890 (i := 2) (bs' := [I, I, I, O, O, I, I, I, I, O, I, O, O, O, O, O]) rfl (.inl rfl) rfl (e_gix (E := 22) (g := 0) (kk := .u64) (l := [0, 0, 3, 1, 0]) tk rfl rfl e_x_1051 (by kernel_rfl)) (by kernel_rfl) rfl (by kernel_rfl) ?_
                               exact SD.vie D_890 [.g 0, .g 1] c_890_5 (by kernel_rfl)
                             · refine SW.eff D_890 (i := 11) (bs' := [I, I, O, O, O, I, I, I, I, O, I, I, O, O, O, O]) rfl (.inl rfl) rfl (e_c Tryz.call27 (ok_address_mask F 24 _ e_x_1771) [] [vi .i64 24] (vi .u64 x_1771) (by kernel_rfl) (.inl rfl)) (by kernel_rfl) rfl (by kernel_rfl) ?_
                               refine SD.takes tk D_890 [] kn0 [12] [] [] [I, I, O, O, O, I, I, I, I, O, I, I, I, O, O, O] [(4, vp 0 0), (27, vi .i64 kind_1), (28, vi .i64 kind_1), (35, vi .u64 (shlp .u64 x_1451 24)), (39, vi .u64 (iand .u64 bits_2 x_1771))] rfl (by kernel_rfl) (by kernel_rfl) (by kernel_rfl) ?_
                               exact SD.vie D_890 [.g 0] c_890_7 (by kernel_rfl)
                           · refine SD.all2 (i := 2) (j := 7) (by kernel_rfl) ?_ ?_
                             · refine SW.eff D_890 (i := 2) (bs' := [I, I, I, O, O, I, I, O, O, O, I, O, O, O, O, O]) rfl (.inl rfl) rfl (e_gix (E := 22) (g := 0) (kk := .u64) (l := [0, 0, 3, 1, 0]) tk rfl rfl e_x_1051 (by kernel_rfl)) (by kernel_rfl) rfl (by kernel_rfl) ?_
                               exact SD.vie D_890 [.g 0, .g 1] c_890_6 (by kernel_rfl)
                             · refine SW.eff D_890 (i := 7) (bs' := [I, I, O, O, O, I, I, I, O, O, I, O, O, O, O, O]) rfl (.inl rfl) rfl (e_c Tryz.call81 (ok_address_fit F (shrp bits_2 24) 22 _ e_x_1451) [] [vi .u64 (shrp bits_2 24), vi .i64 22] (vi .u64 x_1451) (by kernel_rfl) (.inl rfl)) (by kernel_rfl) rfl (by kernel_rfl) ?_
                               refine SD.takes tk D_890 [] kn0 [8] [.bin .shl .u64 x_1451 24 (shlp .u64 x_1451 24) (by kernel_rfl)] [x_1451, 24] [I, I, O, O, O, I, I, I, I, O, I, O, O, O, O, O] [(4, vp 0 0), (27, vi .i64 kind_1), (28, vi .i64 kind_1), (35, vi .u64 (shlp .u64 x_1451 24)), (37, vi .u64 bits_2)] rfl (by kernel_rfl) (by kernel_rfl) (by kernel_rfl) ?_
                               exact SD.vie D_890 [.g 0] c_890_8 (by kernel_rfl)
         · rintro a w ⟨x_888, hp, h⟩
           refine h.go ?_
           obtain rfl := some_inv' hp
           exact SC.re (js := []) tk (by kernel_rfl)
       · refine SC.skipThen ?_
         refine SC.r tk [(4, vp 0 0)] [(0, 26, [ci .i64 0, ci .u64 0])] [] [] (by kernel_rfl) ?_
         obtain rfl := some_inv' hp
         exact SC.re (js := []) tk (by kernel_rfl)

theorem ok_privacy_Make (F : Nat) (irk_1 : Int) (prand_2 : Int) (r : T_api_Address × Int) (hp : privacy_Make F irk_1 prand_2 = some r) : Spec Tryz.prog 25 [vi .u64 irk_1, vi .u32 prand_2] [] (.u [.inr (C_api_Address r.1), .inl (ci .i64 r.2)]) [] := by
 refine Spec.enter Tryz.func25 rfl Tryz.ntmps25 rfl rfl fun fx => ?_
 refine SC.seq ?_
 refine SC.reg ?_
 refine SL.eff (e_alloc (E := 26) tk [ci .i64 0, ci .u64 0] (by kernel_rfl)) rfl (by kernel_rfl) ?_
 refine SL.sim tk 1 [(0, vi .u64 irk_1), (1, vi .u32 prand_2), (4, vp 0 0)] [] [] [] (by kernel_rfl) ?_
 refine SL.nilThen ?_
 refine SC.seq ?_
 refine SC.r tk [(0, vi .u64 irk_1), (1, vi .u32 prand_2), (4, vp 0 0), (7, vb (irk_1 == 0))] [] [] [] (by kernel_rfl) ?_
 refine SC.if' rfl hp (fun hp => ?_) (fun hp => ?_)
 · refine SC.r tk [(4, vp 0 0), (5, vi .i64 17)] [(0, 26, [ci .i64 0, ci .u64 0])] [] [] (by kernel_rfl) ?_
   obtain rfl := some_inv' hp
   exact SC.re (js := []) tk (by kernel_rfl)
 · refine SC.skipThen ?_
   refine SC.seq ?_
   refine SC.r tk [(0, vi .u64 irk_1), (1, vi .u32 prand_2), (4, vp 0 0), (14, vb ((decide (prand_2 < 1)) || (decide (prand_2 > 4194302))))] [] [] [] (by kernel_rfl) ?_
   refine SC.if' rfl hp (fun hp => ?_) (fun hp => ?_)
   · refine SC.r tk [(4, vp 0 0), (5, vi .i64 5)] [(0, 26, [ci .i64 0, ci .u64 0])] [] [] (by kernel_rfl) ?_
     obtain rfl := some_inv' hp
     exact SC.re (js := []) tk (by kernel_rfl)
   · refine SC.skipThen ?_
     refine SC.seq ?_
     refine SC.reg ?_
     refine SL.sim tk 6 [(4, vp 0 0), (18, vi .u64 (shlp .u64 (wu64 prand_2) 24)), (19, vi .u64 irk_1), (21, vi .u64 (wu64 prand_2))] [] [.bin .shl .u64 (wu64 prand_2) 24 (shlp .u64 (wu64 prand_2) 24) (by kernel_rfl)] [wu64 prand_2, 24] (by kernel_rfl) ?_
     obtain ⟨x_3, e_x_3, hp⟩ := bind_inv hp
     refine SL.eff (e_c Tryz.call15 (ok_privacy_hash F irk_1 (wu64 prand_2) _ e_x_3) [] [vi .u64 irk_1, vi .u64 (wu64 prand_2)] (vi .u64 x_3) (by kernel_rfl) (.inl rfl)) rfl (by kernel_rfl) ?_
     refine SL.sim tk 1 [(4, vp 0 0), (23, vi .u64 (ior .u64 (shlp .u64 (wu64 prand_2) 24) x_3))] [] [] [] (by kernel_rfl) ?_
     obtain ⟨x_4, e_x_4, hp⟩ := bind_inv hp
     refine SL.eff (e_c Tryz.call46 (ok_address_Random F 3 (ior .u64 (shlp .u64 (wu64 prand_2) 24) x_3) _ e_x_4) [] [vi .i64 3, vi .u64 (ior .u64 (shlp .u64 (wu64 prand_2) 24) x_3)] (.g (C_api_Address x_4)) (by kernel_rfl) (.inl rfl)) rfl (by kernel_rfl) ?_
     refine SL.norm (itsN := [.blk 26 [ci .i64 0, ci .u64 0]]) (by kernel_rfl) ?_
     refine SL.sim tk 2 [(4, vp 0 0), (5, vi .i64 0)] [(0, 26, (C_api_Address x_4))] [] [] (by kernel_rfl) ?_
     refine SL.nilThen ?_
     obtain rfl := some_inv' hp
     exact SC.re (js := []) tk (by kernel_rfl)

theorem ok_privacy_At (F : Nat) (irk_1 : Int) (epoch_2 : Int) (r : T_api_Address) (hp : privacy_At F irk_1 epoch_2 = some r) : Spec Tryz.prog 12 [vi .u64 irk_1, vi .i64 epoch_2] [] (.g (C_api_Address r)) [] := by
 refine Spec.enter Tryz.func12 rfl Tryz.ntmps12 rfl rfl fun fx => ?_
 refine SC.seq ?_
 refine SC.reg ?_
 refine SL.eff (e_alloc (E := 26) tk [ci .i64 0, ci .u64 0] (by kernel_rfl)) rfl (by kernel_rfl) ?_
 refine SL.nilThen ?_
 refine SC.seq ?_
 refine SC.reg ?_
 refine SL.sim tk 3 [(0, vi .u64 irk_1), (4, vp 0 0), (8, vi .u64 irk_1), (10, vi .u64 (wu64 epoch_2))] [] [] [] (by kernel_rfl) ?_
 refine SL.eff (e_lit (sz := 1) (E := 22) (R := (RInt .u64)) (by_ := 8) tk [[ci .u64 (wu64 epoch_2)]] [wu64 epoch_2] (by kernel_rfl) ⟨Clo.int, trivial⟩ rfl (by kernel_rfl) (by kernel_rfl)) rfl (by kernel_rfl) ?_
 obtain ⟨x_3, e_x_3, hp⟩ := bind_inv hp
 refine SL.eff (e_c Tryz.call24 (ok_mac_Derive F irk_1 [101, 112, 111, 99, 104] [wu64 epoch_2] _ e_x_3) [.k ⟨#[101, 112, 111, 99, 104]⟩, .l 1] [vi .u64 irk_1, .c (.v (.string ⟨#[101, 112, 111, 99, 104]⟩)), vs 1] (vi .u64 x_3) (by kernel_rfl) (.inr ⟨trivial, trivial, trivial⟩)) rfl (by kernel_rfl) ?_
 refine SL.norm (itsN := [.blk 26 [ci .i64 0, ci .u64 0], .own 1 22 (RInt .u64) [wu64 epoch_2]]) (by kernel_rfl) ?_
 refine SL.sim tk 3 [(0, vi .u64 irk_1), (4, vp 0 0), (5, vi .u64 (wu64 (1 + (remp x_3 4194302))))] [] [.bin .rem .u64 x_3 4194302 (remp x_3 4194302) (by kernel_rfl)] [x_3, 4194302] (by kernel_rfl) ?_
 refine SL.nilThen ?_
 refine SC.seq ?_
 refine SC.reg ?_
 refine SL.sim tk 3 [(4, vp 0 0), (16, vi .u64 irk_1), (18, vi .u32 (wu32 (wu64 (1 + (remp x_3 4194302)))))] [] [] [] (by kernel_rfl) ?_
 obtain ⟨x_4, e_x_4, hp⟩ := bind_inv hp
 refine SL.eff (e_c Tryz.call25 (ok_privacy_Make F irk_1 (wu32 (wu64 (1 + (remp x_3 4194302)))) _ e_x_4) [] [vi .u64 irk_1, vi .u32 (wu32 (wu64 (1 + (remp x_3 4194302))))] (.u [.inr (C_api_Address x_4.1), .inl (ci .i64 x_4.2)]) (by kernel_rfl) (.inl rfl)) rfl (by kernel_rfl) ?_
 refine SL.sim tk 3 [(4, vp 0 0), (20, .g (C_api_Address x_4.1)), (21, vi .i64 x_4.2)] [] [] [] (by kernel_rfl) ?_
 refine SL.eff (e_alloc (E := 26) tk [ci .i64 0, ci .u64 0] (by kernel_rfl)) rfl (by kernel_rfl) ?_
 refine SL.sim tk 2 [(4, vp 0 0), (6, vp 2 0)] [(2, 26, (C_api_Address x_4.1))] [] [] (by kernel_rfl) ?_
 refine SL.nilThen ?_
 refine SC.r tk [(4, vp 0 0)] [(0, 26, (C_api_Address x_4.1))] [] [] (by kernel_rfl) ?_
 obtain rfl := some_inv' hp
 exact SC.re (js := []) tk (by kernel_rfl)

theorem ok_privacy_Current (F : Nat) (id_1 : T_api_Identity) (private_2 : Bool) (local_3 : Int) (period_4 : Int) (r : T_api_Address) (hp : privacy_Current F id_1 private_2 local_3 period_4 = some r) : Spec Tryz.prog 5 [.g (C_api_Identity id_1), vb private_2, vi .i64 local_3, vi .i64 period_4] [] (.g (C_api_Address r)) [] := by
 refine Spec.enter Tryz.func5 rfl Tryz.ntmps5 rfl rfl fun fx => ?_
 refine SC.seq ?_
 refine SC.reg ?_
 refine SL.eff (e_box (E := 28) (C_api_Identity id_1) (by kernel_rfl)) rfl (by kernel_rfl) ?_
 refine SL.eff (e_alloc (E := 26) tk [ci .i64 0, ci .u64 0] (by kernel_rfl)) rfl (by kernel_rfl) ?_
 refine SL.nilThen ?_
 refine SC.seq ?_
 refine SC.r tk [(2, vi .i64 local_3), (3, vi .i64 period_4), (4, vp 0 0), (8, vp 1 0), (15, vb ((!private_2) || (id_1.IRK == 0)))] [] [] [] (by kernel_rfl) ?_
 refine SC.if' rfl hp (fun hp => ?_) (fun hp => ?_)
 · refine SC.r tk [(8, vp 1 0)] [(1, 26, (C_api_Address id_1.Address))] [] [] (by kernel_rfl) ?_
   obtain rfl := some_inv' hp
   exact SC.re (js := []) tk (by kernel_rfl)
 · refine SC.skipThen ?_
   refine SC.cut (fun a w => ∃ (c_7 : T_api_Address), privacy_Current_j1 F c_7 = some r ∧ A 24 0 fx [(8, vp 0 0)] [.blk 26 (C_api_Address c_7)] a w) ?_ ?_
   · refine SC.drw MO ([true, false], [true, true], [6]) (by kernel_rfl) fun kap_8 D_9 => ?_
     refine SD.takes tk D_9 [] kn0 [0, 1, 2, 3] [] [] [I, I, I, I, O, O, O] [(8, vp 1 0), (19, vi .u64 id_1.IRK), (20, vi .i64 local_3), (21, vi .i64 period_4)] rfl (by kernel_rfl) (by kernel_rfl) (by kernel_rfl) ?_
     obtain ⟨x_10, e_x_10, hp⟩ := bind_inv hp
     refine SD.all1 (i := 4) (by kernel_rfl) ?_
     refine SW.eff D_9 (i := 4) (bs' := [I, I, I, I, I, O, O]) rfl (.inl rfl) rfl (e_c Tryz.call13 (ok_privacy_Epoch F local_3 period_4 _ e_x_10) [] [vi .i64 local_3, vi .i64 period_4] (vi .i64 x_10) (by kernel_rfl) (.inl rfl)) (by kernel_rfl) rfl (by kernel_rfl) ?_
     refine SD.norm (itsN := [.blk 28 (C_api_Identity id_1), .blk 26 [ci .i64 0, ci .u64 0]]) (by kernel_rfl) ?_
     obtain ⟨x_11, e_x_11, hp⟩ := bind_inv hp
     refine SD.all1 (i := 5) (by kernel_rfl) ?_
     refine SW.eff D_9 (i := 5) (bs' := [I, I, I, I, I, I, O]) rfl (.inl rfl) rfl (e_c Tryz.call12 (ok_privacy_At F id_1.IRK x_10 _ e_x_11) [] [vi .u64 id_1.IRK, vi .i64 x_10] (.g (C_api_Address x_11)) (by kernel_rfl) (.inl rfl)) (by kernel_rfl) rfl (by kernel_rfl) ?_
     refine SD.all1 (i := 6) (by kernel_rfl) ?_
     refine SW.store D_9 tk (i := 6) (q := 1) (T := 26) (cs := (C_api_Address x_11)) (bs' := [I, I, I, I, I, I, I]) rfl (by kernel_rfl) (by kernel_rfl) rfl (by kernel_rfl) ?_
     refine SD.norm (itsN := [.blk 28 (C_api_Identity id_1), .blk 26 (C_api_Address x_11)]) (by kernel_rfl) ?_
     refine SD.done (by kernel_rfl) fun a w h => ?_
     exact ⟨x_11, hp, h.at (js := [.g 1]) (by kernel_rfl)⟩
   · rintro a w ⟨c_7, hp, h⟩
     refine h.go ?_
     obtain rfl := some_inv' hp
     exact SC.re (js := []) tk (by kernel_rfl)

theorem ok_address_part (F : Nat) (a_1 : T_api_Address) (r : Int × Int) (hp : address_part F a_1 = some r) : Spec Tryz.prog 26 [.g (C_api_Address a_1)] [] (.u [.inl (ci .u64 r.1), .inl (ci .i64 r.2)]) [] := by
 refine Spec.enter Tryz.func26 rfl Tryz.ntmps26 rfl rfl fun fx => ?_
 refine SC.seq ?_
 refine SC.reg ?_
 refine SL.eff (e_box (E := 26) (C_api_Address a_1) (by kernel_rfl)) rfl (by kernel_rfl) ?_
 refine SL.sim tk 2 [(1, vp 0 0)] [] [] [] (by kernel_rfl) ?_
 refine SL.nilThen ?_
 refine SC.seq ?_
 refine SC.r tk [(1, vp 0 0), (6, vb (a_1.Kind == 3))] [] [] [] (by kernel_rfl) ?_
 refine SC.if' rfl hp (fun hp => ?_) (fun hp => ?_)
 · refine SC.cut (fun a w => ∃ (x_2 : Int), address_part_j1 F x_2 = some r ∧ A 16 0 fx [(2, vi .u64 x_2), (3, vi .i64 22)] [] a w) ?_ ?_
   · refine SC.draw MO [true] (by kernel_rfl) fun kap_3 D_4 => ?_
     refine SD.takes tk D_4 [] kn0 [0, 1, 2] [.bin .shr .u64 a_1.Bits 24 (shrp a_1.Bits 24) (by kernel_rfl)] [a_1.Bits, 24] [I, I, I, O, O, O, O] [(9, vi .u64 (shrp a_1.Bits 24))] rfl (by kernel_rfl) (by kernel_rfl) (by kernel_rfl) ?_
     obtain ⟨x_5, e_x_5, hp⟩ := bind_inv hp
     refine SD.all1 (i := 3) (by kernel_rfl) ?_
     refine SW.eff D_4 (i := 3) (bs' := [I, I, I, I, O, O, O]) rfl (.inl rfl) rfl (e_c Tryz.call27 (ok_address_mask F 22 _ e_x_5) [] [vi .i64 22] (vi .u64 x_5) (by kernel_rfl) (.inl rfl)) (by kernel_rfl) rfl (by kernel_rfl) ?_
     refine SD.takes tk D_4 [] kn0 [4, 5, 6] [] [] [I, I, I, I, I, I, I] [(2, vi .u64 (iand .u64 (shrp a_1.Bits 24) x_5)), (3, vi .i64 22)] rfl (by kernel_rfl) (by kernel_rfl) (by kernel_rfl) ?_
     refine SD.done (by kernel_rfl) fun a w h => ?_
     exact ⟨iand .u64 (shrp a_1.Bits 24) x_5, hp, h.at (js := []) (by kernel_rfl)⟩
   · rintro a w ⟨x_2, hp, h⟩
     refine h.go ?_
     obtain rfl := some_inv' hp
     exact SC.re (js := []) tk (by kernel_rfl)
 · refine SC.skipThen ?_
   refine SC.cut (fun a w => ∃ (x_6 : Int), address_part_j2 F x_6 = some r ∧ A 16 0 fx [(2, vi .u64 x_6), (3, vi .i64 46)] [] a w) ?_ ?_
   · refine SC.draw MO [true] (by kernel_rfl) fun kap_7 D_8 => ?_
     refine SD.takes tk D_8 [] kn0 [0, 1] [] [] [I, I, O, O, O, O] [(13, vi .u64 a_1.Bits)] rfl (by kernel_rfl) (by kernel_rfl) (by kernel_rfl) ?_
     obtain ⟨x_9, e_x_9, hp⟩ := bind_inv hp
     refine SD.all1 (i := 2) (by kernel_rfl) ?_
     refine SW.eff D_8 (i := 2) (bs' := [I, I, I, O, O, O]) rfl (.inl rfl) rfl (e_c Tryz.call27 (ok_address_mask F 46 _ e_x_9) [] [vi .i64 46] (vi .u64 x_9) (by kernel_rfl) (.inl rfl)) (by kernel_rfl) rfl (by kernel_rfl) ?_
     refine SD.takes tk D_8 [] kn0 [3, 4, 5] [] [] [I, I, I, I, I, I] [(2, vi .u64 (iand .u64 a_1.Bits x_9)), (3, vi .i64 46)] rfl (by kernel_rfl) (by kernel_rfl) (by kernel_rfl) ?_
     refine SD.done (by kernel_rfl) fun a w h => ?_
     exact ⟨iand .u64 a_1.Bits x_9, hp, h.at (js := []) (by kernel_rfl)⟩
   · rintro a w ⟨x_6, hp, h⟩
     refine h.go ?_
     obtain rfl := some_inv' hp
     exact SC.re (js := []) tk (by kernel_rfl)

theorem ok_address_Check (F : Nat) (a_1 : T_api_Address) (r : Int) (hp : address_Check F a_1 = some r) : Spec Tryz.prog 14 [.g (C_api_Address a_1)] [] (vi .i64 r) [] := by
 refine Spec.enter Tryz.func14 rfl Tryz.ntmps14 rfl rfl fun fx => ?_
 refine SC.seq ?_
 refine SC.reg ?_
 refine SL.eff (e_box (E := 26) (C_api_Address a_1) (by kernel_rfl)) rfl (by kernel_rfl) ?_
 refine SL.sim tk 1 [(1, vp 0 0)] [] [] [] (by kernel_rfl) ?_
 refine SL.nilThen ?_
 refine SC.seq ?_
 refine SC.block ?_
 refine SC.r tk [(1, vp 0 0), (5, vb ((decide (a_1.Kind ≤ 0)) || (decide (a_1.Kind ≥ 5))))] [] [] [] (by kernel_rfl) ?_
 refine SC.if' rfl hp (fun hp => ?_) (fun hp => ?_)
 · refine SC.r tk [(2, vi .i64 12)] [] [] [] (by kernel_rfl) ?_
   obtain rfl := some_inv' hp
   exact SC.re (js := []) tk (by kernel_rfl)
 · refine SC.r tk [(1, vp 0 0), (14, vb ((shrp a_1.Bits 48) != 0))] [] [.bin .shr .u64 a_1.Bits 48 (shrp a_1.Bits 48) (by kernel_rfl)] [a_1.Bits, 48] (by kernel_rfl) ?_
   refine SC.if' rfl hp (fun hp => ?_) (fun hp => ?_)
   · refine SC.r tk [(2, vi .i64 5)] [] [] [] (by kernel_rfl) ?_
     obtain rfl := some_inv' hp
     exact SC.re (js := []) tk (by kernel_rfl)
   · refine SC.r tk [(1, vp 0 0), (19, vb (a_1.Kind == 1))] [] [] [] (by kernel_rfl) ?_
     refine SC.if' rfl hp (fun hp => ?_) (fun hp => ?_)
     · refine SC.r tk [(2, vi .i64 0)] [] [] [] (by kernel_rfl) ?_
       obtain rfl := some_inv' hp
       exact SC.re (js := []) tk (by kernel_rfl)
     · refine SC.skipThen ?_
       refine SC.seq ?_
       refine SC.reg ?_
       refine SL.sim tk 1 [(1, vp 0 0), (24, .g (C_api_Address a_1))] [] [] [] (by kernel_rfl) ?_
       obtain ⟨x_2, e_x_2, hp⟩ := bind_inv hp
       refine SL.eff (e_c Tryz.call26 (ok_address_part F a_1 _ e_x_2) [] [.g (C_api_Address a_1)] (.u [.inl (ci .u64 x_2.1), .inl (ci .i64 x_2.2)]) (by kernel_rfl) (.inl rfl)) rfl (by kernel_rfl) ?_
       refine SL.sim tk 5 [(1, vp 0 0), (3, vi .u64 x_2.1), (4, vi .i64 x_2.2)] [] [] [] (by kernel_rfl) ?_
       refine SL.nilThen ?_
       refine SC.seq ?_
       refine SC.cut (fun a w => ∃ (z_3 : Bool), address_Check_j1 F z_3 = some r ∧ A 46 0 fx [(45, vb z_3)] [] a w) ?_ ?_
       · refine SC.draw MO [true] (by kernel_rfl) fun kap_4 D_5 => ?_
         refine SD.takes tk D_5 [] kn0 [0, 1, 2, 3, 4] [.bin .shr .u64 a_1.Bits 46 (shrp a_1.Bits 46) (by kernel_rfl)] [a_1.Bits, 46] [I, I, I, I, I, O, O, O, O, O, O, O, O, O, O, O, O, O] [(3, vi .u64 x_2.1), (4, vi .i64 x_2.2), (30, vi .u64 (shrp a_1.Bits 46)), (32, vi .i64 a_1.Kind)] rfl (by kernel_rfl) (by kernel_rfl) (by kernel_rfl) ?_
         obtain ⟨x_6, e_x_6, hp⟩ := bind_inv hp
         refine SD.all1 (i := 5) (by kernel_rfl) ?_
         refine SW.eff D_5 (i := 5) (bs' := [I, I, I, I, I, I, O, O, O, O, O, O, O, O, O, O, O, O]) rfl (.inl rfl) rfl (e_gix (E := 22) (g := 0) (kk := .u64) (l := [0, 0, 3, 1, 0]) tk rfl rfl e_x_6 (by kernel_rfl)) (by kernel_rfl) rfl (by kernel_rfl) ?_
         refine SD.norm (itsN := [.blk 26 (C_api_Address a_1), .elt none false [ci .u64 x_6]]) (by kernel_rfl) ?_
         refine SD.all1 (i := 6) (by kernel_rfl) ?_
         refine SW.eff D_5 (i := 6) (v := vi .u64 x_6) (bs' := [I, I, I, I, I, I, I, O, O, O, O, O, O, O, O, O, O, O]) rfl (.inl rfl) rfl (e_val tk (by kernel_rfl)) (by kernel_rfl) rfl (by kernel_rfl) ?_
         refine SD.takes tk D_5 [] kn0 [7, 8, 9, 10, 11, 12] [] [] [I, I, I, I, I, I, I, I, I, I, I, I, I, O, O, O, O, O] [(3, vi .u64 x_2.1), (4, vi .i64 x_2.2), (40, vb (((shrp a_1.Bits 46) != x_6) || (x_2.1 == 0)))] rfl (by kernel_rfl) (by kernel_rfl) (by kernel_rfl) ?_
         rcases Bool.eq_false_or_eq_true ((((shrp a_1.Bits 46) != x_6) || (x_2.1 == 0))) with hg_7 | hg_7
         · replace hp := if_t hp hg_7
           refine SD.takes tk D_5 [(40, true)] (knS rfl hg_7 kn0) [13, 14, 15, 16, 17] [] [] [I, I, I, I, I, I, I, I, I, I, I, I, I, I, I, I, I, I] [(45, vb true)] rfl (by kernel_rfl) (by kernel_rfl) (by kernel_rfl) ?_
           refine SD.done (by kernel_rfl) fun a w h => ?_
           exact ⟨true, hp, h.at (js := []) (by kernel_rfl)⟩
         · replace hp := if_f hp hg_7
           refine SD.takes tk D_5 [(40, false)] (knS rfl hg_7 kn0) [13, 14] [] [] [I, I, I, I, I, I, I, I, I, I, I, I, I, I, I, O, O, O] [(40, vb (((shrp a_1.Bits 46) != x_6) || (x_2.1 == 0))), (41, vi .u64 x_2.1), (42, vi .i64 x_2.2)] rfl (by kernel_rfl) (by kernel_rfl) (by kernel_rfl) ?_
           obtain ⟨x_8, e_x_8, hp⟩ := bind_inv hp
           refine SD.all1 (i := 15) (by kernel_rfl) ?_
           refine SW.eff D_5 (i := 15) (bs' := [I, I, I, I, I, I, I, I, I, I, I, I, I, I, I, I, O, O]) rfl (.inr ⟨_, _, _, _, rfl, rfl, rfl, hg_7⟩) rfl (e_c Tryz.call27 (ok_address_mask F x_2.2 _ e_x_8) [] [vi .i64 x_2.2] (vi .u64 x_8) (by kernel_rfl) (.inl rfl)) (by kernel_rfl) rfl (by kernel_rfl) ?_
           refine SD.norm (itsN := [.blk 26 (C_api_Address a_1), .elt none false [ci .u64 x_6]]) (by kernel_rfl) ?_
           refine SD.takes tk D_5 [(40, false)] (knS rfl hg_7 kn0) [16, 17] [] [] [I, I, I, I, I, I, I, I, I, I, I, I, I, I, I, I, I, I] [(45, vb (x_2.1 == x_8))] rfl (by kernel_rfl) (by kernel_rfl) (by kernel_rfl) ?_
           refine SD.done (by kernel_rfl) fun a w h => ?_
           exact ⟨(x_2.1 == x_8), hp, h.at (js := []) (by kernel_rfl)⟩
       · rintro a w ⟨z_3, hp, h⟩
         refine h.go ?_
         refine SC.if' rfl hp (fun hp => ?_) (fun hp => ?_)
         · refine SC.r tk [(2, vi .i64 1)] [] [] [] (by kernel_rfl) ?_
           obtain rfl := some_inv' hp
           exact SC.re (js := []) tk (by kernel_rfl)
         · refine SC.skipThen ?_
           refine SC.r tk [(2, vi .i64 0)] [] [] [] (by kernel_rfl) ?_
           obtain rfl := some_inv' hp
           exact SC.re (js := []) tk (by kernel_rfl)

theorem ok_privacy_Resolves (F : Nat) (irk_1 : Int) (a_2 : T_api_Address) (r : Bool) (hp : privacy_Resolves F irk_1 a_2 = some r) : Spec Tryz.prog 6 [vi .u64 irk_1, .g (C_api_Address a_2)] [] (vb r) [] := by
 refine Spec.enter Tryz.func6 rfl Tryz.ntmps6 rfl rfl fun fx => ?_
 refine SC.seq ?_
 refine SC.reg ?_
 refine SL.eff (e_box (E := 26) (C_api_Address a_2) (by kernel_rfl)) rfl (by kernel_rfl) ?_
 refine SL.sim tk 1 [(0, vi .u64 irk_1), (3, vp 0 0)] [] [] [] (by kernel_rfl) ?_
 refine SL.nilThen ?_
 refine SC.seq ?_
 refine SC.seq ?_
 refine SC.reg ?_
 refine SL.sim tk 8 [(0, vi .u64 irk_1), (3, vp 0 0), (13, vb ((irk_1 == 0) || (a_2.Kind != 3)))] [] [] [] (by kernel_rfl) ?_
 obtain ⟨z_4, hz, hpr⟩ := bind_inv hp
 clear hp
 refine SL.cutAt 4 (fun a w => A 29 0 fx [(0, vi .u64 irk_1), (3, vp 0 0), (17, vb z_4)] [.blk 26 (C_api_Address a_2)] a w) ?_ ?_
 · have hp := hz
   rcases Bool.eq_false_or_eq_true (((irk_1 == 0) || (a_2.Kind != 3))) with hg_3 | hg_3
   · replace hp := if_t hp hg_3
     refine SL.no rfl rfl hg_3 rfl ?_
     refine SL.no rfl rfl hg_3 rfl ?_
     refine SL.no rfl rfl hg_3 rfl ?_
     refine SL.pickt rfl hg_3 rfl rfl ?_
     refine SL.nilJ fun a w h => ?_
     obtain rfl := some_inv' hp
     exact h.at (js := [.g 0]) (by kernel_rfl)
   · replace hp := if_f hp hg_3
     refine SL.yes rfl rfl hg_3 ?_
     refine SL.sim tk 1 [(0, vi .u64 irk_1), (3, vp 0 0), (13, vb ((irk_1 == 0) || (a_2.Kind != 3))), (14, .g (C_api_Address a_2))] [] [] [] (by kernel_rfl) ?_
     refine SL.yes rfl rfl hg_3 ?_
     obtain ⟨x_10, e_x_10, hp⟩ := bind_inv hp
     refine SL.eff (e_c Tryz.call14 (ok_address_Check F a_2 _ e_x_10) [] [.g (C_api_Address a_2)] (vi .i64 x_10) (by kernel_rfl) (.inl rfl)) rfl (by kernel_rfl) ?_
     refine SL.yes rfl rfl hg_3 ?_
     refine SL.sim tk 1 [(0, vi .u64 irk_1), (3, vp 0 0), (13, vb ((irk_1 == 0) || (a_2.Kind != 3))), (16, vb (x_10 != 0))] [] [] [] (by kernel_rfl) ?_
     refine SL.pickf rfl hg_3 rfl rfl ?_
     refine SL.nilJ fun a w h => ?_
     obtain rfl := some_inv' hp
     exact h.at (js := [.g 0]) (by kernel_rfl)
 · intro a w h
   have hp := hpr; clear hpr hz
   refine h.goL ?_
   refine SL.nilThen ?_
   refine SC.if' rfl hp (fun hp => ?_) (fun hp => ?_)
   · refine SC.r tk [(4, vb false)] [] [] [] (by kernel_rfl) ?_
     obtain rfl := some_inv' hp
     exact SC.re (js := []) tk (by kernel_rfl)
   · refine SC.skipThen ?_
     refine SC.r tk [(0, vi .u64 irk_1), (3, vp 0 0), (5, vi .u64 (iand .u64 (shrp a_2.Bits 24) 4194303))] [] [.bin .shr .u64 a_2.Bits 24 (shrp a_2.Bits 24) (by kernel_rfl)] [a_2.Bits, 24] (by kernel_rfl) ?_
     refine SC.cut (fun a w => ∃ (z_5 : Bool), privacy_Resolves_j1 F z_5 = some r ∧ A 29 0 fx [(4, vb z_5)] [] a w) ?_ ?_
     · refine SC.draw MO [true] (by kernel_rfl) fun kap_6 D_7 => ?_
       refine SD.takes tk D_7 [] kn0 [0, 1, 2, 3, 4] [] [] [I, I, I, I, I, O, O, O] [(24, vi .u64 (iand .u64 a_2.Bits 16777215)), (25, vi .u64 irk_1), (26, vi .u64 (iand .u64 (shrp a_2.Bits 24) 4194303))] rfl (by kernel_rfl) (by kernel_rfl) (by kernel_rfl) ?_
       obtain ⟨x_8, e_x_8, hp⟩ := bind_inv hp
       refine SD.all1 (i := 5) (by kernel_rfl) ?_
       refine SW.eff D_7 (i := 5) (bs' := [I, I, I, I, I, I, O, O]) rfl (.inl rfl) rfl (e_c Tryz.call15 (ok_privacy_hash F irk_1 (iand .u64 (shrp a_2.Bits 24) 4194303) _ e_x_8) [] [vi .u64 irk_1, vi .u64 (iand .u64 (shrp a_2.Bits 24) 4194303)] (vi .u64 x_8) (by kernel_rfl) (.inl rfl)) (by kernel_rfl) rfl (by kernel_rfl) ?_
       refine SD.takes tk D_7 [] kn0 [6, 7] [] [] [I, I, I, I, I, I, I, I] [(4, vb ((iand .u64 a_2.Bits 16777215) == x_8))] rfl (by kernel_rfl) (by kernel_rfl) (by kernel_rfl) ?_
       refine SD.done (by kernel_rfl) fun a w h => ?_
       exact ⟨((iand .u64 a_2.Bits 16777215) == x_8), hp, h.at (js := []) (by kernel_rfl)⟩
     · rintro a w ⟨z_5, hp, h⟩
       refine h.go ?_
       obtain rfl := some_inv' hp
       exact SC.re (js := []) tk (by kernel_rfl)

theorem ok_privacy_Find_1 (F : Nat) (id_1 : T_api_Identity) (p_2 : T_api_Address) (r : Bool × T_api_Address) (hp : privacy_Find_1 F id_1 p_2 = some r) : Spec Tryz.prog 17 [.g (C_api_Identity id_1), vp 0 0] [.blk 26 (C_api_Address p_2)] (vb r.1) [.blk 26 (C_api_Address r.2)] := by
 refine Spec.enter Tryz.func17 rfl Tryz.ntmps17 rfl rfl fun fx => ?_
 refine SC.seq ?_
 refine SC.reg ?_
 refine SL.eff (e_box (E := 28) (C_api_Identity id_1) (by kernel_rfl)) rfl (by kernel_rfl) ?_
 refine SL.sim tk 1 [(1, vp 0 0), (2, vp 1 0)] [] [] [] (by kernel_rfl) ?_
 refine SL.nilThen ?_
 refine SC.seq ?_
 refine SC.reg ?_
 refine SL.sim tk 3 [(1, vp 0 0), (2, vp 1 0), (5, .g (C_api_Address id_1.Address)), (6, .g (C_api_Address p_2))] [] [] [] (by kernel_rfl) ?_
 refine SL.eff (e_eqs tk (cs := (C_api_Address id_1.Address)) (ds := (C_api_Address p_2)) [(id_1.Address.Kind == p_2.Kind), (id_1.Address.Bits == p_2.Bits)] ((id_1.Address.Kind == p_2.Kind) && (id_1.Address.Bits == p_2.Bits)) rfl rfl (by kernel_rfl) (by kernel_rfl) (by kernel_rfl) (.inl ⟨rfl, (by kernel_rfl)⟩)) rfl (by kernel_rfl) ?_
 refine SL.sim tk 1 [(1, vp 0 0), (2, vp 1 0), (8, vb ((id_1.Address.Kind == p_2.Kind) && (id_1.Address.Bits == p_2.Bits)))] [] [] [] (by kernel_rfl) ?_
 obtain ⟨z_4, hz, hpr⟩ := bind_inv hp
 clear hp
 refine SL.cutAt 5 (fun a w => A 14 1 fx [(13, vb z_4)] [.blk 26 (C_api_Address p_2)] a w) ?_ ?_
 · have hp := hz
   rcases Bool.eq_false_or_eq_true (((id_1.Address.Kind == p_2.Kind) && (id_1.Address.Bits == p_2.Bits))) with hg_3 | hg_3
   · replace hp := if_t hp hg_3
     refine SL.no rfl rfl hg_3 rfl ?_
     refine SL.no rfl rfl hg_3 rfl ?_
     refine SL.no rfl rfl hg_3 rfl ?_
     refine SL.no rfl rfl hg_3 rfl ?_
     refine SL.pickt rfl hg_3 rfl rfl ?_
     refine SL.nilJ fun a w h => ?_
     obtain rfl := some_inv' hp
     exact h.at (js := [.g 0]) (by kernel_rfl)
   · replace hp := if_f hp hg_3
     refine SL.yes rfl rfl hg_3 ?_
     refine SL.sim tk 1 [(1, vp 0 0), (8, vb ((id_1.Address.Kind == p_2.Kind) && (id_1.Address.Bits == p_2.Bits))), (9, vp 1 2)] [] [] [] (by kernel_rfl) ?_
     refine SL.yes rfl rfl hg_3 ?_
     refine SL.sim tk 1 [(1, vp 0 0), (8, vb ((id_1.Address.Kind == p_2.Kind) && (id_1.Address.Bits == p_2.Bits))), (10, vi .u64 id_1.IRK)] [] [] [] (by kernel_rfl) ?_
     refine SL.yes rfl rfl hg_3 ?_
     refine SL.sim tk 1 [(8, vb ((id_1.Address.Kind == p_2.Kind) && (id_1.Address.Bits == p_2.Bits))), (10, vi .u64 id_1.IRK), (11, .g (C_api_Address p_2))] [] [] [] (by kernel_rfl) ?_
     refine SL.yes rfl rfl hg_3 ?_
     obtain ⟨x_6, e_x_6, hp⟩ := bind_inv hp
     refine SL.eff (e_c Tryz.call6 (ok_privacy_Resolves F id_1.IRK p_2 _ e_x_6) [] [vi .u64 id_1.IRK, .g (C_api_Address p_2)] (vb x_6) (by kernel_rfl) (.inl rfl)) rfl (by kernel_rfl) ?_
     refine SL.norm (itsN := [.blk 26 (C_api_Address p_2), .blk 28 (C_api_Identity id_1)]) (by kernel_rfl) ?_
     refine SL.pickf rfl hg_3 rfl rfl ?_
     refine SL.nilJ fun a w h => ?_
     obtain rfl := some_inv' hp
     exact h.at (js := [.g 0]) (by kernel_rfl)
 · intro a w h
   have hp := hpr; clear hpr hz
   refine h.goL ?_
   refine SL.sim tk 1 [(3, vb z_4)] [] [] [] (by kernel_rfl) ?_
   refine SL.nilThen ?_
   obtain rfl := some_inv' hp
   exact SC.re (js := [.g 0]) tk (by kernel_rfl)

theorem ok_slices_IndexFunc_api_Identity_api_Identity_at17 (F : Nat) (s_1 : (List T_api_Identity)) (c_2 : T_api_Address) (r : Int × T_api_Address) (hp : slices_IndexFunc_api_Identity_api_Identity_at17 F s_1 c_2 = some r) : Spec Tryz.prog 16 [vs 0, .f 17 [.p 1 0]] [.rd 3 R_T_api_Identity s_1, .blk 26 (C_api_Address c_2)] (vi .i64 r.1) [.gone, .blk 26 (C_api_Address r.2)] := by
 refine Spec.enter Tryz.func16 rfl Tryz.ntmps16 rfl rfl fun fx => ?_
 refine SC.r tk [(0, vs 0), (1, .f 17 [.p 1 0])] [] [] [] (by kernel_rfl) ?_
 refine SC.cut (fun a w => ∃ (c_5 : T_api_Address), slices_IndexFunc_api_Identity_api_Identity_at17_j1 F c_5 = some r ∧ A 19 2 fx [] [.gone, .blk 26 (C_api_Address c_5)] a w) ?_ ?_
 · refine SC.r tk [(0, vs 0), (1, .f 17 [.p 1 0]), (7, vi .i64 (len s_1)), (8, vi .i64 0)] [] [] [] (by kernel_rfl) ?_
   refine SC.block ?_
   obtain ⟨o1, hi1, ho1⟩ := bind_inv hp
   clear hp
   refine SC.loop (fun n a w => ∃ (c_8 : T_api_Address) (x_9 : Int), iter (fun s => slices_IndexFunc_api_Identity_api_Identity_at17_l1 F s_1 s.1 s.2) n (c_8, x_9) = some o1 ∧ A 19 2 fx [(0, vs 0), (1, .f 17 [.p 1 0]), (7, vi .i64 (len s_1)), (8, vi .i64 x_9)] [.rd 3 R_T_api_Identity s_1, .blk 26 (C_api_Address c_8)] a w) F (fun a w h => ⟨c_2, 0, hi1, h.at (js := [.g 0, .g 1]) (by kernel_rfl)⟩) ?_
   rintro n1 a w ⟨c_8, x_9, hi1, h⟩
   obtain ⟨n1, q1, rfl, hp, hs1⟩ := iter_inv hi1
   replace hp : slices_IndexFunc_api_Identity_api_Identity_at17_l1 F s_1 c_8 x_9 = some q1 := hp
   clear hi1
   refine h.go ?_
   refine SC.r tk [(0, vs 0), (1, .f 17 [.p 1 0]), (7, vi .i64 (len s_1)), (8, vi .i64 x_9), (9, vb (decide (x_9 < (len s_1))))] [] [] [] (by kernel_rfl) ?_
   refine SC.seq ?_
   refine SC.if' rfl hp (fun hp => ?_) (fun hp => ?_)
   · refine SC.skipThen ?_
     refine SC.seq ?_
     refine SC.block ?_
     refine SC.r tk [(0, vs 0), (1, .f 17 [.p 1 0]), (5, vi .i64 x_9), (7, vi .i64 (len s_1)), (8, vi .i64 x_9)] [] [] [] (by kernel_rfl) ?_
     refine SC.seq ?_
     refine SC.reg ?_
     obtain ⟨x_10, e_x_10, hp⟩ := bind_inv hp
     refine SL.pre (pre_ix (i := 0) (iv := x_9) (sz := 3) (R := R_T_api_Identity) (l := s_1) (by kernel_rfl) rfl e_x_10) ?_
     refine SL.sim tk 5 [(0, vs 0), (1, .f 17 [.p 1 0]), (5, vi .i64 x_9), (7, vi .i64 (len s_1)), (8, vi .i64 x_9), (11, .f 17 [.p 1 0]), (15, .g (C_api_Identity x_10))] [] [.el 2] [x_9] (by kernel_rfl) ?_
     obtain ⟨x_11, e_x_11, hp⟩ := bind_inv hp
     refine SL.eff (e_c Tryz.call17 (ok_privacy_Find_1 F x_10 c_8 _ e_x_11) [.g 1] [.g (C_api_Identity x_10), vp 1 0] (vb x_11.1) (by kernel_rfl) (.inl rfl)) rfl (by kernel_rfl) ?_
     refine SL.nilThen ?_
     refine SC.if' rfl hp (fun hp => ?_) (fun hp => ?_)
     · refine SC.r tk [(4, vi .i64 x_9)] [] [] [] (by kernel_rfl) ?_
       have ho := done_inv hp hs1
       replace hp := ho1
       try rw [ho] at hp
       obtain rfl := some_inv' hp
       exact SC.re (js := [.g 0, .g 1]) tk (by kernel_rfl)
     · refine SC.skipThen ?_
       refine SC.reg ?_
       refine SL.sim tk 2 [(0, vs 0), (1, .f 17 [.p 1 0]), (7, vi .i64 (len s_1)), (8, vi .i64 (w64 (x_9 + 1)))] [] [] [] (by kernel_rfl) ?_
       refine SL.nilJ fun a w h => ?_
       exact ⟨n1, Nat.lt_succ_self _, x_11.2, w64 (x_9 + 1), next_inv hp hs1, h.at (js := [.g 0, .g 1]) (by kernel_rfl)⟩
   · refine SC.exitJ rfl fun a w h => ?_
     have ho := done_inv hp hs1
     replace hp := ho1
     try rw [ho] at hp
     exact ⟨c_8, hp, h.at (js := [.g 0, .g 1]) (by kernel_rfl)⟩
 · rintro a w ⟨c_5, hp, h⟩
   refine h.go ?_
   refine SC.r tk [(4, vi .i64 (-1))] [] [] [] (by kernel_rfl) ?_
   obtain rfl := some_inv' hp
   exact SC.re (js := [.g 0, .g 1]) tk (by kernel_rfl)

theorem ok_privacy_Find (F : Nat) (list_1 : (List T_api_Identity)) (a_2 : T_api_Address) (r : Int) (hp : privacy_Find F list_1 a_2 = some r) : Spec Tryz.prog 7 [vs 0, .g (C_api_Address a_2)] [.rd 3 R_T_api_Identity list_1] (vi .i64 r) [.gone] := by
 refine Spec.enter Tryz.func7 rfl Tryz.ntmps7 rfl rfl fun fx => ?_
 refine SC.seq ?_
 refine SC.reg ?_
 refine SL.eff (e_box (E := 26) (C_api_Address a_2) (by kernel_rfl)) rfl (by kernel_rfl) ?_
 refine SL.sim tk 1 [(0, vs 0), (3, vp 1 0)] [] [] [] (by kernel_rfl) ?_
 refine SL.nilThen ?_
 refine SC.seq ?_
 refine SC.seq ?_
 refine SC.reg ?_
 refine SL.sim tk 1 [(0, vs 0), (3, vp 1 0), (5, .g (C_api_Address a_2))] [] [] [] (by kernel_rfl) ?_
 obtain ⟨x_3, e_x_3, hp⟩ := bind_inv hp
 refine SL.eff (e_c Tryz.call14 (ok_address_Check F a_2 _ e_x_3) [] [.g (C_api_Address a_2)] (vi .i64 x_3) (by kernel_rfl) (.inl rfl)) rfl (by kernel_rfl) ?_
 refine SL.sim tk 1 [(0, vs 0), (3, vp 1 0), (7, vb (x_3 != 0))] [] [] [] (by kernel_rfl) ?_
 refine SL.nilThen ?_
 refine SC.if' rfl hp (fun hp => ?_) (fun hp => ?_)
 · refine SC.r tk [(4, vi .i64 (-1))] [] [] [] (by kernel_rfl) ?_
   obtain rfl := some_inv' hp
   exact SC.re (js := [.g 0]) tk (by kernel_rfl)
 · refine SC.skipThen ?_
   refine SC.seq ?_
   refine SC.reg ?_
   refine SL.sim tk 2 [(8, vs 0), (9, .f 17 [.p 1 0])] [] [] [] (by kernel_rfl) ?_
   obtain ⟨x_4, e_x_4, hp⟩ := bind_inv hp
   refine SL.eff (e_c Tryz.call16 (ok_slices_IndexFunc_api_Identity_api_Identity_at17 F list_1 a_2 _ e_x_4) [.g 0, .g 1] [vs 0, .f 17 [.p 1 0]] (vi .i64 x_4.1) (by kernel_rfl) (.inl rfl)) rfl (by kernel_rfl) ?_
   refine SL.norm (itsN := [.rd 3 R_T_api_Identity list_1, .blk 26 (C_api_Address x_4.2)]) (by kernel_rfl) ?_
   refine SL.sim tk 1 [(4, vi .i64 x_4.1)] [] [] [] (by kernel_rfl) ?_
   refine SL.nilThen ?_
   obtain rfl := some_inv' hp
   exact SC.re (js := [.g 0]) tk (by kernel_rfl)

end V
end Go.Proofs.YtladkmnfmpojiaaGreatDoor
