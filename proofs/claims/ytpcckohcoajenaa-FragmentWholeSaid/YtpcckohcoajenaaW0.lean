/-
  Walks, written by program: each Go function returns what its pure twin says.
-/
import Derived.Test.YtpcckohcoajenaaRep
namespace Go.Proofs.Ytpcckohcoajenaa
namespace V
theorem ok_octets_sized (F : Nat) (n_1 : Int) (r : Bool) (hp : octets_sized F n_1 = some r) : Spec Try.prog 36 [vi .i64 n_1] [] (vb r) [] := by
 refine Spec.enter Try.func36 rfl Try.ntmps36 rfl rfl fun fx => ?_
 refine SC.r tk [(0, vi .i64 n_1)] [] [] [] (by kernel_rfl) ?_
 refine SC.r tk [(2, vb ((decide (n_1 ≥ 1)) && (decide (n_1 ≤ 8))))] [] [] [] (by kernel_rfl) ?_
 obtain rfl := some_inv' hp
 exact SC.re (js := []) tk (by kernel_rfl)

theorem ok_octets_Put (F : Nat) (fields_1 : (List T_api_Field)) (r : (List Int) × Int) (hp : octets_Put F fields_1 = some r) : Spec Try.prog 25 [vs 0] [.rd 2 R_T_api_Field fields_1] (.u [.inl (.s 1), .inl (ci .i64 r.2)]) [.gone, .rd 1 R8 r.1] := by
 refine Spec.enter Try.func25 rfl Try.ntmps25 rfl rfl fun fx => ?_
 refine SC.r tk [(0, vs 0)] [] [] [] (by kernel_rfl) ?_
 refine SC.r tk [(0, vs 0), (4, vn)] [] [] [] (by kernel_rfl) ?_
 refine SC.cut (fun a w => ∃ (l_2 : (List Int)), octets_Put_j1 F l_2 = some r ∧ A 49 1 fx [(4, vs 1)] [.gone, .own 1 5 R8 l_2] a w) ?_ ?_
 · refine SC.r tk [(4, vn), (8, vs 0), (9, vi .i64 (len fields_1)), (10, vi .i64 0)] [] [] [] (by kernel_rfl) ?_
   refine SC.block ?_
   obtain ⟨o1, hi1, ho1⟩ := bind_inv hp
   clear hp
   refine SC.loop (fun n a w => ∃ (l_3 : (List Int)) (x_4 : Int), iter (fun s => octets_Put_l1 F fields_1 s.1 s.2) n (l_3, x_4) = some o1 ∧ A 49 1 fx [(4, vs 1), (8, vs 0), (9, vi .i64 (len fields_1)), (10, vi .i64 x_4)] [.rd 2 R_T_api_Field fields_1, .own 1 5 R8 l_3] a w) F (fun a w h => ⟨[], 0, hi1, h.at (js := [.g 0, .n]) (by kernel_rfl)⟩) ?_
   rintro n1 a w ⟨l_3, x_4, hi1, h⟩
   obtain ⟨n1, q1, rfl, hp, hs1⟩ := iter_inv hi1
   replace hp : octets_Put_l1 F fields_1 l_3 x_4 = some q1 := hp
   clear hi1
   refine h.go ?_
   refine SC.r tk [(4, vs 1), (8, vs 0), (9, vi .i64 (len fields_1)), (10, vi .i64 x_4), (11, vb (decide (x_4 < (len fields_1))))] [] [] [] (by kernel_rfl) ?_
   refine SC.seq ?_
   refine SC.if' rfl hp (fun hp => ?_) (fun hp => ?_)
   · refine SC.skipThen ?_
     refine SC.cut (fun a w => ∃ (l_5 : (List Int)), octets_Put_j2 F x_4 l_5 = some q1 ∧ A 49 1 fx [(4, vs 1), (8, vs 0), (9, vi .i64 (len fields_1)), (10, vi .i64 x_4)] [.rd 2 R_T_api_Field fields_1, .own 1 5 R8 l_5] a w) ?_ ?_
     · refine SC.block ?_
       refine SC.seq ?_
       refine SC.reg ?_
       obtain ⟨x_6, e_x_6, hp⟩ := bind_inv hp
       refine SL.pre (pre_ix (i := 0) (iv := x_4) (sz := 2) (R := R_T_api_Field) (l := fields_1) (by kernel_rfl) rfl e_x_6) ?_
       refine SL.sim tk 2 [(4, vs 1), (8, vs 0), (9, vi .i64 (len fields_1)), (10, vi .i64 x_4), (13, .g (C_api_Field x_6))] [] [.el 2] [x_4] (by kernel_rfl) ?_
       refine SL.eff (e_alloc (E := 58) tk [ci .i64 0, ci .u64 0] (by kernel_rfl)) rfl (by kernel_rfl) ?_
       refine SL.sim tk 1 [(4, vs 1), (6, vp 3 0), (8, vs 0), (9, vi .i64 (len fields_1)), (10, vi .i64 x_4)] [(3, 58, (C_api_Field x_6))] [] [] (by kernel_rfl) ?_
       refine SL.nilThen ?_
       refine SC.seq ?_
       refine SC.seq ?_
       refine SC.reg ?_
       refine SL.sim tk 2 [(4, vs 1), (6, vp 3 0), (8, vs 0), (9, vi .i64 (len fields_1)), (10, vi .i64 x_4), (15, vi .i64 x_6.Size)] [] [] [] (by kernel_rfl) ?_
       obtain ⟨x_7, e_x_7, hp⟩ := bind_inv hp
       refine SL.eff (e_c Try.call36 (ok_octets_sized F x_6.Size _ e_x_7) [] [vi .i64 x_6.Size] (vb x_7) (by kernel_rfl) (.inl rfl)) rfl (by kernel_rfl) ?_
       refine SL.norm (itsN := [.rd 2 R_T_api_Field fields_1, .own 1 5 R8 l_3, .elt (some (0, x_4)) false (C_api_Field x_6), .blk 58 (C_api_Field x_6)]) (by kernel_rfl) ?_
       refine SL.sim tk 2 [(4, vs 1), (6, vp 3 0), (8, vs 0), (9, vi .i64 (len fields_1)), (10, vi .i64 x_4), (18, vb (!x_7))] [] [] [] (by kernel_rfl) ?_
       obtain ⟨z_9, hz, hpr⟩ := bind_inv hp
       clear hp
       refine SL.cutAt 13 (fun a w => A 49 1 fx [(4, vs 1), (6, vp 2 0), (8, vs 0), (9, vi .i64 (len fields_1)), (10, vi .i64 x_4), (31, vb z_9)] [.rd 2 R_T_api_Field fields_1, .own 1 5 R8 l_3, .blk 58 (C_api_Field x_6)] a w) ?_ ?_
       · have hp := hz
         rcases Bool.eq_false_or_eq_true ((!x_7)) with hg_8 | hg_8
         · replace hp := if_t hp hg_8
           refine SL.no rfl rfl hg_8 rfl ?_
           refine SL.no rfl rfl hg_8 rfl ?_
           refine SL.no rfl rfl hg_8 rfl ?_
           refine SL.no rfl rfl hg_8 rfl ?_
           refine SL.noU rfl rfl rfl ?_
           refine SL.noU rfl rfl rfl ?_
           refine SL.noU rfl rfl rfl ?_
           refine SL.noU rfl rfl rfl ?_
           refine SL.noU rfl rfl rfl ?_
           refine SL.noU rfl rfl rfl ?_
           refine SL.noU rfl rfl rfl ?_
           refine SL.no rfl rfl hg_8 rfl ?_
           refine SL.pickt rfl hg_8 rfl rfl ?_
           refine SL.nilJ fun a w h => ?_
           obtain rfl := some_inv' hp
           exact h.at (js := [.g 0, .g 1, .g 3]) (by kernel_rfl)
         · replace hp := if_f hp hg_8
           refine SL.yes rfl rfl hg_8 ?_
           refine SL.sim tk 1 [(4, vs 1), (6, vp 3 0), (8, vs 0), (9, vi .i64 (len fields_1)), (10, vi .i64 x_4), (18, vb (!x_7)), (19, vp 3 0)] [] [] [] (by kernel_rfl) ?_
           refine SL.yes rfl rfl hg_8 ?_
           refine SL.sim tk 1 [(4, vs 1), (6, vp 3 0), (8, vs 0), (9, vi .i64 (len fields_1)), (10, vi .i64 x_4), (18, vb (!x_7)), (19, vp 3 0), (20, vi .i64 x_6.Size)] [] [] [] (by kernel_rfl) ?_
           refine SL.yes rfl rfl hg_8 ?_
           refine SL.sim tk 1 [(4, vs 1), (6, vp 3 0), (8, vs 0), (9, vi .i64 (len fields_1)), (10, vi .i64 x_4), (18, vb (!x_7)), (19, vp 3 0), (20, vi .i64 x_6.Size), (21, vb (decide (x_6.Size < 8)))] [] [] [] (by kernel_rfl) ?_
           refine SL.yes rfl rfl hg_8 ?_
           refine SL.sim tk 1 [(4, vs 1), (6, vp 3 0), (8, vs 0), (9, vi .i64 (len fields_1)), (10, vi .i64 x_4), (18, vb (!x_7)), (19, vp 3 0), (20, vi .i64 x_6.Size), (21, vb (decide (x_6.Size < 8))), (22, vb (decide (x_6.Size < 8)))] [] [] [] (by kernel_rfl) ?_
           rcases Bool.eq_false_or_eq_true (decide (x_6.Size < 8)) with hg_15 | hg_15
           · replace hp := if_t hp hg_15
             refine SL.yes rfl rfl hg_15 ?_
             refine SL.sim tk 1 [(4, vs 1), (6, vp 3 0), (8, vs 0), (9, vi .i64 (len fields_1)), (10, vi .i64 x_4), (18, vb (!x_7)), (19, vp 3 0), (20, vi .i64 x_6.Size), (21, vb (decide (x_6.Size < 8))), (22, vb (decide (x_6.Size < 8))), (23, vp 3 1)] [] [] [] (by kernel_rfl) ?_
             refine SL.yes rfl rfl hg_15 ?_
             refine SL.sim tk 1 [(4, vs 1), (6, vp 3 0), (8, vs 0), (9, vi .i64 (len fields_1)), (10, vi .i64 x_4), (18, vb (!x_7)), (19, vp 3 0), (20, vi .i64 x_6.Size), (21, vb (decide (x_6.Size < 8))), (22, vb (decide (x_6.Size < 8))), (23, vp 3 1), (24, vi .u64 x_6.Value)] [] [] [] (by kernel_rfl) ?_
             refine SL.yes rfl rfl hg_15 ?_
             refine SL.sim tk 1 [(4, vs 1), (6, vp 3 0), (8, vs 0), (9, vi .i64 (len fields_1)), (10, vi .i64 x_4), (18, vb (!x_7)), (19, vp 3 0), (20, vi .i64 x_6.Size), (21, vb (decide (x_6.Size < 8))), (22, vb (decide (x_6.Size < 8))), (23, vp 3 1), (24, vi .u64 x_6.Value), (25, vp 3 0)] [] [] [] (by kernel_rfl) ?_
             refine SL.yes rfl rfl hg_15 ?_
             refine SL.sim tk 1 [(4, vs 1), (6, vp 3 0), (8, vs 0), (9, vi .i64 (len fields_1)), (10, vi .i64 x_4), (18, vb (!x_7)), (19, vp 3 0), (20, vi .i64 x_6.Size), (21, vb (decide (x_6.Size < 8))), (22, vb (decide (x_6.Size < 8))), (23, vp 3 1), (24, vi .u64 x_6.Value), (25, vp 3 0), (26, vi .i64 x_6.Size)] [] [] [] (by kernel_rfl) ?_
             refine SL.yes rfl rfl hg_15 ?_
             refine SL.sim tk 1 [(4, vs 1), (6, vp 3 0), (8, vs 0), (9, vi .i64 (len fields_1)), (10, vi .i64 x_4), (18, vb (!x_7)), (19, vp 3 0), (20, vi .i64 x_6.Size), (21, vb (decide (x_6.Size < 8))), (22, vb (decide (x_6.Size < 8))), (23, vp 3 1), (24, vi .u64 x_6.Value), (25, vp 3 0), (26, vi .i64 x_6.Size), (27, vi .i64 (w64 (8 * x_6.Size)))] [] [] [] (by kernel_rfl) ?_
             refine SL.yes rfl rfl hg_15 ?_
             obtain ⟨x_16, e_x_16, hp⟩ := bind_inv hp
             refine SL.sim tk 1 [(4, vs 1), (6, vp 3 0), (8, vs 0), (9, vi .i64 (len fields_1)), (10, vi .i64 x_4), (18, vb (!x_7)), (19, vp 3 0), (20, vi .i64 x_6.Size), (21, vb (decide (x_6.Size < 8))), (22, vb (decide (x_6.Size < 8))), (23, vp 3 1), (24, vi .u64 x_6.Value), (25, vp 3 0), (26, vi .i64 x_6.Size), (27, vi .i64 (w64 (8 * x_6.Size))), (28, vi .u64 x_16)] [] [.bin .shr .u64 x_6.Value (w64 (8 * x_6.Size)) x_16 e_x_16] [x_6.Value, w64 (8 * x_6.Size)] (by kernel_rfl) ?_
             refine SL.yes rfl rfl hg_15 ?_
             refine SL.sim tk 1 [(4, vs 1), (6, vp 3 0), (8, vs 0), (9, vi .i64 (len fields_1)), (10, vi .i64 x_4), (18, vb (!x_7)), (19, vp 3 0), (20, vi .i64 x_6.Size), (21, vb (decide (x_6.Size < 8))), (22, vb (decide (x_6.Size < 8))), (23, vp 3 1), (24, vi .u64 x_6.Value), (25, vp 3 0), (26, vi .i64 x_6.Size), (27, vi .i64 (w64 (8 * x_6.Size))), (28, vi .u64 x_16), (29, vb (x_16 != 0))] [] [] [] (by kernel_rfl) ?_
             refine SL.yes rfl rfl hg_8 ?_
             refine SL.pickt rfl hg_15 rfl rfl ?_
             refine SL.pickf rfl hg_8 rfl rfl ?_
             refine SL.nilJ fun a w h => ?_
             obtain rfl := some_inv' hp
             exact h.at (js := [.g 0, .g 1, .g 3]) (by kernel_rfl)
           · replace hp := if_f hp hg_15
             refine SL.no rfl rfl hg_15 rfl ?_
             refine SL.no rfl rfl hg_15 rfl ?_
             refine SL.no rfl rfl hg_15 rfl ?_
             refine SL.no rfl rfl hg_15 rfl ?_
             refine SL.no rfl rfl hg_15 rfl ?_
             refine SL.no rfl rfl hg_15 rfl ?_
             refine SL.no rfl rfl hg_15 rfl ?_
             refine SL.yes rfl rfl hg_8 ?_
             refine SL.pickf rfl hg_15 rfl rfl ?_
             refine SL.pickf rfl hg_8 rfl rfl ?_
             refine SL.nilJ fun a w h => ?_
             obtain rfl := some_inv' hp
             exact h.at (js := [.g 0, .g 1, .g 3]) (by kernel_rfl)
       · intro a w h
         have hp := hpr; clear hpr hz
         refine h.goL ?_
         refine SL.nilThen ?_
         refine SC.if' rfl hp (fun hp => ?_) (fun hp => ?_)
         · refine SC.r tk [(2, vn), (3, vi .i64 5)] [] [] [] (by kernel_rfl) ?_
           have ho := done_inv hp hs1
           replace hp := ho1
           try rw [ho] at hp
           obtain rfl := some_inv' hp
           exact SC.re (js := [.g 0, .n]) tk (by kernel_rfl)
         · refine SC.skipThen ?_
           refine SC.r tk [(4, vs 1), (6, vp 2 0), (8, vs 0), (9, vi .i64 (len fields_1)), (10, vi .i64 x_4), (33, vi .i64 x_6.Size), (34, vi .i64 0)] [] [] [] (by kernel_rfl) ?_
           refine SC.block ?_
           obtain ⟨o2, hi2, ho2⟩ := bind_inv hp
           clear hp
           refine SC.loop (fun n a w => ∃ (l_10 : (List Int)) (x_11 : Int), iter (fun s => octets_Put_l2 F x_6 s.1 s.2) n (l_10, x_11) = some o2 ∧ A 49 1 fx [(4, vs 1), (6, vp 2 0), (8, vs 0), (9, vi .i64 (len fields_1)), (10, vi .i64 x_4), (33, vi .i64 x_6.Size), (34, vi .i64 x_11)] [.rd 2 R_T_api_Field fields_1, .own 1 5 R8 l_10, .blk 58 (C_api_Field x_6)] a w) F (fun a w h => ⟨l_3, 0, hi2, h.at (js := [.g 0, .g 1, .g 2]) (by kernel_rfl)⟩) ?_
           rintro n2 a w ⟨l_10, x_11, hi2, h⟩
           obtain ⟨n2, q2, rfl, hp, hs2⟩ := iter_inv hi2
           replace hp : octets_Put_l2 F x_6 l_10 x_11 = some q2 := hp
           clear hi2
           refine h.go ?_
           refine SC.r tk [(4, vs 1), (6, vp 2 0), (8, vs 0), (9, vi .i64 (len fields_1)), (10, vi .i64 x_4), (33, vi .i64 x_6.Size), (34, vi .i64 x_11), (35, vb (decide (x_11 < x_6.Size)))] [] [] [] (by kernel_rfl) ?_
           refine SC.seq ?_
           refine SC.if' rfl hp (fun hp => ?_) (fun hp => ?_)
           · refine SC.skipThen ?_
             refine SC.seq ?_
             refine SC.block ?_
             refine SC.r tk [(4, vs 1), (6, vp 2 0), (7, vi .i64 x_11), (8, vs 0), (9, vi .i64 (len fields_1)), (10, vi .i64 x_4), (33, vi .i64 x_6.Size), (34, vi .i64 x_11)] [] [] [] (by kernel_rfl) ?_
             refine SC.reg ?_
             obtain ⟨x_12, e_x_12, hp⟩ := bind_inv hp
             refine SL.sim tk 7 [(4, vs 1), (6, vp 2 0), (8, vs 0), (9, vi .i64 (len fields_1)), (10, vi .i64 x_4), (33, vi .i64 x_6.Size), (34, vi .i64 x_11), (37, vs 1), (43, vi .u8 (wu8 x_12))] [] [.bin .shr .u64 x_6.Value (w64 (8 * x_11)) x_12 e_x_12] [x_6.Value, w64 (8 * x_11)] (by kernel_rfl) ?_
             refine SL.eff (e_lit (sz := 1) (E := 5) (R := R8) (by_ := 1) tk [[ci .u8 (wu8 x_12)]] [wu8 x_12] (by kernel_rfl) ⟨Clo.int, trivial⟩ rfl (by kernel_rfl) (by kernel_rfl)) rfl (by kernel_rfl) ?_
             obtain ⟨l_13, e_l_13, hp⟩ := bind_inv hp
             refine SL.eff (e_app (i := 1) (l := l_10) (sz := 1) (E := 5) (R := R8) (by_ := 1) (m := [wu8 x_12]) tk rfl (by kernel_rfl) rfl (.o 5 (by kernel_rfl)) e_l_13 (by kernel_rfl)) rfl (by kernel_rfl) ?_
             refine SL.sim tk 1 [(4, vs 4), (6, vp 2 0), (8, vs 0), (9, vi .i64 (len fields_1)), (10, vi .i64 x_4), (33, vi .i64 x_6.Size), (34, vi .i64 x_11)] [] [] [] (by kernel_rfl) ?_
             refine SL.nilThen ?_
             refine SC.reg ?_
             refine SL.sim tk 2 [(4, vs 4), (6, vp 2 0), (8, vs 0), (9, vi .i64 (len fields_1)), (10, vi .i64 x_4), (33, vi .i64 x_6.Size), (34, vi .i64 (w64 (x_11 + 1)))] [] [] [] (by kernel_rfl) ?_
             refine SL.nilJ fun a w h => ?_
             exact ⟨n2, Nat.lt_succ_self _, l_13, w64 (x_11 + 1), next_inv hp hs2, h.at (js := [.g 0, .g 4, .g 2]) (by kernel_rfl)⟩
           · refine SC.exitJ rfl fun a w h => ?_
             have ho := done_inv hp hs2
             replace hp := ho2
             try rw [ho] at hp
             exact ⟨l_10, hp, h.at (js := [.g 0, .g 1]) (by kernel_rfl)⟩
     · rintro a w ⟨l_5, hp, h⟩
       refine h.go ?_
       refine SC.reg ?_
       refine SL.sim tk 2 [(4, vs 1), (8, vs 0), (9, vi .i64 (len fields_1)), (10, vi .i64 (w64 (x_4 + 1)))] [] [] [] (by kernel_rfl) ?_
       refine SL.nilJ fun a w h => ?_
       exact ⟨n1, Nat.lt_succ_self _, l_5, w64 (x_4 + 1), next_inv hp hs1, h.at (js := [.g 0, .g 1]) (by kernel_rfl)⟩
   · refine SC.exitJ rfl fun a w h => ?_
     have ho := done_inv hp hs1
     replace hp := ho1
     try rw [ho] at hp
     exact ⟨l_3, hp, h.at (js := [.g 0, .g 1]) (by kernel_rfl)⟩
 · rintro a w ⟨l_2, hp, h⟩
   refine h.go ?_
   refine SC.r tk [(2, vs 1), (3, vi .i64 0)] [] [] [] (by kernel_rfl) ?_
   obtain rfl := some_inv' hp
   exact SC.re (js := [.g 0, .z 1]) tk (by kernel_rfl)

theorem ok_octets_Join (F : Nat) (parts_1 : (List (List Int))) (r : (List Int)) (hp : octets_Join F parts_1 = some r) : Spec Try.prog 26 [vs 0] [.rd 1 (RSl 1 R8) parts_1] (vs 1) [.gone, .rd 1 R8 r] := by
 refine Spec.enter Try.func26 rfl Try.ntmps26 rfl rfl fun fx => ?_
 refine SC.r tk [(0, vs 0)] [] [] [] (by kernel_rfl) ?_
 refine SC.r tk [(0, vs 0), (3, vn)] [] [] [] (by kernel_rfl) ?_
 refine SC.cut (fun a w => ∃ (l_2 : (List Int)), octets_Join_j1 F l_2 = some r ∧ A 17 1 fx [(3, vs 1)] [.gone, .own 1 5 R8 l_2] a w) ?_ ?_
 · refine SC.r tk [(3, vn), (6, vs 0), (7, vi .i64 (len parts_1)), (8, vi .i64 0)] [] [] [] (by kernel_rfl) ?_
   refine SC.block ?_
   obtain ⟨o1, hi1, ho1⟩ := bind_inv hp
   clear hp
   refine SC.loop (fun n a w => ∃ (l_3 : (List Int)) (x_4 : Int), iter (fun s => octets_Join_l1 F parts_1 s.1 s.2) n (l_3, x_4) = some o1 ∧ A 17 1 fx [(3, vs 1), (6, vs 0), (7, vi .i64 (len parts_1)), (8, vi .i64 x_4)] [.rd 1 (RSl 1 R8) parts_1, .own 1 5 R8 l_3] a w) F (fun a w h => ⟨[], 0, hi1, h.at (js := [.g 0, .n]) (by kernel_rfl)⟩) ?_
   rintro n1 a w ⟨l_3, x_4, hi1, h⟩
   obtain ⟨n1, q1, rfl, hp, hs1⟩ := iter_inv hi1
   replace hp : octets_Join_l1 F parts_1 l_3 x_4 = some q1 := hp
   clear hi1
   refine h.go ?_
   refine SC.r tk [(3, vs 1), (6, vs 0), (7, vi .i64 (len parts_1)), (8, vi .i64 x_4), (9, vb (decide (x_4 < (len parts_1))))] [] [] [] (by kernel_rfl) ?_
   refine SC.seq ?_
   refine SC.if' rfl hp (fun hp => ?_) (fun hp => ?_)
   · refine SC.skipThen ?_
     refine SC.seq ?_
     refine SC.block ?_
     obtain ⟨x_5, e_x_5, hp⟩ := bind_inv hp
     refine SC.pre (pre_ix (i := 0) (iv := x_4) (sz := 1) (R := (RSl 1 R8)) (l := parts_1) (by kernel_rfl) rfl e_x_5) ?_
     refine SC.r tk [(3, vs 1), (5, vs 3), (6, vs 0), (7, vi .i64 (len parts_1)), (8, vi .i64 x_4)] [] [.el 2] [x_4] (by kernel_rfl) ?_
     refine SC.reg ?_
     refine SL.sim tk 2 [(3, vs 1), (6, vs 0), (7, vi .i64 (len parts_1)), (8, vi .i64 x_4), (12, vs 1), (13, vs 3)] [] [] [] (by kernel_rfl) ?_
     obtain ⟨l_6, e_l_6, hp⟩ := bind_inv hp
     refine SL.eff (e_app (i := 1) (l := l_3) (sz := 1) (E := 5) (R := R8) (by_ := 1) (m := x_5) tk rfl (by kernel_rfl) rfl (.r (by kernel_rfl)) e_l_6 (by kernel_rfl)) rfl (by kernel_rfl) ?_
     refine SL.sim tk 1 [(3, vs 4), (6, vs 0), (7, vi .i64 (len parts_1)), (8, vi .i64 x_4)] [] [] [] (by kernel_rfl) ?_
     refine SL.nilThen ?_
     refine SC.reg ?_
     refine SL.sim tk 2 [(3, vs 4), (6, vs 0), (7, vi .i64 (len parts_1)), (8, vi .i64 (w64 (x_4 + 1)))] [] [] [] (by kernel_rfl) ?_
     refine SL.nilJ fun a w h => ?_
     exact ⟨n1, Nat.lt_succ_self _, l_6, w64 (x_4 + 1), next_inv hp hs1, h.at (js := [.g 0, .g 4]) (by kernel_rfl)⟩
   · refine SC.exitJ rfl fun a w h => ?_
     have ho := done_inv hp hs1
     replace hp := ho1
     try rw [ho] at hp
     exact ⟨l_3, hp, h.at (js := [.g 0, .g 1]) (by kernel_rfl)⟩
 · rintro a w ⟨l_2, hp, h⟩
   refine h.go ?_
   refine SC.r tk [(2, vs 1)] [] [] [] (by kernel_rfl) ?_
   obtain rfl := some_inv' hp
   exact SC.re (js := [.g 0, .z 1]) tk (by kernel_rfl)

theorem ok_fragment_Encode (F : Nat) (f_1 : T_api_Frame) (r : (List Int) × Int) (hp : fragment_Encode F f_1 = some r) : Spec Try.prog 11 [.g [ci .u16 f_1.CID, .s 0]] [.rd 1 R8 f_1.Payload] (.u [.inl (.s 1), .inl (ci .i64 r.2)]) [.gone, .rd 1 R8 r.1] := by
 refine Spec.enter Try.func11 rfl Try.ntmps11 rfl rfl fun fx => ?_
 refine SC.seq ?_
 refine SC.reg ?_
 refine SL.eff (e_box (E := 25) [ci .u16 f_1.CID, .s 0] (by kernel_rfl)) rfl (by kernel_rfl) ?_
 refine SL.sim tk 2 [(1, vp 1 0)] [] [] [] (by kernel_rfl) ?_
 refine SL.nilThen ?_
 refine SC.seq ?_
 refine SC.block ?_
 refine SC.r tk [(1, vp 1 0), (6, vb (f_1.CID == 0))] [] [] [] (by kernel_rfl) ?_
 refine SC.if' rfl hp (fun hp => ?_) (fun hp => ?_)
 · refine SC.r tk [(2, vn), (3, vi .i64 1)] [] [] [] (by kernel_rfl) ?_
   obtain rfl := some_inv' hp
   exact SC.re (js := [.g 0, .n]) tk (by kernel_rfl)
 · refine SC.r tk [(1, vp 1 0), (10, vb (decide ((len f_1.Payload) > 65531)))] [] [] [] (by kernel_rfl) ?_
   refine SC.if' rfl hp (fun hp => ?_) (fun hp => ?_)
   · refine SC.r tk [(2, vn), (3, vi .i64 4)] [] [] [] (by kernel_rfl) ?_
     obtain rfl := some_inv' hp
     exact SC.re (js := [.g 0, .n]) tk (by kernel_rfl)
   · refine SC.skipThen ?_
     refine SC.seq ?_
     refine SC.reg ?_
     refine SL.sim tk 9 [(1, vp 1 0), (20, .g [ci .i64 2, ci .u64 (wu64 (len f_1.Payload))]), (24, .g [ci .i64 2, ci .u64 (wu64 f_1.CID)])] [] [] [] (by kernel_rfl) ?_
     refine SL.eff (e_lit (sz := 2) (E := 58) (R := R_T_api_Field) (by_ := 16) tk [[ci .i64 2, ci .u64 (wu64 (len f_1.Payload))], [ci .i64 2, ci .u64 (wu64 f_1.CID)]] [(T_api_Field.mk 2 (wu64 (len f_1.Payload))), (T_api_Field.mk 2 (wu64 f_1.CID))] (by kernel_rfl) ⟨(clo_T_api_Field (x := (T_api_Field.mk 2 (wu64 (len f_1.Payload))))), ⟨(clo_T_api_Field (x := (T_api_Field.mk 2 (wu64 f_1.CID)))), trivial⟩⟩ rfl (by kernel_rfl) (by kernel_rfl)) rfl (by kernel_rfl) ?_
     obtain ⟨x_2, e_x_2, hp⟩ := bind_inv hp
     refine SL.pre (pre_frz (i := 2) (sz := 2) (E := 58) (R := R_T_api_Field) (l := [(T_api_Field.mk 2 (wu64 (len f_1.Payload))), (T_api_Field.mk 2 (wu64 f_1.CID))]) (by kernel_rfl)) ?_
     refine SL.eff (e_c Try.call25 (ok_octets_Put F [(T_api_Field.mk 2 (wu64 (len f_1.Payload))), (T_api_Field.mk 2 (wu64 f_1.CID))] _ e_x_2) [.g 2] [vs 2] (.u [.inl (.s 3), .inl (ci .i64 x_2.2)]) (by kernel_rfl) (.inl rfl)) rfl (by kernel_rfl) ?_
     refine SL.norm (itsN := [.rd 1 R8 f_1.Payload, .blk 25 [ci .u16 f_1.CID, .s 0], .rd 2 R_T_api_Field [(T_api_Field.mk 2 (wu64 (len f_1.Payload))), (T_api_Field.mk 2 (wu64 f_1.CID))], .rd 1 R8 x_2.1]) (by kernel_rfl) ?_
     refine SL.sim tk 5 [(1, vp 1 0), (4, vs 3), (5, vi .i64 x_2.2)] [] [] [] (by kernel_rfl) ?_
     refine SL.nilThen ?_
     refine SC.seq ?_
     refine SC.r tk [(1, vp 1 0), (4, vs 3), (5, vi .i64 x_2.2), (30, vb (x_2.2 != 0))] [] [] [] (by kernel_rfl) ?_
     refine SC.if' rfl hp (fun hp => ?_) (fun hp => ?_)
     · refine SC.r tk [(2, vn), (3, vi .i64 x_2.2)] [] [] [] (by kernel_rfl) ?_
       obtain rfl := some_inv' hp
       exact SC.re (js := [.g 0, .n]) tk (by kernel_rfl)
     · refine SC.skipThen ?_
       refine SC.seq ?_
       refine SC.reg ?_
       refine SL.sim tk 3 [(32, vs 3), (34, vs 0)] [] [] [] (by kernel_rfl) ?_
       refine SL.eff (e_lit (sz := 1) (E := 23) (R := (RSl 1 R8)) (by_ := 24) tk [[.s 3], [.s 0]] [x_2.1, f_1.Payload] (by kernel_rfl) ⟨(Clo.sl (by kernel_rfl)), ⟨(Clo.sl (by kernel_rfl)), trivial⟩⟩ rfl (by kernel_rfl) (by kernel_rfl)) rfl (by kernel_rfl) ?_
       obtain ⟨x_3, e_x_3, hp⟩ := bind_inv hp
       refine SL.pre (pre_frz (i := 4) (sz := 1) (E := 23) (R := (RSl 1 R8)) (l := [x_2.1, f_1.Payload]) (by kernel_rfl)) ?_
       refine SL.eff (e_c Try.call26 (ok_octets_Join F [x_2.1, f_1.Payload] _ e_x_3) [.g 4] [vs 4] (vs 5) (by kernel_rfl) (.inl rfl)) rfl (by kernel_rfl) ?_
       refine SL.sim tk 2 [(2, vs 5), (3, vi .i64 0)] [] [] [] (by kernel_rfl) ?_
       refine SL.nilThen ?_
       obtain rfl := some_inv' hp
       exact SC.re (js := [.g 0, .g 5]) tk (by kernel_rfl)

theorem ok_fragment_parts (p0 : (List Int)) (p1 : Int) : Spec Try.prog 30 [vs 0, vi .i64 p1] [.rd 1 R8 p0] (.f 38 [.p 1 0, .p 2 0]) [.rd 1 R8 p0, .blk 23 [.s 0], .blk 3 [ci .i64 p1]] := by
 refine Spec.enter Try.func30 rfl Try.ntmps30 rfl rfl fun fx => ?_
 refine SC.seq ?_
 refine SC.reg ?_
 refine SL.eff (e_box (E := 23) [.s 0] (by kernel_rfl)) rfl (by kernel_rfl) ?_
 refine SL.eff (e_box (E := 3) [ci .i64 p1] (by kernel_rfl)) rfl (by kernel_rfl) ?_
 refine SL.sim tk 1 [(2, vp 1 0), (3, vp 2 0)] [] [] [] (by kernel_rfl) ?_
 refine SL.nilThen ?_
 refine SC.seq ?_
 refine SC.reg ?_
 refine SL.sim tk 2 [(4, .f 38 [.p 1 0, .p 2 0])] [] [] [] (by kernel_rfl) ?_
 refine SL.nilThen ?_
 exact SC.re (js := [.g 0, .g 1, .g 2]) tk (by kernel_rfl)

theorem ok_fragment_Split (F : Nat) (f_1 : T_api_Frame) (most_2 : Int) (r : (List T_api_Packet) × Int) (hp : fragment_Split F f_1 most_2 = some r) : Spec Try.prog 16 [.g [ci .u16 f_1.CID, .s 0], vi .i64 most_2] [.rd 1 R8 f_1.Payload] (.u [.inl (.s 1), .inl (ci .i64 r.2)]) [.gone, .rd 2 R_T_api_Packet r.1] := by
 refine Spec.enterM Try.func16 rfl Try.ntmps16 rfl rfl fun fx => ?_
 refine SC.seq ?_
 refine SC.reg ?_
 refine SL.eff (e_box (E := 25) [ci .u16 f_1.CID, .s 0] (by kernel_rfl)) rfl (by kernel_rfl) ?_
 refine SL.sim tk 2 [(1, vi .i64 most_2), (2, vp 1 0)] [] [] [] (by kernel_rfl) ?_
 refine SL.nilThen ?_
 refine SC.seq ?_
 refine SC.reg ?_
 refine SL.sim tk 1 [(1, vi .i64 most_2), (13, .g [ci .u16 f_1.CID, .s 0])] [] [] [] (by kernel_rfl) ?_
 obtain ⟨x_3, e_x_3, hp⟩ := bind_inv hp
 refine SL.eff (e_c Try.call11 (ok_fragment_Encode F f_1 _ e_x_3) [.g 0] [.g [ci .u16 f_1.CID, .s 0]] (.u [.inl (.s 2), .inl (ci .i64 x_3.2)]) (by kernel_rfl) (.inl rfl)) rfl (by kernel_rfl) ?_
 refine SL.sim tk 5 [(1, vi .i64 most_2), (6, vs 2), (7, vi .i64 x_3.2)] [] [] [] (by kernel_rfl) ?_
 refine SL.nilThen ?_
 refine SC.seq ?_
 refine SC.r tk [(1, vi .i64 most_2), (6, vs 2), (7, vi .i64 x_3.2), (18, vb (x_3.2 != 0))] [] [] [] (by kernel_rfl) ?_
 refine SC.if' rfl hp (fun hp => ?_) (fun hp => ?_)
 · refine SC.r tk [(4, vn), (5, vi .i64 x_3.2)] [] [] [] (by kernel_rfl) ?_
   obtain rfl := some_inv' hp
   exact SC.lv (SC.re (js := [.g 0, .n]) tk (by kernel_rfl))
 · refine SC.skipThen ?_
   refine SC.seq ?_
   refine SC.r tk [(1, vi .i64 most_2), (6, vs 2), (25, vb ((decide (most_2 < 1)) || (decide (most_2 > 251))))] [] [] [] (by kernel_rfl) ?_
   refine SC.if' rfl hp (fun hp => ?_) (fun hp => ?_)
   · refine SC.r tk [(4, vn), (5, vi .i64 5)] [] [] [] (by kernel_rfl) ?_
     obtain rfl := some_inv' hp
     exact SC.lv (SC.re (js := [.g 0, .n]) tk (by kernel_rfl))
   · refine SC.skipThen ?_
     refine SC.seq ?_
     refine SC.reg ?_
     refine SL.eff (e_alloc (E := 35) tk [nl] (by kernel_rfl)) rfl (by kernel_rfl) ?_
     refine SL.norm (itsN := [.rd 1 R8 f_1.Payload, .blk 25 [ci .u16 f_1.CID, .s 0], .rd 1 R8 x_3.1, .blk 35 [nl]]) (by kernel_rfl) ?_
     refine SL.nilThen ?_
     refine SC.seq ?_
     refine SC.seq ?_
     refine SC.reg ?_
     refine SL.sim tk 2 [(8, vp 3 0), (26, vs 2), (27, vi .i64 most_2)] [] [] [] (by kernel_rfl) ?_
     refine SL.eff (e_c Try.call30 (ok_fragment_parts x_3.1 most_2) [.g 2] [vs 2, vi .i64 most_2] (.f 38 [.p 4 0, .p 5 0]) (by kernel_rfl) (.inl rfl)) rfl (by kernel_rfl) ?_
     refine SL.nilThen ?_
     obtain ⟨o_4, e_o_4, hp⟩ := bind_inv hp
     refine SC.mk fun a w h => (show A 43 1 fx [(8, vp 1 0), (28, .f 38 [.p 3 0, .p 5 0])] [.gone, .blk 35 [.s 2], .own 2 48 R_T_api_Packet ([] : List T_api_Packet), .blk 23 [.s 4], .rd 1 R8 x_3.1, .blk 3 [ci .i64 most_2]] a w from h.at (js := [.g 0, .g 3, .n, .g 4, .g 2, .g 5]) (by kernel_rfl)).go ?_
     refine SC.range (pl := [29, 30]) (itsE := [.gone, .blk 35 [.s 6], .gone, .gone, .gone, .gone, .own 2 48 R_T_api_Packet o_4]) (its2 := [.gone, .blk 35 [.s 6], .gone, .gone, .gone, .gone, .own 2 48 R_T_api_Packet o_4]) (envR := [(8, vp 1 0)]) (env2 := [(4, vs 6), (5, vi .i64 0)]) rfl Try.call38 Try.func38 rfl Try.ntmps38 rfl rfl rfl rfl rfl rfl (fun fx l rec hu hx hw hst hpe hpl has hbo hS => ?_) (fun fx => ?_) rfl (fun a w h => ?_)
     · replace hp := e_o_4
       refine SC.r tk [(0, yv l), (1, vp 3 0), (2, vp 5 0), (4, vi .i64 0)] [] [] [] (by kernel_rfl) ?_
       refine SC.block ?_
       obtain ⟨o1, hi1, ho1⟩ := bind_inv hp
       clear hp
       refine SC.loop (fun n a w => ∃ (l_6 : (List T_api_Packet)) (l_7 : (List Int)) (x_8 : Int), iter (fun s => fragment_Split_it_l1 F most_2 s.1 s.2.1 s.2.2) n (l_6, l_7, x_8) = some o1 ∧ A 25 6 fx [(0, yv l), (1, vp 3 0), (2, vp 5 0), (4, vi .i64 x_8)] [.gone, .blk 35 [.s 6], .gone, .blk 23 [.s 7], .gone, .blk 3 [ci .i64 most_2], .own 2 48 R_T_api_Packet l_6, .rd 1 R8 l_7] a w) F (fun a w h => ⟨([] : List T_api_Packet), x_3.1, 0, hi1, h.at (js := [.g 0, .g 1, .g 2, .g 3, .g 4, .g 5, .g 2, .g 4]) (by kernel_rfl)⟩) ?_
       rintro n1 a w ⟨l_6, l_7, x_8, hi1, h⟩
       obtain ⟨n1, q1, rfl, hp, hs1⟩ := iter_inv hi1
       replace hp : fragment_Split_it_l1 F most_2 l_6 l_7 x_8 = some q1 := hp
       clear hi1
       refine h.go ?_
       refine SC.seq ?_
       refine SC.r tk [(0, yv l), (1, vp 3 0), (2, vp 5 0), (4, vi .i64 x_8), (8, vb (decide ((len l_7) > 0)))] [] [] [] (by kernel_rfl) ?_
       refine SC.if' rfl hp (fun hp => ?_) (fun hp => ?_)
       · refine SC.skipThen ?_
         refine SC.seq ?_
         refine SC.block ?_
         refine SC.r tk [(0, yv l), (1, vp 3 0), (2, vp 5 0), (4, vi .i64 x_8), (5, vi .i64 (imin most_2 (len l_7)))] [] [] [] (by kernel_rfl) ?_
         refine SC.seq ?_
         obtain ⟨l_9, e_l_9, hp⟩ := bind_inv hp
         obtain ⟨o_10, e_o_10, hp⟩ := bind_inv hp
         refine SC.cut (fun a w => A 25 6 fx [(0, yv l), (1, vp 3 0), (2, vp 5 0), (4, vi .i64 x_8), (5, vi .i64 (imin most_2 (len l_7))), (21, vb false)] [.gone, .blk 35 [.s 6], .gone, .blk 23 [.s 7], .gone, .blk 3 [ci .i64 most_2], .own 2 48 R_T_api_Packet o_10, .rd 1 R8 l_7] a w) ?_ (fun a w h => h.go ?_)
         · refine SC.regI ?_
           refine SLI.cutAt 5 (fun a w => A 25 6 fx [(0, yv l), (1, vp 3 0), (2, vp 5 0), (4, vi .i64 x_8), (5, vi .i64 (imin most_2 (len l_7))), (15, yv l), (16, vi .i64 x_8), (19, vs 8)] [.gone, .blk 35 [.s 6], .gone, .blk 23 [.s 7], .gone, .blk 3 [ci .i64 most_2], .own 2 48 R_T_api_Packet l_6, .rd 1 R8 l_7, .rd 1 R8 l_9] a w) ?_ rfl (fun a w h => h.goLI ?_)
           · refine SL.sim tk 4 [(0, yv l), (1, vp 3 0), (2, vp 5 0), (4, vi .i64 x_8), (5, vi .i64 (imin most_2 (len l_7))), (15, yv l), (16, vi .i64 x_8), (17, vs 7), (18, vi .i64 (imin most_2 (len l_7)))] [] [] [] (by kernel_rfl) ?_
             refine SL.eff (e_sub (sz := 1) (E := 5) (R := R8) (by_ := 1) (l := l_7) tk rfl (.inl ⟨7, rfl, (by kernel_rfl)⟩) rfl rfl e_l_9 (by kernel_rfl)) rfl (by kernel_rfl) ?_
             refine SL.nilJ fun a w h => ?_
             exact h.at (js := [.g 0, .g 1, .g 2, .g 3, .g 4, .g 5, .g 6, .g 7, .g 8]) (by kernel_rfl)
           · refine SLI.yield (X := Unit) (Pr := fun _ => True) (itsX := fun _ => [.gone, .blk 35 [.s 6], .gone, .blk 23 [.s 7], .gone, .blk 3 [ci .i64 most_2], .own 2 48 R_T_api_Packet o_10, .rd 1 R8 l_7]) (pl := [29, 30]) (vs := [vi .i64 x_8, vs 8]) (envA := [(0, yv l), (1, vp 3 0), (2, vp 5 0), (4, vi .i64 x_8), (5, vi .i64 (imin most_2 (len l_7)))]) (envS := [(8, vp 1 0)]) (envB := [(8, vp 1 0), (9, vi .i64 x_8), (10, vs 8)]) hu hx hw hst hpe hpl (by simpa using hS.sub (lkEs_sub (e := [(8, vp 1 0)]) rfl)) rfl rfl rfl (by kernel_rfl) rfl rfl ?_ ?_ (fun _ => rfl) (fun _ => rfl) (fun _ _ => SLI.of ?_ rfl)
             · rw [has]
               refine SCI.cut (fun a w => A 43 6 fx [(8, vp 1 0), (9, vi .i64 x_8), (30, vs 8)] [.gone, .blk 35 [.s 6], .gone, .blk 23 [.s 7], .gone, .blk 3 [ci .i64 most_2], .own 2 48 R_T_api_Packet l_6, .rd 1 R8 l_7, .rd 1 R8 l_9] a w) ?_ (fun a w h => h.goI ?_)
               · refine SCI.reg ?_ rfl
                 refine SL.sim tk 1 [(8, vp 1 0), (9, vi .i64 x_8), (30, vs 8)] [] [] [] (by kernel_rfl) ?_
                 refine SL.nilJ fun a w h => ?_
                 exact h.at (js := [.g 0, .g 1, .g 2, .g 3, .g 4, .g 5, .g 6, .g 7, .g 8]) (by kernel_rfl)
               · refine SCI.reg ?_ rfl
                 refine SL.sim tk 1 [(8, vp 1 0), (9, vi .i64 x_8), (10, vs 8)] [] [] [] (by kernel_rfl) ?_
                 refine SL.nilJ fun a w h => ?_
                 exact h.at (js := [.g 0, .g 1, .g 2, .g 3, .g 4, .g 5, .g 6, .g 7, .g 8]) (by kernel_rfl)
             · generalize (fx.put l (.loop { rec with state := .busy })) = fx
               rw [hbo]
               have hp := e_o_10
               refine SCI.block ?_
               obtain ⟨x_11, e_x_11, hp⟩ := bind_inv hp
               refine SCI.cut (fun a w => A 43 6 fx [(8, vp 1 0), (9, vi .i64 x_8), (11, vp 11 0)] [.gone, .blk 35 [.s 6], .gone, .blk 23 [.s 7], .gone, .blk 3 [ci .i64 most_2], .own 2 48 R_T_api_Packet l_6, .rd 1 R8 l_7, .rd 1 R8 l_9, .rd 1 (RSl 1 R8) [l_9], .rd 1 R8 x_11, .blk 48 [ci .i64 1, .s 10]] a w) ?_ (fun a w h => h.goI ?_)
               · refine SCI.reg ?_ rfl
                 refine SL.sim tk 1 [(8, vp 1 0), (9, vi .i64 x_8), (31, vs 8)] [] [] [] (by kernel_rfl) ?_
                 refine SL.eff (e_lit (sz := 1) (E := 23) (R := (RSl 1 R8)) (by_ := 24) tk [[.s 8]] [l_9] (by kernel_rfl) ⟨(Clo.sl (by kernel_rfl)), trivial⟩ rfl (by kernel_rfl) (by kernel_rfl)) rfl (by kernel_rfl) ?_
                 refine SL.pre (pre_frz (i := 9) (sz := 1) (E := 23) (R := (RSl 1 R8)) (l := [l_9]) (by kernel_rfl)) ?_
                 refine SL.eff (e_c Try.call26 (ok_octets_Join F [l_9] _ e_x_11) [.g 9] [vs 9] (vs 10) (by kernel_rfl) (.inl rfl)) rfl (by kernel_rfl) ?_
                 refine SL.sim tk 1 [(8, vp 1 0), (9, vi .i64 x_8), (34, .g [ci .i64 1, .s 10])] [] [] [] (by kernel_rfl) ?_
                 refine SL.eff (e_alloc (E := 48) tk [ci .i64 0, nl] (by kernel_rfl)) rfl (by kernel_rfl) ?_
                 refine SL.norm (itsN := [.gone, .blk 35 [.s 6], .gone, .blk 23 [.s 7], .gone, .blk 3 [ci .i64 most_2], .own 2 48 R_T_api_Packet l_6, .rd 1 R8 l_7, .rd 1 R8 l_9, .rd 1 (RSl 1 R8) [l_9], .rd 1 R8 x_11, .blk 48 [ci .i64 0, nl]]) (by kernel_rfl) ?_
                 refine SL.sim tk 1 [(8, vp 1 0), (9, vi .i64 x_8), (11, vp 11 0)] [(11, 48, [ci .i64 1, .s 10])] [] [] (by kernel_rfl) ?_
                 refine SL.nilJ fun a w h => ?_
                 exact h.at (js := [.g 0, .g 1, .g 2, .g 3, .g 4, .g 5, .g 6, .g 7, .g 8, .g 9, .g 10, .g 11]) (by kernel_rfl)
               · refine SCI.cut (fun a w => ∃ (x_12 : Int), fragment_Split_bj13 F l_6 x_11 x_12 = some o_10 ∧ A 43 6 fx [(8, vp 1 0), (11, vp 8 0)] [.gone, .blk 35 [.s 7], .gone, .blk 23 [.s 6], .gone, .blk 3 [ci .i64 most_2], .rd 1 R8 l_7, .own 2 48 R_T_api_Packet l_6, .blk 48 [ci .i64 x_12, .s 9], .rd 1 R8 x_11] a w) ?_ ?_
                 · refine SCI.cut (fun a w => A 43 6 fx [(8, vp 1 0), (11, vp 11 0), (36, vb (x_8 == 0))] [.gone, .blk 35 [.s 6], .gone, .blk 23 [.s 7], .gone, .blk 3 [ci .i64 most_2], .own 2 48 R_T_api_Packet l_6, .rd 1 R8 l_7, .rd 1 R8 l_9, .rd 1 (RSl 1 R8) [l_9], .rd 1 R8 x_11, .blk 48 [ci .i64 1, .s 10]] a w) ?_ (fun a w h => h.goI ?_)
                   · refine SCI.reg ?_ rfl
                     refine SL.sim tk 2 [(8, vp 1 0), (11, vp 11 0), (36, vb (x_8 == 0))] [] [] [] (by kernel_rfl) ?_
                     refine SL.nilJ fun a w h => ?_
                     exact h.at (js := [.g 0, .g 1, .g 2, .g 3, .g 4, .g 5, .g 6, .g 7, .g 8, .g 9, .g 10, .g 11]) (by kernel_rfl)
                   · refine SCI.if' rfl hp (fun hp => ?_) (fun hp => ?_)
                     · refine SCI.reg ?_ rfl
                       refine SL.sim tk 2 [(8, vp 1 0), (11, vp 11 0)] [(11, 48, [ci .i64 2, .s 10])] [] [] (by kernel_rfl) ?_
                       refine SL.nilJ fun a w h => ?_
                       exact ⟨2, hp, h.at (js := [.g 0, .g 1, .g 2, .g 3, .g 4, .g 5, .g 7, .g 6, .g 11, .g 10]) (by kernel_rfl)⟩
                     · refine SCI.skipJ fun a w h => ?_
                       exact ⟨1, hp, h.at (js := [.g 0, .g 1, .g 2, .g 3, .g 4, .g 5, .g 7, .g 6, .g 11, .g 10]) (by kernel_rfl)⟩
                 · rintro a w ⟨x_12, hp, h⟩
                   refine h.goI ?_
                   obtain ⟨l_13, e_l_13, hp⟩ := bind_inv hp
                   refine SCI.reg ?_ rfl
                   refine SL.sim tk 2 [(8, vp 1 0), (38, vs 7), (39, .g [ci .i64 x_12, .s 9])] [] [] [] (by kernel_rfl) ?_
                   refine SL.eff (e_lit (sz := 2) (E := 48) (R := R_T_api_Packet) (by_ := 32) tk [[ci .i64 x_12, .s 9]] [(T_api_Packet.mk x_12 x_11)] (by kernel_rfl) ⟨(clo_T_api_Packet (x := (T_api_Packet.mk x_12 x_11)) (Clo.sl (by kernel_rfl))), trivial⟩ rfl (by kernel_rfl) (by kernel_rfl)) rfl (by kernel_rfl) ?_
                   refine SL.eff (e_app (i := 7) (l := l_6) (sz := 2) (E := 48) (R := R_T_api_Packet) (by_ := 32) (m := [(T_api_Packet.mk x_12 x_11)]) tk rfl (by kernel_rfl) rfl (.o 48 (by kernel_rfl)) e_l_13 (by kernel_rfl)) rfl (by kernel_rfl) ?_
                   refine SL.sim tk 1 [] [(1, 35, [.s 11])] [] [] (by kernel_rfl) ?_
                   refine SL.nilJ fun a w h => ?_
                   obtain rfl := some_inv' hp
                   obtain ⟨κ, _, S⟩ := (show A 43 6 fx [] [.gone, .blk 35 [.s 6], .gone, .blk 23 [.s 7], .gone, .blk 3 [ci .i64 most_2], .own 2 48 R_T_api_Packet l_13, .rd 1 R8 l_7] a w from h.at (js := [.g 0, .g 1, .g 2, .g 3, .g 4, .g 5, .g 11, .g 6]) (by kernel_rfl))
                   exact ⟨(), trivial, κ, S⟩
             · refine SL.sim tk 1 [(0, yv l), (1, vp 3 0), (2, vp 5 0), (4, vi .i64 x_8), (5, vi .i64 (imin most_2 (len l_7))), (21, vb false)] [] [] [] (by kernel_rfl) ?_
               refine SL.nilJ fun a w h => ?_
               exact h.at (js := [.g 0, .g 1, .g 2, .g 3, .g 4, .g 5, .g 6, .g 7]) (by kernel_rfl)
         · refine SC.iff rfl ?_
           refine SC.skipThen ?_
           refine SC.reg ?_
           refine SL.sim tk 2 [(0, yv l), (1, vp 3 0), (2, vp 5 0), (4, vi .i64 x_8), (22, vs 7), (23, vi .i64 (imin most_2 (len l_7)))] [] [] [] (by kernel_rfl) ?_
           obtain ⟨l_14, e_l_14, hp⟩ := bind_inv hp
           refine SL.eff (e_sub (sz := 1) (E := 5) (R := R8) (by_ := 1) (l := l_7) tk rfl (.inl ⟨7, rfl, (by kernel_rfl)⟩) rfl rfl e_l_14 (by kernel_rfl)) rfl (by kernel_rfl) ?_
           refine SL.sim tk 1 [(0, yv l), (1, vp 3 0), (2, vp 5 0), (4, vi .i64 x_8)] [(3, 23, [.s 8])] [] [] (by kernel_rfl) ?_
           refine SL.nilThen ?_
           refine SC.reg ?_
           refine SL.sim tk 3 [(0, yv l), (1, vp 3 0), (2, vp 5 0), (4, vi .i64 (w64 (x_8 + 1)))] [] [] [] (by kernel_rfl) ?_
           refine SL.nilJ fun a w h => ?_
           exact ⟨n1, Nat.lt_succ_self _, o_10, l_14, w64 (x_8 + 1), next_inv hp hs1, h.at (js := [.g 0, .g 1, .g 2, .g 3, .g 4, .g 5, .g 6, .g 8]) (by kernel_rfl)⟩
       · refine SC.exitJ rfl fun a w h => ?_
         have ho := done_inv hp hs1
         replace hp := ho1
         try rw [ho] at hp
         obtain rfl := some_inv' hp
         exact A.re (js := [.g 0, .g 1, .g 2, .g 3, .g 4, .g 5, .g 6]) tk h (by kernel_rfl)
     · refine SL.sim tk 3 [(4, vs 6), (5, vi .i64 0)] [] [] [] (by kernel_rfl) ?_
       refine SL.nilJ fun a w h => ?_
       exact h.at (js := [.g 0, .g 1, .g 2, .g 3, .g 4, .g 5, .g 6]) (by kernel_rfl)
     · obtain rfl := some_inv' hp
       exact A.re (js := [.g 0, .z 6]) tk h (by kernel_rfl)

theorem ok_fragment_copied (F : Nat) (a_1 : T_api_Assembler) (r : T_api_Assembler) (hp : fragment_copied F a_1 = some r) : Spec Try.prog 32 [.g [cb a_1.On, .s 0]] [.rd 1 R8 a_1.Buffer] (.g [cb r.On, .s 1]) [.gone, .rd 1 R8 r.Buffer] := by
 refine Spec.enter Try.func32 rfl Try.ntmps32 rfl rfl fun fx => ?_
 refine SC.seq ?_
 refine SC.reg ?_
 refine SL.eff (e_box (E := 41) [cb a_1.On, .s 0] (by kernel_rfl)) rfl (by kernel_rfl) ?_
 refine SL.eff (e_alloc (E := 41) tk [cb false, nl] (by kernel_rfl)) rfl (by kernel_rfl) ?_
 refine SL.nilThen ?_
 refine SC.cut (fun a w => ∃ (l_2 : (List Int)), fragment_copied_j1 F a_1 l_2 = some r ∧ A 10 1 fx [(2, vp 1 0)] [.gone, .blk 41 [cb a_1.On, .s 2], .rd 1 R8 l_2] a w) ?_ ?_
 · refine SC.draw MO [true, true, false] (by kernel_rfl) fun kap_3 D_4 => ?_
   refine SD.takes tk D_4 [] kn0 [0, 1, 2, 3] [] [] [true, true, true, true, false, false, false, false] [(2, vp 2 0), (4, vb a_1.On), (6, vs 0)] rfl (by kernel_rfl) (by kernel_rfl) (by kernel_rfl) ?_
   refine SD.all1 (i := 4) (by kernel_rfl) ?_
   refine SW.eff D_4 (i := 4) (bs' := [true, true, true, true, true, false, false, false]) rfl (.inl rfl) rfl (e_lit (sz := 1) (E := 23) (R := (RSl 1 R8)) (by_ := 24) tk [[.s 0]] [a_1.Buffer] (by kernel_rfl) ⟨(Clo.sl (by kernel_rfl)), trivial⟩ rfl (by kernel_rfl) (by kernel_rfl)) (by kernel_rfl) rfl (by kernel_rfl) ?_
   refine SD.norm (itsN := [.rd 1 R8 a_1.Buffer, .blk 41 [cb a_1.On, .s 0], .blk 41 [cb false, nl], .own 1 23 (RSl 1 R8) [a_1.Buffer]]) (by kernel_rfl) ?_
   obtain ⟨x_5, e_x_5, hp⟩ := bind_inv hp
   refine SD.pre (pre_frz (i := 3) (sz := 1) (E := 23) (R := (RSl 1 R8)) (l := [a_1.Buffer]) (by kernel_rfl)) ?_
   refine SD.all1 (i := 5) (by kernel_rfl) ?_
   refine SW.eff D_4 (i := 5) (bs' := [true, true, true, true, true, true, false, false]) rfl (.inl rfl) rfl (e_c Try.call26 (ok_octets_Join F [a_1.Buffer] _ e_x_5) [.g 3] [vs 3] (vs 4) (by kernel_rfl) (.inl rfl)) (by kernel_rfl) rfl (by kernel_rfl) ?_
   refine SD.all1 (i := 6) (by kernel_rfl) ?_
   refine SW.eff D_4 (i := 6) (v := .g [cb a_1.On, .s 4]) (bs' := [true, true, true, true, true, true, true, false]) rfl (.inl rfl) rfl (e_val tk (by kernel_rfl)) (by kernel_rfl) rfl (by kernel_rfl) ?_
   refine SD.norm (itsN := [.rd 1 R8 a_1.Buffer, .blk 41 [cb a_1.On, .s 0], .blk 41 [cb false, nl], .rd 1 (RSl 1 R8) [a_1.Buffer], .rd 1 R8 x_5]) (by kernel_rfl) ?_
   refine SD.all1 (i := 7) (by kernel_rfl) ?_
   refine SW.store D_4 tk (i := 7) (q := 2) (T := 41) (cs := [cb a_1.On, .s 4]) (bs' := [true, true, true, true, true, true, true, true]) rfl (by kernel_rfl) rfl rfl (by kernel_rfl) ?_
   refine SD.done (by kernel_rfl) fun a w h => ?_
   exact ⟨x_5, hp, h.at (js := [.g 0, .g 2, .g 4]) (by kernel_rfl)⟩
 · rintro a w ⟨l_2, hp, h⟩
   refine h.go ?_
   obtain rfl := some_inv' hp
   exact SC.re (js := [.g 0, .g 2]) tk (by kernel_rfl)

theorem ok_fragment_header (F : Nat) (b_1 : (List Int)) (r : Int × Int) (hp : fragment_header F b_1 = some r) : Spec Try.prog 28 [vs 0] [.rd 1 R8 b_1] (.u [.inl (ci .i64 r.1), .inl (ci .u16 r.2)]) [.gone] := by
 refine Spec.enter Try.func28 rfl Try.ntmps28 rfl rfl fun fx => ?_
 refine SC.r tk [(0, vs 0)] [] [] [] (by kernel_rfl) ?_
 refine SC.cut (fun a w => ∃ (x_2 : Int) (x_3 : Int), fragment_header_j1 F x_2 x_3 = some r ∧ A 24 1 fx [(2, vi .i64 x_2), (3, vi .u16 x_3)] [.gone] a w) ?_ ?_
 · obtain ⟨x_4, e_x_4, hp⟩ := bind_inv hp
   obtain ⟨x_5, e_x_5, hp⟩ := bind_inv hp
   obtain ⟨x_6, e_x_6, hp⟩ := bind_inv hp
   obtain ⟨x_7, e_x_7, hp⟩ := bind_inv hp
   refine SC.pre (pre_ix (i := 0) (iv := 0) (sz := 1) (R := R8) (l := b_1) (by kernel_rfl) rfl e_x_4) ?_
   refine SC.pre (pre_ix (i := 0) (iv := 1) (sz := 1) (R := R8) (l := b_1) (by kernel_rfl) rfl e_x_5) ?_
   refine SC.pre (pre_ix (i := 0) (iv := 2) (sz := 1) (R := R8) (l := b_1) (by kernel_rfl) rfl e_x_6) ?_
   refine SC.pre (pre_ix (i := 0) (iv := 3) (sz := 1) (R := R8) (l := b_1) (by kernel_rfl) rfl e_x_7) ?_
   refine SC.draw MO [true, true, true, true, true] (by kernel_rfl) fun kap_8 D_9 => ?_
   obtain ⟨x_10, e_x_10, hp⟩ := bind_inv hp
   obtain ⟨x_11, e_x_11, hp⟩ := bind_inv hp
   refine SD.takes tk D_9 [] kn0 [0, 1, 2, 3, 4, 5, 6, 7, 8, 9, 10, 11, 12, 13, 14, 15, 16, 17, 18, 19, 20, 21] [.el 1, .el 2, .bin .shl .i64 (w64 x_5) 8 x_10 e_x_10, .el 3, .el 4, .bin .shl .u16 (wu16 x_7) 8 x_11 e_x_11] [0, 1, w64 x_5, 8, 2, 3, wu16 x_7, 8] [true, true, true, true, true, true, true, true, true, true, true, true, true, true, true, true, true, true, true, true, true, true] [(2, vi .i64 (ior .i64 (w64 x_4) x_10)), (3, vi .u16 (ior .u16 (wu16 x_6) x_11))] rfl (by kernel_rfl) (by kernel_rfl) (by kernel_rfl) ?_
   refine SD.done (by kernel_rfl) fun a w h => ?_
   exact ⟨ior .i64 (w64 x_4) x_10, ior .u16 (wu16 x_6) x_11, hp, h.at (js := [.g 0]) (by kernel_rfl)⟩
 · rintro a w ⟨x_2, x_3, hp, h⟩
   refine h.go ?_
   obtain rfl := some_inv' hp
   exact SC.re (js := [.g 0]) tk (by kernel_rfl)

theorem ok_fragment_filled (F : Nat) (b_1 : (List Int)) (e_2 : Int) (r : T_api_Assembler × (List T_api_Frame) × Int) (hp : fragment_filled F b_1 e_2 = some r) : Spec Try.prog 33 [vs 0, vi .i64 e_2] [.rd 1 R8 b_1] (.u [.inr [cb r.1.On, .s 1], .inl (.s 2), .inl (ci .i64 r.2.2)]) [.gone, .rd 1 R8 r.1.Buffer, .rd 2 R_T_api_Frame r.2.1] := by
 refine Spec.enter Try.func33 rfl Try.ntmps33 rfl rfl fun fx => ?_
 refine SC.seq ?_
 refine SC.reg ?_
 refine SL.eff (e_alloc (E := 41) tk [cb false, nl] (by kernel_rfl)) rfl (by kernel_rfl) ?_
 refine SL.sim tk 2 [(0, vs 0), (1, vi .i64 e_2), (4, vp 1 0)] [] [] [] (by kernel_rfl) ?_
 refine SL.nilThen ?_
 refine SC.seq ?_
 refine SC.r tk [(0, vs 0), (1, vi .i64 e_2), (4, vp 1 0), (12, vb (decide ((len b_1) < 4)))] [] [] [] (by kernel_rfl) ?_
 refine SC.if' rfl hp (fun hp => ?_) (fun hp => ?_)
 · refine SC.r tk [(4, vp 1 0), (5, vn), (6, vi .i64 e_2)] [(1, 41, [cb true, .s 0])] [] [] (by kernel_rfl) ?_
   obtain rfl := some_inv' hp
   exact SC.re (js := [.g 0, .g 0, .n]) tk (by kernel_rfl)
 · refine SC.skipThen ?_
   refine SC.seq ?_
   refine SC.reg ?_
   refine SL.sim tk 1 [(0, vs 0), (1, vi .i64 e_2), (4, vp 1 0), (17, vs 0)] [] [] [] (by kernel_rfl) ?_
   obtain ⟨x_3, e_x_3, hp⟩ := bind_inv hp
   refine SL.eff (e_c Try.call28 (ok_fragment_header F b_1 _ e_x_3) [.g 0] [vs 0] (.u [.inl (ci .i64 x_3.1), .inl (ci .u16 x_3.2)]) (by kernel_rfl) (.inl rfl)) rfl (by kernel_rfl) ?_
   refine SL.sim tk 5 [(0, vs 0), (1, vi .i64 e_2), (4, vp 1 0), (7, vi .i64 x_3.1), (8, vi .u16 x_3.2)] [] [] [] (by kernel_rfl) ?_
   refine SL.nilThen ?_
   refine SC.r tk [(0, vs 0), (1, vi .i64 e_2), (4, vp 1 0), (7, vi .i64 x_3.1), (8, vi .u16 x_3.2)] [] [] [] (by kernel_rfl) ?_
   refine SC.cut (fun a w => ∃ (x_4 : Int), fragment_filled_j1 F e_2 x_4 = some r ∧ A 57 1 fx [(1, vi .i64 e_2), (4, vp 1 0), (9, vi .i64 x_4)] [.gone, .blk 41 [cb false, nl]] a w) ?_ ?_
   · refine SC.block ?_
     refine SC.r tk [(0, vs 0), (1, vi .i64 e_2), (4, vp 1 0), (7, vi .i64 x_3.1), (8, vi .u16 x_3.2), (30, vb (x_3.2 == 0))] [] [] [] (by kernel_rfl) ?_
     refine SC.if' rfl hp (fun hp => ?_) (fun hp => ?_)
     · refine SC.reg ?_
       refine SL.sim tk 1 [(1, vi .i64 e_2), (4, vp 1 0), (9, vi .i64 1)] [] [] [] (by kernel_rfl) ?_
       refine SL.nilJ fun a w h => ?_
       exact ⟨1, hp, h.at (js := [.g 0, .g 1]) (by kernel_rfl)⟩
     · refine SC.r tk [(0, vs 0), (1, vi .i64 e_2), (4, vp 1 0), (7, vi .i64 x_3.1), (8, vi .u16 x_3.2), (33, vb ((decide (x_3.1 > 65531)) || (decide ((w64 ((len b_1) - 4)) > x_3.1))))] [] [] [] (by kernel_rfl) ?_
       refine SC.if' rfl hp (fun hp => ?_) (fun hp => ?_)
       · refine SC.reg ?_
         refine SL.sim tk 1 [(1, vi .i64 e_2), (4, vp 1 0), (9, vi .i64 4)] [] [] [] (by kernel_rfl) ?_
         refine SL.nilJ fun a w h => ?_
         exact ⟨4, hp, h.at (js := [.g 0, .g 1]) (by kernel_rfl)⟩
       · refine SC.r tk [(0, vs 0), (1, vi .i64 e_2), (4, vp 1 0), (8, vi .u16 x_3.2), (43, vb (decide ((w64 ((len b_1) - 4)) < x_3.1)))] [] [] [] (by kernel_rfl) ?_
         refine SC.if' rfl hp (fun hp => ?_) (fun hp => ?_)
         · refine SC.r tk [(4, vp 1 0), (5, vn), (6, vi .i64 e_2)] [(1, 41, [cb true, .s 0])] [] [] (by kernel_rfl) ?_
           obtain rfl := some_inv' hp
           exact SC.re (js := [.g 0, .g 0, .n]) tk (by kernel_rfl)
         · refine SC.seq ?_
           refine SC.reg ?_
           refine SL.sim tk 3 [(1, vi .i64 e_2), (4, vp 1 0), (21, .g [cb false, nl]), (22, vi .u16 x_3.2), (23, vs 0)] [] [] [] (by kernel_rfl) ?_
           obtain ⟨l_6, e_l_6, hp⟩ := bind_inv hp
           refine SL.eff (e_sub (sz := 1) (E := 5) (R := R8) (by_ := 1) (l := b_1) tk rfl (.inl ⟨0, rfl, (by kernel_rfl)⟩) rfl rfl e_l_6 (by kernel_rfl)) rfl (by kernel_rfl) ?_
           refine SL.norm (itsN := [.rd 1 R8 b_1, .blk 41 [cb false, nl], .rd 1 R8 l_6]) (by kernel_rfl) ?_
           refine SL.eff (e_lit (sz := 1) (E := 23) (R := (RSl 1 R8)) (by_ := 24) tk [[.s 2]] [l_6] (by kernel_rfl) ⟨(Clo.sl (by kernel_rfl)), trivial⟩ rfl (by kernel_rfl) (by kernel_rfl)) rfl (by kernel_rfl) ?_
           obtain ⟨x_7, e_x_7, hp⟩ := bind_inv hp
           refine SL.pre (pre_frz (i := 3) (sz := 1) (E := 23) (R := (RSl 1 R8)) (l := [l_6]) (by kernel_rfl)) ?_
           refine SL.eff (e_c Try.call26 (ok_octets_Join F [l_6] _ e_x_7) [.g 3] [vs 3] (vs 4) (by kernel_rfl) (.inl rfl)) rfl (by kernel_rfl) ?_
           refine SL.sim tk 1 [(1, vi .i64 e_2), (4, vp 1 0), (21, .g [cb false, nl]), (27, .g [ci .u16 x_3.2, .s 4])] [] [] [] (by kernel_rfl) ?_
           refine SL.eff (e_lit (sz := 2) (E := 25) (R := R_T_api_Frame) (by_ := 32) tk [[ci .u16 x_3.2, .s 4]] [(T_api_Frame.mk x_3.2 x_7)] (by kernel_rfl) ⟨(clo_T_api_Frame (x := (T_api_Frame.mk x_3.2 x_7)) (Clo.sl (by kernel_rfl))), trivial⟩ rfl (by kernel_rfl) (by kernel_rfl)) rfl (by kernel_rfl) ?_
           refine SL.norm (itsN := [.rd 1 R8 b_1, .blk 41 [cb false, nl], .rd 1 R8 l_6, .rd 1 (RSl 1 R8) [l_6], .rd 1 R8 x_7, .own 2 25 R_T_api_Frame [(T_api_Frame.mk x_3.2 x_7)]]) (by kernel_rfl) ?_
           refine SL.sim tk 4 [(4, vp 1 0), (5, vs 5), (6, vi .i64 e_2)] [(1, 41, [cb false, nl])] [] [] (by kernel_rfl) ?_
           refine SL.nilThen ?_
           obtain rfl := some_inv' hp
           exact SC.re (js := [.g 0, .n, .z 5]) tk (by kernel_rfl)
   · rintro a w ⟨x_4, hp, h⟩
     refine h.go ?_
     refine SC.cut (fun a w => ∃ (x_5 : Int), fragment_filled_j2 F x_5 = some r ∧ A 57 1 fx [(1, vi .i64 x_5), (4, vp 1 0)] [.gone, .blk 41 [cb false, nl]] a w) ?_ ?_
     · refine SC.r tk [(1, vi .i64 e_2), (4, vp 1 0), (9, vi .i64 x_4), (53, vb (e_2 == 0))] [] [] [] (by kernel_rfl) ?_
       refine SC.if' rfl hp (fun hp => ?_) (fun hp => ?_)
       · refine SC.reg ?_
         refine SL.sim tk 2 [(1, vi .i64 x_4), (4, vp 1 0)] [] [] [] (by kernel_rfl) ?_
         refine SL.nilJ fun a w h => ?_
         exact ⟨x_4, hp, h.at (js := [.g 0, .g 1]) (by kernel_rfl)⟩
       · refine SC.skipJ fun a w h => ?_
         exact ⟨e_2, hp, h.at (js := [.g 0, .g 1]) (by kernel_rfl)⟩
     · rintro a w ⟨x_5, hp, h⟩
       refine h.go ?_
       refine SC.r tk [(4, vp 1 0), (5, vn), (6, vi .i64 x_5)] [(1, 41, [cb false, nl])] [] [] (by kernel_rfl) ?_
       obtain rfl := some_inv' hp
       exact SC.re (js := [.g 0, .n, .n]) tk (by kernel_rfl)

theorem ok_fragment_Feed (F : Nat) (a_1 : T_api_Assembler) (p_2 : T_api_Packet) (r : T_api_Assembler × (List T_api_Frame) × Int) (hp : fragment_Feed F a_1 p_2 = some r) : Spec Try.prog 21 [.g [cb a_1.On, .s 0], .g [ci .i64 p_2.LLID, .s 1]] [.rd 1 R8 a_1.Buffer, .rd 1 R8 p_2.Payload] (.u [.inr [cb r.1.On, .s 2], .inl (.s 3), .inl (ci .i64 r.2.2)]) [.gone, .gone, .rd 1 R8 r.1.Buffer, .rd 2 R_T_api_Frame r.2.1] := by
 refine Spec.enter Try.func21 rfl Try.ntmps21 rfl rfl fun fx => ?_
 refine SC.seq ?_
 refine SC.reg ?_
 refine SL.eff (e_box (E := 41) [cb a_1.On, .s 0] (by kernel_rfl)) rfl (by kernel_rfl) ?_
 refine SL.eff (e_box (E := 48) [ci .i64 p_2.LLID, .s 1] (by kernel_rfl)) rfl (by kernel_rfl) ?_
 refine SL.eff (e_alloc (E := 41) tk [cb false, nl] (by kernel_rfl)) rfl (by kernel_rfl) ?_
 refine SL.sim tk 2 [(2, vp 2 0), (3, vp 3 0), (4, vp 4 0)] [] [] [] (by kernel_rfl) ?_
 refine SL.nilThen ?_
 refine SC.seq ?_
 refine SC.r tk [(2, vp 2 0), (3, vp 3 0), (4, vp 4 0), (18, vb ((p_2.LLID == 1) && ((len p_2.Payload) == 0)))] [] [] [] (by kernel_rfl) ?_
 refine SC.if' rfl hp (fun hp => ?_) (fun hp => ?_)
 · refine SC.seq ?_
   refine SC.reg ?_
   refine SL.sim tk 1 [(4, vp 4 0), (19, .g [cb a_1.On, .s 0])] [] [] [] (by kernel_rfl) ?_
   obtain ⟨x_3, e_x_3, hp⟩ := bind_inv hp
   refine SL.eff (e_c Try.call32 (ok_fragment_copied F a_1 _ e_x_3) [.g 0] [.g [cb a_1.On, .s 0]] (.g [cb x_3.On, .s 5]) (by kernel_rfl) (.inl rfl)) rfl (by kernel_rfl) ?_
   refine SL.norm (itsN := [.rd 1 R8 a_1.Buffer, .rd 1 R8 p_2.Payload, .blk 41 [cb a_1.On, .s 0], .blk 48 [ci .i64 p_2.LLID, .s 1], .blk 41 [cb false, nl], .rd 1 R8 x_3.Buffer]) (by kernel_rfl) ?_
   refine SL.sim tk 3 [(4, vp 4 0), (5, vn), (6, vi .i64 0)] [(4, 41, [cb x_3.On, .s 5])] [] [] (by kernel_rfl) ?_
   refine SL.nilThen ?_
   obtain rfl := some_inv' hp
   exact SC.re (js := [.g 0, .g 1, .g 5, .n]) tk (by kernel_rfl)
 · refine SC.skipThen ?_
   refine SC.seq ?_
   refine SC.r tk [(2, vp 2 0), (3, vp 3 0), (4, vp 4 0), (34, vb (((p_2.LLID != 1) && (p_2.LLID != 2)) || ((len p_2.Payload) == 0)))] [] [] [] (by kernel_rfl) ?_
   refine SC.if' rfl hp (fun hp => ?_) (fun hp => ?_)
   · refine SC.seq ?_
     refine SC.reg ?_
     refine SL.sim tk 1 [(4, vp 4 0), (35, .g [cb a_1.On, .s 0])] [] [] [] (by kernel_rfl) ?_
     obtain ⟨x_4, e_x_4, hp⟩ := bind_inv hp
     refine SL.eff (e_c Try.call32 (ok_fragment_copied F a_1 _ e_x_4) [.g 0] [.g [cb a_1.On, .s 0]] (.g [cb x_4.On, .s 5]) (by kernel_rfl) (.inl rfl)) rfl (by kernel_rfl) ?_
     refine SL.norm (itsN := [.rd 1 R8 a_1.Buffer, .rd 1 R8 p_2.Payload, .blk 41 [cb a_1.On, .s 0], .blk 48 [ci .i64 p_2.LLID, .s 1], .blk 41 [cb false, nl], .rd 1 R8 x_4.Buffer]) (by kernel_rfl) ?_
     refine SL.sim tk 3 [(4, vp 4 0), (5, vn), (6, vi .i64 12)] [(4, 41, [cb x_4.On, .s 5])] [] [] (by kernel_rfl) ?_
     refine SL.nilThen ?_
     obtain rfl := some_inv' hp
     exact SC.re (js := [.g 0, .g 1, .g 5, .n]) tk (by kernel_rfl)
   · refine SC.skipThen ?_
     refine SC.r tk [(2, vp 2 0), (3, vp 3 0), (4, vp 4 0), (7, vb ((!a_1.On) && ((len a_1.Buffer) == 0)))] [] [] [] (by kernel_rfl) ?_
     refine SC.r tk [(2, vp 2 0), (3, vp 3 0), (4, vp 4 0), (7, vb ((!a_1.On) && ((len a_1.Buffer) == 0))), (8, vi .i64 0)] [] [] [] (by kernel_rfl) ?_
     refine SC.r tk [(2, vp 2 0), (3, vp 3 0), (4, vp 4 0), (7, vb ((!a_1.On) && ((len a_1.Buffer) == 0))), (8, vi .i64 0)] [] [] [] (by kernel_rfl) ?_
     refine SC.cut (fun a w => ∃ (x_5 : Int) (l_6 : (List Int)), fragment_Feed_j1 F x_5 l_6 = some r ∧ A 71 2 fx [(4, vp 2 0), (8, vi .i64 x_5), (9, vs 3)] [.gone, .gone, .blk 41 [cb false, nl], .rd 1 R8 l_6] a w) ?_ ?_
     · refine SC.block ?_
       refine SC.r tk [(2, vp 2 0), (3, vp 3 0), (4, vp 4 0), (7, vb ((!a_1.On) && ((len a_1.Buffer) == 0))), (8, vi .i64 0), (52, vb (p_2.LLID == 2))] [] [] [] (by kernel_rfl) ?_
       refine SC.if' rfl hp (fun hp => ?_) (fun hp => ?_)
       · refine SC.cut (fun a w => ∃ (x_8 : Int), fragment_Feed_j2 F p_2 x_8 = some r ∧ A 71 2 fx [(3, vp 2 0), (4, vp 3 0), (8, vi .i64 x_8)] [.gone, .rd 1 R8 p_2.Payload, .blk 48 [ci .i64 p_2.LLID, .s 1], .blk 41 [cb false, nl]] a w) ?_ ?_
         · refine SC.r tk [(3, vp 3 0), (4, vp 4 0), (8, vi .i64 0), (57, vb (!((!a_1.On) && ((len a_1.Buffer) == 0))))] [] [] [] (by kernel_rfl) ?_
           refine SC.if' rfl hp (fun hp => ?_) (fun hp => ?_)
           · refine SC.reg ?_
             refine SL.sim tk 1 [(3, vp 3 0), (4, vp 4 0), (8, vi .i64 13)] [] [] [] (by kernel_rfl) ?_
             refine SL.nilJ fun a w h => ?_
             exact ⟨13, hp, h.at (js := [.g 0, .g 1, .g 3, .g 4]) (by kernel_rfl)⟩
           · refine SC.skipJ fun a w h => ?_
             exact ⟨0, hp, h.at (js := [.g 0, .g 1, .g 3, .g 4]) (by kernel_rfl)⟩
         · rintro a w ⟨x_8, hp, h⟩
           refine h.go ?_
           refine SC.reg ?_
           refine SL.sim tk 2 [(4, vp 3 0), (8, vi .i64 x_8), (59, vs 1)] [] [] [] (by kernel_rfl) ?_
           refine SL.eff (e_lit (sz := 1) (E := 23) (R := (RSl 1 R8)) (by_ := 24) tk [[.s 1]] [p_2.Payload] (by kernel_rfl) ⟨(Clo.sl (by kernel_rfl)), trivial⟩ rfl (by kernel_rfl) (by kernel_rfl)) rfl (by kernel_rfl) ?_
           obtain ⟨x_9, e_x_9, hp⟩ := bind_inv hp
           refine SL.pre (pre_frz (i := 4) (sz := 1) (E := 23) (R := (RSl 1 R8)) (l := [p_2.Payload]) (by kernel_rfl)) ?_
           refine SL.eff (e_c Try.call26 (ok_octets_Join F [p_2.Payload] _ e_x_9) [.g 4] [vs 4] (vs 5) (by kernel_rfl) (.inl rfl)) rfl (by kernel_rfl) ?_
           refine SL.sim tk 1 [(4, vp 3 0), (8, vi .i64 x_8), (9, vs 5)] [] [] [] (by kernel_rfl) ?_
           refine SL.nilJ fun a w h => ?_
           exact ⟨x_8, x_9, hp, h.at (js := [.g 0, .g 1, .g 3, .g 5]) (by kernel_rfl)⟩
       · refine SC.r tk [(2, vp 2 0), (3, vp 3 0), (4, vp 4 0), (8, vi .i64 0), (62, vb ((!a_1.On) && ((len a_1.Buffer) == 0)))] [] [] [] (by kernel_rfl) ?_
         refine SC.if' rfl hp (fun hp => ?_) (fun hp => ?_)
         · refine SC.r tk [(4, vp 4 0), (5, vn), (6, vi .i64 13)] [(4, 41, [cb false, nl])] [] [] (by kernel_rfl) ?_
           obtain rfl := some_inv' hp
           exact SC.re (js := [.g 0, .g 1, .n, .n]) tk (by kernel_rfl)
         · refine SC.reg ?_
           refine SL.sim tk 4 [(4, vp 4 0), (8, vi .i64 0), (47, vs 0), (49, vs 1)] [] [] [] (by kernel_rfl) ?_
           refine SL.eff (e_lit (sz := 1) (E := 23) (R := (RSl 1 R8)) (by_ := 24) tk [[.s 0], [.s 1]] [a_1.Buffer, p_2.Payload] (by kernel_rfl) ⟨(Clo.sl (by kernel_rfl)), ⟨(Clo.sl (by kernel_rfl)), trivial⟩⟩ rfl (by kernel_rfl) (by kernel_rfl)) rfl (by kernel_rfl) ?_
           refine SL.norm (itsN := [.rd 1 R8 a_1.Buffer, .rd 1 R8 p_2.Payload, .blk 41 [cb a_1.On, .s 0], .blk 48 [ci .i64 p_2.LLID, .s 1], .blk 41 [cb false, nl], .own 1 23 (RSl 1 R8) [a_1.Buffer, p_2.Payload]]) (by kernel_rfl) ?_
           obtain ⟨x_10, e_x_10, hp⟩ := bind_inv hp
           refine SL.pre (pre_frz (i := 5) (sz := 1) (E := 23) (R := (RSl 1 R8)) (l := [a_1.Buffer, p_2.Payload]) (by kernel_rfl)) ?_
           refine SL.eff (e_c Try.call26 (ok_octets_Join F [a_1.Buffer, p_2.Payload] _ e_x_10) [.g 5] [vs 5] (vs 6) (by kernel_rfl) (.inl rfl)) rfl (by kernel_rfl) ?_
           refine SL.sim tk 1 [(4, vp 4 0), (8, vi .i64 0), (9, vs 6)] [] [] [] (by kernel_rfl) ?_
           refine SL.nilJ fun a w h => ?_
           exact ⟨0, x_10, hp, h.at (js := [.g 0, .g 1, .g 4, .g 6]) (by kernel_rfl)⟩
     · rintro a w ⟨x_5, l_6, hp, h⟩
       refine h.go ?_
       refine SC.seq ?_
       refine SC.reg ?_
       refine SL.sim tk 2 [(4, vp 2 0), (65, vs 3), (66, vi .i64 x_5)] [] [] [] (by kernel_rfl) ?_
       obtain ⟨x_7, e_x_7, hp⟩ := bind_inv hp
       refine SL.eff (e_c Try.call33 (ok_fragment_filled F l_6 x_5 _ e_x_7) [.g 3] [vs 3, vi .i64 x_5] (.u [.inr [cb x_7.1.On, .s 4], .inl (.s 5), .inl (ci .i64 x_7.2.2)]) (by kernel_rfl) (.inl rfl)) rfl (by kernel_rfl) ?_
       refine SL.sim tk 6 [(4, vp 2 0), (5, vs 5), (6, vi .i64 x_7.2.2)] [(2, 41, [cb x_7.1.On, .s 4])] [] [] (by kernel_rfl) ?_
       refine SL.nilThen ?_
       obtain rfl := some_inv' hp
       exact SC.re (js := [.g 0, .g 1, .g 4, .g 5]) tk (by kernel_rfl)

theorem ok_fragment_Decode (F : Nat) (b_1 : (List Int)) (r : T_api_Frame × Int) (hp : fragment_Decode F b_1 = some r) : Spec Try.prog 14 [vs 0] [.rd 1 R8 b_1] (.u [.inr [ci .u16 r.1.CID, .s 1], .inl (ci .i64 r.2)]) [.gone, .rd 1 R8 r.1.Payload] := by
 refine Spec.enter Try.func14 rfl Try.ntmps14 rfl rfl fun fx => ?_
 refine SC.seq ?_
 refine SC.reg ?_
 refine SL.eff (e_alloc (E := 25) tk [ci .u16 0, nl] (by kernel_rfl)) rfl (by kernel_rfl) ?_
 refine SL.sim tk 1 [(0, vs 0), (2, vp 1 0)] [] [] [] (by kernel_rfl) ?_
 refine SL.nilThen ?_
 refine SC.seq ?_
 refine SC.r tk [(0, vs 0), (2, vp 1 0), (8, vb (decide ((len b_1) < 4)))] [] [] [] (by kernel_rfl) ?_
 refine SC.if' rfl hp (fun hp => ?_) (fun hp => ?_)
 · refine SC.r tk [(2, vp 1 0), (3, vi .i64 3)] [(1, 25, [ci .u16 0, nl])] [] [] (by kernel_rfl) ?_
   obtain rfl := some_inv' hp
   exact SC.re (js := [.g 0, .n]) tk (by kernel_rfl)
 · refine SC.skipThen ?_
   refine SC.seq ?_
   refine SC.reg ?_
   refine SL.sim tk 1 [(0, vs 0), (2, vp 1 0), (11, vs 0)] [] [] [] (by kernel_rfl) ?_
   obtain ⟨x_2, e_x_2, hp⟩ := bind_inv hp
   refine SL.eff (e_c Try.call28 (ok_fragment_header F b_1 _ e_x_2) [.g 0] [vs 0] (.u [.inl (ci .i64 x_2.1), .inl (ci .u16 x_2.2)]) (by kernel_rfl) (.inl rfl)) rfl (by kernel_rfl) ?_
   refine SL.sim tk 5 [(0, vs 0), (2, vp 1 0), (4, vi .i64 x_2.1), (5, vi .u16 x_2.2)] [] [] [] (by kernel_rfl) ?_
   refine SL.nilThen ?_
   refine SC.seq ?_
   refine SC.block ?_
   refine SC.r tk [(0, vs 0), (2, vp 1 0), (4, vi .i64 x_2.1), (5, vi .u16 x_2.2), (15, vb (x_2.2 == 0))] [] [] [] (by kernel_rfl) ?_
   refine SC.if' rfl hp (fun hp => ?_) (fun hp => ?_)
   · refine SC.r tk [(2, vp 1 0), (3, vi .i64 1)] [(1, 25, [ci .u16 0, nl])] [] [] (by kernel_rfl) ?_
     obtain rfl := some_inv' hp
     exact SC.re (js := [.g 0, .n]) tk (by kernel_rfl)
   · refine SC.r tk [(0, vs 0), (2, vp 1 0), (4, vi .i64 x_2.1), (5, vi .u16 x_2.2), (19, vb (decide (x_2.1 > 65531)))] [] [] [] (by kernel_rfl) ?_
     refine SC.if' rfl hp (fun hp => ?_) (fun hp => ?_)
     · refine SC.r tk [(2, vp 1 0), (3, vi .i64 4)] [(1, 25, [ci .u16 0, nl])] [] [] (by kernel_rfl) ?_
       obtain rfl := some_inv' hp
       exact SC.re (js := [.g 0, .n]) tk (by kernel_rfl)
     · refine SC.r tk [(0, vs 0), (2, vp 1 0), (4, vi .i64 x_2.1), (5, vi .u16 x_2.2), (23, vb (decide ((w64 ((len b_1) - 4)) < x_2.1)))] [] [] [] (by kernel_rfl) ?_
       refine SC.if' rfl hp (fun hp => ?_) (fun hp => ?_)
       · refine SC.r tk [(2, vp 1 0), (3, vi .i64 3)] [(1, 25, [ci .u16 0, nl])] [] [] (by kernel_rfl) ?_
         obtain rfl := some_inv' hp
         exact SC.re (js := [.g 0, .n]) tk (by kernel_rfl)
       · refine SC.r tk [(0, vs 0), (2, vp 1 0), (5, vi .u16 x_2.2), (30, vb (decide ((w64 ((len b_1) - 4)) > x_2.1)))] [] [] [] (by kernel_rfl) ?_
         refine SC.if' rfl hp (fun hp => ?_) (fun hp => ?_)
         · refine SC.r tk [(2, vp 1 0), (3, vi .i64 2)] [(1, 25, [ci .u16 0, nl])] [] [] (by kernel_rfl) ?_
           obtain rfl := some_inv' hp
           exact SC.re (js := [.g 0, .n]) tk (by kernel_rfl)
         · refine SC.skipThen ?_
           refine SC.seq ?_
           refine SC.reg ?_
           refine SL.sim tk 2 [(2, vp 1 0), (37, vi .u16 x_2.2), (38, vs 0)] [] [] [] (by kernel_rfl) ?_
           obtain ⟨l_3, e_l_3, hp⟩ := bind_inv hp
           refine SL.eff (e_sub (sz := 1) (E := 5) (R := R8) (by_ := 1) (l := b_1) tk rfl (.inl ⟨0, rfl, (by kernel_rfl)⟩) rfl rfl e_l_3 (by kernel_rfl)) rfl (by kernel_rfl) ?_
           refine SL.norm (itsN := [.rd 1 R8 b_1, .blk 25 [ci .u16 0, nl], .rd 1 R8 l_3]) (by kernel_rfl) ?_
           refine SL.eff (e_lit (sz := 1) (E := 23) (R := (RSl 1 R8)) (by_ := 24) tk [[.s 2]] [l_3] (by kernel_rfl) ⟨(Clo.sl (by kernel_rfl)), trivial⟩ rfl (by kernel_rfl) (by kernel_rfl)) rfl (by kernel_rfl) ?_
           obtain ⟨x_4, e_x_4, hp⟩ := bind_inv hp
           refine SL.pre (pre_frz (i := 3) (sz := 1) (E := 23) (R := (RSl 1 R8)) (l := [l_3]) (by kernel_rfl)) ?_
           refine SL.eff (e_c Try.call26 (ok_octets_Join F [l_3] _ e_x_4) [.g 3] [vs 3] (vs 4) (by kernel_rfl) (.inl rfl)) rfl (by kernel_rfl) ?_
           refine SL.sim tk 3 [(2, vp 1 0), (3, vi .i64 0)] [(1, 25, [ci .u16 x_2.2, .s 4])] [] [] (by kernel_rfl) ?_
           refine SL.nilThen ?_
           obtain rfl := some_inv' hp
           exact SC.re (js := [.g 0, .g 4]) tk (by kernel_rfl)

theorem ok_wirelessref23_Same (F : Nat) (a_1 : (List Int)) (b_2 : (List Int)) (r : Bool) (hp : wirelessref23_Same F a_1 b_2 = some r) : Spec Try.prog 13 [vs 0, vs 1] [.rd 1 R8 a_1, .rd 1 R8 b_2] (vb r) [.gone, .gone] := by
 refine Spec.enter Try.func13 rfl Try.ntmps13 rfl rfl fun fx => ?_
 refine SC.r tk [(0, vs 0), (1, vs 1)] [] [] [] (by kernel_rfl) ?_
 refine SC.seq ?_
 refine SC.reg ?_
 refine SL.sim tk 1 [(1, vs 1), (5, vs 0)] [] [] [] (by kernel_rfl) ?_
 refine SL.eff (e_b2s (l := a_1) tk rfl (.r (by kernel_rfl)) (by kernel_rfl)) rfl (by kernel_rfl) ?_
 refine SL.sim tk 1 [(6, vt 2), (7, vs 1)] [] [] [] (by kernel_rfl) ?_
 refine SL.eff (e_b2s (l := b_2) tk rfl (.r (by kernel_rfl)) (by kernel_rfl)) rfl (by kernel_rfl) ?_
 refine SL.sim tk 2 [(4, vb ((str a_1) == (str b_2)))] [] [] [] (by kernel_rfl) ?_
 refine SL.nilThen ?_
 obtain rfl := some_inv' hp
 exact SC.re (js := [.g 0, .g 1]) tk (by kernel_rfl)

theorem ok_wirelessref23_SamePacket (F : Nat) (a_1 : T_api_Packet) (b_2 : T_api_Packet) (r : Bool) (hp : wirelessref23_SamePacket F a_1 b_2 = some r) : Spec Try.prog 31 [.g [ci .i64 a_1.LLID, .s 0], .g [ci .i64 b_2.LLID, .s 1]] [.rd 1 R8 a_1.Payload, .rd 1 R8 b_2.Payload] (vb r) [.gone, .gone] := by
 refine Spec.enter Try.func31 rfl Try.ntmps31 rfl rfl fun fx => ?_
 refine SC.seq ?_
 refine SC.reg ?_
 refine SL.eff (e_box (E := 48) [ci .i64 a_1.LLID, .s 0] (by kernel_rfl)) rfl (by kernel_rfl) ?_
 refine SL.eff (e_box (E := 48) [ci .i64 b_2.LLID, .s 1] (by kernel_rfl)) rfl (by kernel_rfl) ?_
 refine SL.sim tk 1 [(2, vp 2 0), (3, vp 3 0)] [] [] [] (by kernel_rfl) ?_
 refine SL.nilThen ?_
 refine SC.seq ?_
 refine SC.reg ?_
 refine SL.sim tk 6 [(2, vp 2 0), (3, vp 3 0), (10, vb (a_1.LLID == b_2.LLID))] [] [] [] (by kernel_rfl) ?_
 obtain ⟨z_4, hz, hpr⟩ := bind_inv hp
 clear hp
 refine SL.cutAt 6 (fun a w => A 17 2 fx [(16, vb z_4)] [.gone, .gone] a w) ?_ ?_
 · have hp := hz
   rcases Bool.eq_false_or_eq_true ((a_1.LLID == b_2.LLID)) with hg_3 | hg_3
   · replace hp := if_t hp hg_3
     refine SL.yes rfl rfl hg_3 ?_
     refine SL.sim tk 1 [(3, vp 3 0), (10, vb (a_1.LLID == b_2.LLID)), (11, vp 2 1)] [] [] [] (by kernel_rfl) ?_
     refine SL.yes rfl rfl hg_3 ?_
     refine SL.sim tk 1 [(3, vp 3 0), (10, vb (a_1.LLID == b_2.LLID)), (12, vs 0)] [] [] [] (by kernel_rfl) ?_
     refine SL.yes rfl rfl hg_3 ?_
     refine SL.sim tk 1 [(10, vb (a_1.LLID == b_2.LLID)), (12, vs 0), (13, vp 3 1)] [] [] [] (by kernel_rfl) ?_
     refine SL.yes rfl rfl hg_3 ?_
     refine SL.sim tk 1 [(10, vb (a_1.LLID == b_2.LLID)), (12, vs 0), (14, vs 1)] [] [] [] (by kernel_rfl) ?_
     refine SL.yes rfl rfl hg_3 ?_
     obtain ⟨x_6, e_x_6, hp⟩ := bind_inv hp
     refine SL.eff (e_c Try.call13 (ok_wirelessref23_Same F a_1.Payload b_2.Payload _ e_x_6) [.g 0, .g 1] [vs 0, vs 1] (vb x_6) (by kernel_rfl) (.inl rfl)) rfl (by kernel_rfl) ?_
     refine SL.norm (itsN := [.rd 1 R8 a_1.Payload, .rd 1 R8 b_2.Payload, .blk 48 [ci .i64 a_1.LLID, .s 0], .blk 48 [ci .i64 b_2.LLID, .s 1]]) (by kernel_rfl) ?_
     refine SL.pickt rfl hg_3 rfl rfl ?_
     refine SL.nilJ fun a w h => ?_
     obtain rfl := some_inv' hp
     exact h.at (js := [.g 0, .g 1]) (by kernel_rfl)
   · replace hp := if_f hp hg_3
     refine SL.no rfl rfl hg_3 rfl ?_
     refine SL.no rfl rfl hg_3 rfl ?_
     refine SL.no rfl rfl hg_3 rfl ?_
     refine SL.no rfl rfl hg_3 rfl ?_
     refine SL.no rfl rfl hg_3 rfl ?_
     refine SL.pickf rfl hg_3 rfl rfl ?_
     refine SL.nilJ fun a w h => ?_
     obtain rfl := some_inv' hp
     exact h.at (js := [.g 0, .g 1]) (by kernel_rfl)
 · intro a w h
   have hp := hpr; clear hpr hz
   refine h.goL ?_
   refine SL.sim tk 1 [(4, vb z_4)] [] [] [] (by kernel_rfl) ?_
   refine SL.nilThen ?_
   obtain rfl := some_inv' hp
   exact SC.re (js := [.g 0, .g 1]) tk (by kernel_rfl)

theorem ok_wirelessref23_SamePackets (F : Nat) (a_1 : (List T_api_Packet)) (b_2 : (List T_api_Packet)) (r : Bool) (hp : wirelessref23_SamePackets F a_1 b_2 = some r) : Spec Try.prog 18 [vs 0, vs 1] [.rd 2 R_T_api_Packet a_1, .rd 2 R_T_api_Packet b_2] (vb r) [.gone, .gone] := by
 refine Spec.enter Try.func18 rfl Try.ntmps18 rfl rfl fun fx => ?_
 refine SC.r tk [(0, vs 0), (1, vs 1)] [] [] [] (by kernel_rfl) ?_
 refine SC.seq ?_
 refine SC.r tk [(0, vs 0), (1, vs 1), (10, vb ((len a_1) != (len b_2)))] [] [] [] (by kernel_rfl) ?_
 refine SC.if' rfl hp (fun hp => ?_) (fun hp => ?_)
 · refine SC.r tk [(4, vb false)] [] [] [] (by kernel_rfl) ?_
   obtain rfl := some_inv' hp
   exact SC.re (js := [.g 0, .g 1]) tk (by kernel_rfl)
 · refine SC.skipThen ?_
   refine SC.cut (fun a w => wirelessref23_SamePackets_j1 F = some r ∧ A 27 2 fx [] [.gone, .gone] a w) ?_ ?_
   · refine SC.r tk [(0, vs 0), (1, vs 1), (5, vi .i64 0)] [] [] [] (by kernel_rfl) ?_
     refine SC.block ?_
     obtain ⟨o1, hi1, ho1⟩ := bind_inv hp
     clear hp
     refine SC.loop (fun n a w => ∃ (x_3 : Int), iter (fun s => wirelessref23_SamePackets_l1 F a_1 b_2 s) n (x_3) = some o1 ∧ A 27 2 fx [(0, vs 0), (1, vs 1), (5, vi .i64 x_3)] [.rd 2 R_T_api_Packet a_1, .rd 2 R_T_api_Packet b_2] a w) F (fun a w h => ⟨0, hi1, h.at (js := [.g 0, .g 1]) (by kernel_rfl)⟩) ?_
     rintro n1 a w ⟨x_3, hi1, h⟩
     obtain ⟨n1, q1, rfl, hp, hs1⟩ := iter_inv hi1
     replace hp : wirelessref23_SamePackets_l1 F a_1 b_2 x_3 = some q1 := hp
     clear hi1
     refine h.go ?_
     refine SC.seq ?_
     refine SC.r tk [(0, vs 0), (1, vs 1), (5, vi .i64 x_3), (14, vb (decide (x_3 < (len a_1))))] [] [] [] (by kernel_rfl) ?_
     refine SC.if' rfl hp (fun hp => ?_) (fun hp => ?_)
     · refine SC.skipThen ?_
       refine SC.seq ?_
       refine SC.block ?_
       refine SC.cut (fun a w => ∃ (z_4 : Bool), wirelessref23_SamePackets_j2 F x_3 z_4 = some q1 ∧ A 27 2 fx [(0, vs 0), (1, vs 1), (5, vi .i64 x_3), (26, vb z_4)] [.rd 2 R_T_api_Packet a_1, .rd 2 R_T_api_Packet b_2] a w) ?_ ?_
       · obtain ⟨x_5, e_x_5, hp⟩ := bind_inv hp
         obtain ⟨x_6, e_x_6, hp⟩ := bind_inv hp
         refine SC.pre (pre_ix (i := 0) (iv := x_3) (sz := 2) (R := R_T_api_Packet) (l := a_1) (by kernel_rfl) rfl e_x_5) ?_
         refine SC.pre (pre_ix (i := 1) (iv := x_3) (sz := 2) (R := R_T_api_Packet) (l := b_2) (by kernel_rfl) rfl e_x_6) ?_
         refine SC.draw MO [true, true, true, true, true, true] (by kernel_rfl) fun kap_7 D_8 => ?_
         refine SD.takes tk D_8 [] kn0 [0, 1, 2, 3, 4, 5, 6, 7] [.el 2, .el 4] [x_3, x_3] [true, true, true, true, true, true, true, true, false, false] [(0, vs 0), (1, vs 1), (5, vi .i64 x_3), (20, .g [ci .i64 x_5.LLID, .s 3]), (24, .g [ci .i64 x_6.LLID, .s 5])] rfl (by kernel_rfl) (by kernel_rfl) (by kernel_rfl) ?_
         obtain ⟨x_9, e_x_9, hp⟩ := bind_inv hp
         refine SD.all1 (i := 8) (by kernel_rfl) ?_
         refine SW.eff D_8 (i := 8) (bs' := [true, true, true, true, true, true, true, true, true, false]) rfl (.inl rfl) rfl (e_c Try.call31 (ok_wirelessref23_SamePacket F x_5 x_6 _ e_x_9) [.g 3, .g 5] [.g [ci .i64 x_5.LLID, .s 3], .g [ci .i64 x_6.LLID, .s 5]] (vb x_9) (by kernel_rfl) (.inl rfl)) (by kernel_rfl) rfl (by kernel_rfl) ?_
         refine SD.takes tk D_8 [] kn0 [9] [] [] [true, true, true, true, true, true, true, true, true, true] [(0, vs 0), (1, vs 1), (5, vi .i64 x_3), (26, vb (!x_9))] rfl (by kernel_rfl) (by kernel_rfl) (by kernel_rfl) ?_
         refine SD.done (by kernel_rfl) fun a w h => ?_
         exact ⟨(!x_9), hp, h.at (js := [.g 0, .g 1]) (by kernel_rfl)⟩
       · rintro a w ⟨z_4, hp, h⟩
         refine h.go ?_
         refine SC.if' rfl hp (fun hp => ?_) (fun hp => ?_)
         · refine SC.r tk [(4, vb false)] [] [] [] (by kernel_rfl) ?_
           have ho := done_inv hp hs1
           replace hp := ho1
           try rw [ho] at hp
           obtain rfl := some_inv' hp
           exact SC.re (js := [.g 0, .g 1]) tk (by kernel_rfl)
         · refine SC.skipThen ?_
           refine SC.reg ?_
           refine SL.sim tk 3 [(0, vs 0), (1, vs 1), (5, vi .i64 (w64 (x_3 + 1)))] [] [] [] (by kernel_rfl) ?_
           refine SL.nilJ fun a w h => ?_
           exact ⟨n1, Nat.lt_succ_self _, w64 (x_3 + 1), next_inv hp hs1, h.at (js := [.g 0, .g 1]) (by kernel_rfl)⟩
     · refine SC.exitJ rfl fun a w h => ?_
       have ho := done_inv hp hs1
       replace hp := ho1
       try rw [ho] at hp
       exact ⟨hp, h.at (js := [.g 0, .g 1]) (by kernel_rfl)⟩
   · rintro a w ⟨hp, h⟩
     refine h.go ?_
     refine SC.r tk [(4, vb true)] [] [] [] (by kernel_rfl) ?_
     obtain rfl := some_inv' hp
     exact SC.re (js := [.g 0, .g 1]) tk (by kernel_rfl)

theorem ok_wirelesslaw32_exampleHolds (F : Nat) (r : Bool) (hp : wirelesslaw32_exampleHolds F = some r) : Spec Try.prog 10 [] [] (vb r) [] := by
 refine Spec.enter Try.func10 rfl Try.ntmps10 rfl rfl fun fx => ?_
 refine SC.r tk [] [] [] [] (by kernel_rfl) ?_
 refine SC.seq ?_
 refine SC.reg ?_
 refine SL.eff (e_lit (sz := 1) (E := 5) (R := R8) (by_ := 1) tk [[ci .u8 7], [ci .u8 8]] [7, 8] (by kernel_rfl) ⟨Clo.int, ⟨Clo.int, trivial⟩⟩ rfl (by kernel_rfl) (by kernel_rfl)) rfl (by kernel_rfl) ?_
 refine SL.sim tk 1 [(16, .g [ci .u16 4, .s 0])] [] [] [] (by kernel_rfl) ?_
 refine SL.eff (e_alloc (E := 25) tk [ci .u16 0, nl] (by kernel_rfl)) rfl (by kernel_rfl) ?_
 refine SL.sim tk 1 [(1, vp 1 0)] [(1, 25, [ci .u16 4, .s 0])] [] [] (by kernel_rfl) ?_
 refine SL.nilThen ?_
 refine SC.seq ?_
 refine SC.reg ?_
 refine SL.sim tk 1 [(1, vp 1 0), (18, .g [ci .u16 4, .s 0])] [] [] [] (by kernel_rfl) ?_
 obtain ⟨x_1, e_x_1, hp⟩ := bind_inv hp
 refine SL.pre (pre_frz (i := 0) (sz := 1) (E := 5) (R := R8) (l := [7, 8]) (by kernel_rfl)) ?_
 refine SL.eff (e_c Try.call11 (ok_fragment_Encode F (T_api_Frame.mk 4 [7, 8]) _ e_x_1) [.g 0] [.g [ci .u16 4, .s 0]] (.u [.inl (.s 2), .inl (ci .i64 x_1.2)]) (by kernel_rfl) (.inl rfl)) rfl (by kernel_rfl) ?_
 refine SL.norm (itsN := [.rd 1 R8 [7, 8], .blk 25 [ci .u16 4, .s 0], .rd 1 R8 x_1.1]) (by kernel_rfl) ?_
 refine SL.sim tk 5 [(1, vp 1 0), (2, vs 2), (3, vi .i64 x_1.2)] [] [] [] (by kernel_rfl) ?_
 refine SL.nilThen ?_
 refine SC.seq ?_
 refine SC.reg ?_
 refine SL.sim tk 1 [(2, vs 2), (3, vi .i64 x_1.2), (23, .g [ci .u16 4, .s 0])] [] [] [] (by kernel_rfl) ?_
 obtain ⟨x_2, e_x_2, hp⟩ := bind_inv hp
 refine SL.eff (e_c Try.call16 (ok_fragment_Split F (T_api_Frame.mk 4 [7, 8]) 4 _ e_x_2) [.g 0] [.g [ci .u16 4, .s 0], vi .i64 4] (.u [.inl (.s 3), .inl (ci .i64 x_2.2)]) (by kernel_rfl) (.inl rfl)) rfl (by kernel_rfl) ?_
 refine SL.sim tk 5 [(2, vs 2), (3, vi .i64 x_1.2), (4, vs 3), (5, vi .i64 x_2.2)] [] [] [] (by kernel_rfl) ?_
 refine SL.nilThen ?_
 refine SC.seq ?_
 refine SC.reg ?_
 refine SL.sim tk 1 [(2, vs 2), (3, vi .i64 x_1.2), (4, vs 3), (5, vi .i64 x_2.2), (28, .g [cb false, nl])] [] [] [] (by kernel_rfl) ?_
 refine SL.eff (e_lit (sz := 1) (E := 5) (R := R8) (by_ := 1) tk [[ci .u8 1]] [1] (by kernel_rfl) ⟨Clo.int, trivial⟩ rfl (by kernel_rfl) (by kernel_rfl)) rfl (by kernel_rfl) ?_
 refine SL.sim tk 1 [(2, vs 2), (3, vi .i64 x_1.2), (4, vs 3), (5, vi .i64 x_2.2), (28, .g [cb false, nl]), (30, .g [ci .i64 1, .s 4])] [] [] [] (by kernel_rfl) ?_
 obtain ⟨x_3, e_x_3, hp⟩ := bind_inv hp
 refine SL.pre (pre_frz (i := 4) (sz := 1) (E := 5) (R := R8) (l := [1]) (by kernel_rfl)) ?_
 refine SL.eff (e_c Try.call21 (ok_fragment_Feed F (T_api_Assembler.mk false []) (T_api_Packet.mk 1 [1]) _ e_x_3) [.n, .g 4] [.g [cb false, nl], .g [ci .i64 1, .s 4]] (.u [.inr [cb x_3.1.On, .s 5], .inl (.s 6), .inl (ci .i64 x_3.2.2)]) (by kernel_rfl) (.inl rfl)) rfl (by kernel_rfl) ?_
 refine SL.norm (itsN := [.rd 1 R8 [7, 8], .blk 25 [ci .u16 4, .s 0], .rd 1 R8 x_1.1, .rd 2 R_T_api_Packet x_2.1, .rd 1 R8 [1], .rd 1 R8 x_3.1.Buffer, .rd 2 R_T_api_Frame x_3.2.1]) (by kernel_rfl) ?_
 refine SL.sim tk 4 [(2, vs 2), (3, vi .i64 x_1.2), (4, vs 3), (5, vi .i64 x_2.2), (32, .g [cb x_3.1.On, .s 5]), (33, vs 6), (34, vi .i64 x_3.2.2)] [] [] [] (by kernel_rfl) ?_
 refine SL.eff (e_alloc (E := 41) tk [cb false, nl] (by kernel_rfl)) rfl (by kernel_rfl) ?_
 refine SL.sim tk 3 [(2, vs 2), (3, vi .i64 x_1.2), (4, vs 3), (5, vi .i64 x_2.2), (8, vi .i64 x_3.2.2)] [(7, 41, [cb x_3.1.On, .s 5])] [] [] (by kernel_rfl) ?_
 refine SL.nilThen ?_
 refine SC.seq ?_
 refine SC.reg ?_
 refine SL.sim tk 1 [(2, vs 2), (3, vi .i64 x_1.2), (4, vs 3), (5, vi .i64 x_2.2), (8, vi .i64 x_3.2.2), (36, .g [cb false, nl])] [] [] [] (by kernel_rfl) ?_
 refine SL.eff (e_lit (sz := 1) (E := 5) (R := R8) (by_ := 1) tk [[ci .u8 1], [ci .u8 0], [ci .u8 4], [ci .u8 0], [ci .u8 7], [ci .u8 8]] [1, 0, 4, 0, 7, 8] (by kernel_rfl) ⟨Clo.int, ⟨Clo.int, ⟨Clo.int, ⟨Clo.int, ⟨Clo.int, ⟨Clo.int, trivial⟩⟩⟩⟩⟩⟩ rfl (by kernel_rfl) (by kernel_rfl)) rfl (by kernel_rfl) ?_
 refine SL.sim tk 1 [(2, vs 2), (3, vi .i64 x_1.2), (4, vs 3), (5, vi .i64 x_2.2), (8, vi .i64 x_3.2.2), (36, .g [cb false, nl]), (38, .g [ci .i64 2, .s 8])] [] [] [] (by kernel_rfl) ?_
 obtain ⟨x_4, e_x_4, hp⟩ := bind_inv hp
 refine SL.pre (pre_frz (i := 8) (sz := 1) (E := 5) (R := R8) (l := [1, 0, 4, 0, 7, 8]) (by kernel_rfl)) ?_
 refine SL.eff (e_c Try.call21 (ok_fragment_Feed F (T_api_Assembler.mk false []) (T_api_Packet.mk 2 [1, 0, 4, 0, 7, 8]) _ e_x_4) [.n, .g 8] [.g [cb false, nl], .g [ci .i64 2, .s 8]] (.u [.inr [cb x_4.1.On, .s 9], .inl (.s 10), .inl (ci .i64 x_4.2.2)]) (by kernel_rfl) (.inl rfl)) rfl (by kernel_rfl) ?_
 refine SL.norm (itsN := [.rd 1 R8 [7, 8], .blk 25 [ci .u16 4, .s 0], .rd 1 R8 x_1.1, .rd 2 R_T_api_Packet x_2.1, .rd 1 R8 [1], .rd 1 R8 x_3.1.Buffer, .rd 2 R_T_api_Frame x_3.2.1, .blk 41 [cb x_3.1.On, .s 5], .rd 1 R8 [1, 0, 4, 0, 7, 8], .rd 1 R8 x_4.1.Buffer, .rd 2 R_T_api_Frame x_4.2.1]) (by kernel_rfl) ?_
 refine SL.sim tk 4 [(2, vs 2), (3, vi .i64 x_1.2), (4, vs 3), (5, vi .i64 x_2.2), (8, vi .i64 x_3.2.2), (40, .g [cb x_4.1.On, .s 9]), (41, vs 10), (42, vi .i64 x_4.2.2)] [] [] [] (by kernel_rfl) ?_
 refine SL.eff (e_alloc (E := 41) tk [cb false, nl] (by kernel_rfl)) rfl (by kernel_rfl) ?_
 refine SL.sim tk 3 [(2, vs 2), (3, vi .i64 x_1.2), (4, vs 3), (5, vi .i64 x_2.2), (8, vi .i64 x_3.2.2), (11, vi .i64 x_4.2.2)] [(11, 41, [cb x_4.1.On, .s 9])] [] [] (by kernel_rfl) ?_
 refine SL.nilThen ?_
 refine SC.seq ?_
 refine SC.reg ?_
 refine SL.eff (e_lit (sz := 1) (E := 5) (R := R8) (by_ := 1) tk [[ci .u8 0], [ci .u8 0], [ci .u8 4], [ci .u8 0]] [0, 0, 4, 0] (by kernel_rfl) ⟨Clo.int, ⟨Clo.int, ⟨Clo.int, ⟨Clo.int, trivial⟩⟩⟩⟩ rfl (by kernel_rfl) (by kernel_rfl)) rfl (by kernel_rfl) ?_
 obtain ⟨x_5, e_x_5, hp⟩ := bind_inv hp
 refine SL.pre (pre_frz (i := 12) (sz := 1) (E := 5) (R := R8) (l := [0, 0, 4, 0]) (by kernel_rfl)) ?_
 refine SL.eff (e_c Try.call14 (ok_fragment_Decode F [0, 0, 4, 0] _ e_x_5) [.g 12] [vs 12] (.u [.inr [ci .u16 x_5.1.CID, .s 13], .inl (ci .i64 x_5.2)]) (by kernel_rfl) (.inl rfl)) rfl (by kernel_rfl) ?_
 refine SL.norm (itsN := [.rd 1 R8 [7, 8], .blk 25 [ci .u16 4, .s 0], .rd 1 R8 x_1.1, .rd 2 R_T_api_Packet x_2.1, .rd 1 R8 [1], .rd 1 R8 x_3.1.Buffer, .rd 2 R_T_api_Frame x_3.2.1, .blk 41 [cb x_3.1.On, .s 5], .rd 1 R8 [1, 0, 4, 0, 7, 8], .rd 1 R8 x_4.1.Buffer, .rd 2 R_T_api_Frame x_4.2.1, .blk 41 [cb x_4.1.On, .s 9], .rd 1 R8 [0, 0, 4, 0], .rd 1 R8 x_5.1.Payload]) (by kernel_rfl) ?_
 refine SL.sim tk 3 [(2, vs 2), (3, vi .i64 x_1.2), (4, vs 3), (5, vi .i64 x_2.2), (8, vi .i64 x_3.2.2), (11, vi .i64 x_4.2.2), (46, .g [ci .u16 x_5.1.CID, .s 13]), (47, vi .i64 x_5.2)] [] [] [] (by kernel_rfl) ?_
 refine SL.eff (e_alloc (E := 25) tk [ci .u16 0, nl] (by kernel_rfl)) rfl (by kernel_rfl) ?_
 refine SL.sim tk 2 [(2, vs 2), (3, vi .i64 x_1.2), (4, vs 3), (5, vi .i64 x_2.2), (8, vi .i64 x_3.2.2), (11, vi .i64 x_4.2.2), (12, vp 14 0), (13, vi .i64 x_5.2)] [(14, 25, [ci .u16 x_5.1.CID, .s 13])] [] [] (by kernel_rfl) ?_
 refine SL.nilThen ?_
 refine SC.seq ?_
 refine SC.reg ?_
 refine SL.eff (e_lit (sz := 1) (E := 5) (R := R8) (by_ := 1) tk [[ci .u8 2], [ci .u8 0], [ci .u8 4], [ci .u8 0]] [2, 0, 4, 0] (by kernel_rfl) ⟨Clo.int, ⟨Clo.int, ⟨Clo.int, ⟨Clo.int, trivial⟩⟩⟩⟩ rfl (by kernel_rfl) (by kernel_rfl)) rfl (by kernel_rfl) ?_
 refine SL.sim tk 1 [(2, vs 2), (3, vi .i64 x_1.2), (4, vs 3), (5, vi .i64 x_2.2), (8, vi .i64 x_3.2.2), (11, vi .i64 x_4.2.2), (12, vp 14 0), (13, vi .i64 x_5.2), (49, .g [ci .i64 2, .s 15])] [] [] [] (by kernel_rfl) ?_
 refine SL.eff (e_lit (sz := 1) (E := 5) (R := R8) (by_ := 1) tk [[ci .u8 7], [ci .u8 8]] [7, 8] (by kernel_rfl) ⟨Clo.int, ⟨Clo.int, trivial⟩⟩ rfl (by kernel_rfl) (by kernel_rfl)) rfl (by kernel_rfl) ?_
 refine SL.norm (itsN := [.rd 1 R8 [7, 8], .blk 25 [ci .u16 4, .s 0], .rd 1 R8 x_1.1, .rd 2 R_T_api_Packet x_2.1, .rd 1 R8 [1], .rd 1 R8 x_3.1.Buffer, .rd 2 R_T_api_Frame x_3.2.1, .blk 41 [cb x_3.1.On, .s 5], .rd 1 R8 [1, 0, 4, 0, 7, 8], .rd 1 R8 x_4.1.Buffer, .rd 2 R_T_api_Frame x_4.2.1, .blk 41 [cb x_4.1.On, .s 9], .rd 1 R8 [0, 0, 4, 0], .rd 1 R8 x_5.1.Payload, .blk 25 [ci .u16 x_5.1.CID, .s 13], .own 1 5 R8 [2, 0, 4, 0], .own 1 5 R8 [7, 8]]) (by kernel_rfl) ?_
 refine SL.sim tk 1 [(2, vs 2), (3, vi .i64 x_1.2), (4, vs 3), (5, vi .i64 x_2.2), (8, vi .i64 x_3.2.2), (11, vi .i64 x_4.2.2), (12, vp 14 0), (13, vi .i64 x_5.2), (49, .g [ci .i64 2, .s 15]), (51, .g [ci .i64 1, .s 16])] [] [] [] (by kernel_rfl) ?_
 refine SL.pre (pre_frz (i := 16) (sz := 1) (E := 5) (R := R8) (l := [7, 8]) (by kernel_rfl)) ?_
 refine SL.pre (pre_frz (i := 15) (sz := 1) (E := 5) (R := R8) (l := [2, 0, 4, 0]) (by kernel_rfl)) ?_
 refine SL.eff (e_lit (sz := 2) (E := 48) (R := R_T_api_Packet) (by_ := 32) tk [[ci .i64 2, .s 15], [ci .i64 1, .s 16]] [(T_api_Packet.mk 2 [2, 0, 4, 0]), (T_api_Packet.mk 1 [7, 8])] (by kernel_rfl) ⟨(clo_T_api_Packet (x := (T_api_Packet.mk 2 [2, 0, 4, 0])) (Clo.sl (by kernel_rfl))), ⟨(clo_T_api_Packet (x := (T_api_Packet.mk 1 [7, 8])) (Clo.sl (by kernel_rfl))), trivial⟩⟩ rfl (by kernel_rfl) (by kernel_rfl)) rfl (by kernel_rfl) ?_
 refine SL.sim tk 1 [(2, vs 2), (3, vi .i64 x_1.2), (4, vs 3), (5, vi .i64 x_2.2), (8, vi .i64 x_3.2.2), (11, vi .i64 x_4.2.2), (12, vp 14 0), (13, vi .i64 x_5.2), (14, vs 17)] [] [] [] (by kernel_rfl) ?_
 refine SL.nilThen ?_
 refine SC.seq ?_
 refine SC.reg ?_
 refine SL.sim tk 3 [(2, vs 2), (4, vs 3), (5, vi .i64 x_2.2), (8, vi .i64 x_3.2.2), (11, vi .i64 x_4.2.2), (12, vp 14 0), (13, vi .i64 x_5.2), (14, vs 17), (55, vb (x_1.2 == 0))] [] [] [] (by kernel_rfl) ?_
 obtain ⟨z_7, hz, hpr⟩ := bind_inv hp
 clear hp
 refine SL.cutAt 4 (fun a w => A 92 0 fx [(4, vs 0), (5, vi .i64 x_2.2), (8, vi .i64 x_3.2.2), (11, vi .i64 x_4.2.2), (12, vp 1 0), (13, vi .i64 x_5.2), (14, vs 3), (59, vb z_7)] [.rd 2 R_T_api_Packet x_2.1, .blk 25 [ci .u16 x_5.1.CID, .s 2], .rd 1 R8 x_5.1.Payload, .own 2 48 R_T_api_Packet [(T_api_Packet.mk 2 [2, 0, 4, 0]), (T_api_Packet.mk 1 [7, 8])]] a w) ?_ ?_
 · have hp := hz
   rcases Bool.eq_false_or_eq_true ((x_1.2 == 0)) with hg_6 | hg_6
   · replace hp := if_t hp hg_6
     refine SL.yes rfl rfl hg_6 ?_
     refine SL.sim tk 1 [(4, vs 3), (5, vi .i64 x_2.2), (8, vi .i64 x_3.2.2), (11, vi .i64 x_4.2.2), (12, vp 14 0), (13, vi .i64 x_5.2), (14, vs 17), (55, vb (x_1.2 == 0)), (56, vs 2)] [] [] [] (by kernel_rfl) ?_
     refine SL.yes rfl rfl hg_6 ?_
     refine SL.eff (e_lit (sz := 1) (E := 5) (R := R8) (by_ := 1) tk [[ci .u8 2], [ci .u8 0], [ci .u8 4], [ci .u8 0], [ci .u8 7], [ci .u8 8]] [2, 0, 4, 0, 7, 8] (by kernel_rfl) ⟨Clo.int, ⟨Clo.int, ⟨Clo.int, ⟨Clo.int, ⟨Clo.int, ⟨Clo.int, trivial⟩⟩⟩⟩⟩⟩ rfl (by kernel_rfl) (by kernel_rfl)) rfl (by kernel_rfl) ?_
     refine SL.yes rfl rfl hg_6 ?_
     obtain ⟨x_13, e_x_13, hp⟩ := bind_inv hp
     refine SL.eff (e_c Try.call13 (ok_wirelessref23_Same F x_1.1 [2, 0, 4, 0, 7, 8] _ e_x_13) [.g 2, .l 18] [vs 2, vs 18] (vb x_13) (by kernel_rfl) (.inr ⟨trivial, trivial, trivial⟩)) rfl (by kernel_rfl) ?_
     refine SL.norm (itsN := [.rd 1 R8 [7, 8], .blk 25 [ci .u16 4, .s 0], .rd 1 R8 x_1.1, .rd 2 R_T_api_Packet x_2.1, .rd 1 R8 [1], .rd 1 R8 x_3.1.Buffer, .rd 2 R_T_api_Frame x_3.2.1, .blk 41 [cb x_3.1.On, .s 5], .rd 1 R8 [1, 0, 4, 0, 7, 8], .rd 1 R8 x_4.1.Buffer, .rd 2 R_T_api_Frame x_4.2.1, .blk 41 [cb x_4.1.On, .s 9], .rd 1 R8 [0, 0, 4, 0], .rd 1 R8 x_5.1.Payload, .blk 25 [ci .u16 x_5.1.CID, .s 13], .rd 1 R8 [2, 0, 4, 0], .rd 1 R8 [7, 8], .own 2 48 R_T_api_Packet [(T_api_Packet.mk 2 [2, 0, 4, 0]), (T_api_Packet.mk 1 [7, 8])], .own 1 5 R8 [2, 0, 4, 0, 7, 8]]) (by kernel_rfl) ?_
     refine SL.pickt rfl hg_6 rfl rfl ?_
     refine SL.nilJ fun a w h => ?_
     obtain rfl := some_inv' hp
     exact h.at (js := [.g 3, .g 14, .g 13, .g 17]) (by kernel_rfl)
   · replace hp := if_f hp hg_6
     refine SL.no rfl rfl hg_6 rfl ?_
     refine SL.no rfl rfl hg_6 rfl ?_
     refine SL.no rfl rfl hg_6 rfl ?_
     refine SL.pickf rfl hg_6 rfl rfl ?_
     refine SL.nilJ fun a w h => ?_
     obtain rfl := some_inv' hp
     exact h.at (js := [.g 3, .g 14, .g 13, .g 17]) (by kernel_rfl)
 · intro a w h
   have hp := hpr; clear hpr hz
   refine h.goL ?_
   refine SL.sim tk 5 [(4, vs 0), (8, vi .i64 x_3.2.2), (11, vi .i64 x_4.2.2), (12, vp 1 0), (13, vi .i64 x_5.2), (14, vs 3), (64, vb (z_7 && (x_2.2 == 0)))] [] [] [] (by kernel_rfl) ?_
   obtain ⟨z_9, hz, hpr⟩ := bind_inv hp
   clear hp
   refine SL.cutAt 4 (fun a w => A 92 0 fx [(8, vi .i64 x_3.2.2), (11, vi .i64 x_4.2.2), (12, vp 0 0), (13, vi .i64 x_5.2), (68, vb z_9)] [.blk 25 [ci .u16 x_5.1.CID, .s 1], .rd 1 R8 x_5.1.Payload] a w) ?_ ?_
   · have hp := hz
     rcases Bool.eq_false_or_eq_true ((z_7 && (x_2.2 == 0))) with hg_8 | hg_8
     · replace hp := if_t hp hg_8
       refine SL.yes rfl rfl hg_8 ?_
       refine SL.sim tk 1 [(8, vi .i64 x_3.2.2), (11, vi .i64 x_4.2.2), (12, vp 1 0), (13, vi .i64 x_5.2), (14, vs 3), (64, vb (z_7 && (x_2.2 == 0))), (65, vs 0)] [] [] [] (by kernel_rfl) ?_
       refine SL.yes rfl rfl hg_8 ?_
       refine SL.sim tk 1 [(8, vi .i64 x_3.2.2), (11, vi .i64 x_4.2.2), (12, vp 1 0), (13, vi .i64 x_5.2), (64, vb (z_7 && (x_2.2 == 0))), (65, vs 0), (66, vs 3)] [] [] [] (by kernel_rfl) ?_
       refine SL.yes rfl rfl hg_8 ?_
       obtain ⟨x_11, e_x_11, hp⟩ := bind_inv hp
       refine SL.eff (e_c Try.call18 (ok_wirelessref23_SamePackets F x_2.1 [(T_api_Packet.mk 2 [2, 0, 4, 0]), (T_api_Packet.mk 1 [7, 8])] _ e_x_11) [.g 0, .l 3] [vs 0, vs 3] (vb x_11) (by kernel_rfl) (.inr ⟨trivial, trivial, trivial⟩)) rfl (by kernel_rfl) ?_
       refine SL.pickt rfl hg_8 rfl rfl ?_
       refine SL.nilJ fun a w h => ?_
       obtain rfl := some_inv' hp
       exact h.at (js := [.g 1, .g 2]) (by kernel_rfl)
     · replace hp := if_f hp hg_8
       refine SL.no rfl rfl hg_8 rfl ?_
       refine SL.no rfl rfl hg_8 rfl ?_
       refine SL.no rfl rfl hg_8 rfl ?_
       refine SL.pickf rfl hg_8 rfl rfl ?_
       refine SL.nilJ fun a w h => ?_
       obtain rfl := some_inv' hp
       exact h.at (js := [.g 1, .g 2]) (by kernel_rfl)
   · intro a w h
     have hp := hpr; clear hpr hz
     refine h.goL ?_
     refine SL.sim tk 24 [(0, vb (((((z_9 && (x_3.2.2 == 13)) && (x_4.2.2 == 4)) && (x_5.2 == 0)) && (x_5.1.CID == 4)) && ((len x_5.1.Payload) == 0)))] [] [] [] (by kernel_rfl) ?_
     refine SL.nilThen ?_
     obtain rfl := some_inv' hp
     exact SC.re (js := []) tk (by kernel_rfl)

theorem ok_wirelessref23_Put (F : Nat) (n_1 : Int) (size_2 : Int) (r : (List Int)) (hp : wirelessref23_Put F n_1 size_2 = some r) : Spec Try.prog 27 [vi .u64 n_1, vi .i64 size_2] [] (vs 0) [.own 1 5 R8 r] := by
 refine Spec.enter Try.func27 rfl Try.ntmps27 rfl rfl fun fx => ?_
 refine SC.r tk [(0, vi .u64 n_1), (1, vi .i64 size_2)] [] [] [] (by kernel_rfl) ?_
 refine SC.r tk [(0, vi .u64 n_1), (1, vi .i64 size_2), (5, vn)] [] [] [] (by kernel_rfl) ?_
 refine SC.cut (fun a w => ∃ (l_3 : (List Int)), wirelessref23_Put_j1 F l_3 = some r ∧ A 21 0 fx [(5, vs 0)] [.own 1 5 R8 l_3] a w) ?_ ?_
 · refine SC.r tk [(0, vi .u64 n_1), (1, vi .i64 size_2), (5, vn), (6, vi .i64 0)] [] [] [] (by kernel_rfl) ?_
   refine SC.block ?_
   obtain ⟨o1, hi1, ho1⟩ := bind_inv hp
   clear hp
   refine SC.loop (fun n a w => ∃ (x_4 : Int) (l_5 : (List Int)) (x_6 : Int), iter (fun s => wirelessref23_Put_l1 F size_2 s.1 s.2.1 s.2.2) n (x_4, l_5, x_6) = some o1 ∧ A 21 0 fx [(0, vi .u64 x_4), (1, vi .i64 size_2), (5, vs 0), (6, vi .i64 x_6)] [.own 1 5 R8 l_5] a w) F (fun a w h => ⟨n_1, [], 0, hi1, h.at (js := [.n]) (by kernel_rfl)⟩) ?_
   rintro n1 a w ⟨x_4, l_5, x_6, hi1, h⟩
   obtain ⟨n1, q1, rfl, hp, hs1⟩ := iter_inv hi1
   replace hp : wirelessref23_Put_l1 F size_2 x_4 l_5 x_6 = some q1 := hp
   clear hi1
   refine h.go ?_
   refine SC.seq ?_
   refine SC.r tk [(0, vi .u64 x_4), (1, vi .i64 size_2), (5, vs 0), (6, vi .i64 x_6), (9, vb (decide (x_6 < size_2)))] [] [] [] (by kernel_rfl) ?_
   refine SC.if' rfl hp (fun hp => ?_) (fun hp => ?_)
   · refine SC.skipThen ?_
     refine SC.seq ?_
     refine SC.block ?_
     refine SC.seq ?_
     refine SC.reg ?_
     obtain ⟨x_7, e_x_7, hp⟩ := bind_inv hp
     refine SL.sim tk 4 [(0, vi .u64 x_4), (1, vi .i64 size_2), (5, vs 0), (6, vi .i64 x_6), (12, vs 0), (15, vi .u8 (wu8 x_7))] [] [.bin .rem .u64 x_4 256 x_7 e_x_7] [x_4, 256] (by kernel_rfl) ?_
     refine SL.eff (e_lit (sz := 1) (E := 5) (R := R8) (by_ := 1) tk [[ci .u8 (wu8 x_7)]] [wu8 x_7] (by kernel_rfl) ⟨Clo.int, trivial⟩ rfl (by kernel_rfl) (by kernel_rfl)) rfl (by kernel_rfl) ?_
     obtain ⟨l_8, e_l_8, hp⟩ := bind_inv hp
     refine SL.eff (e_app (i := 0) (l := l_5) (sz := 1) (E := 5) (R := R8) (by_ := 1) (m := [wu8 x_7]) tk rfl (by kernel_rfl) rfl (.o 5 (by kernel_rfl)) e_l_8 (by kernel_rfl)) rfl (by kernel_rfl) ?_
     refine SL.sim tk 1 [(0, vi .u64 x_4), (1, vi .i64 size_2), (5, vs 2), (6, vi .i64 x_6)] [] [] [] (by kernel_rfl) ?_
     refine SL.nilThen ?_
     refine SC.reg ?_
     obtain ⟨x_9, e_x_9, hp⟩ := bind_inv hp
     refine SL.sim tk 3 [(0, vi .u64 x_9), (1, vi .i64 size_2), (5, vs 2), (6, vi .i64 x_6)] [] [.bin .quo .u64 x_4 256 x_9 e_x_9] [x_4, 256] (by kernel_rfl) ?_
     refine SL.nilThen ?_
     refine SC.reg ?_
     refine SL.sim tk 3 [(0, vi .u64 x_9), (1, vi .i64 size_2), (5, vs 2), (6, vi .i64 (w64 (x_6 + 1)))] [] [] [] (by kernel_rfl) ?_
     refine SL.nilJ fun a w h => ?_
     exact ⟨n1, Nat.lt_succ_self _, x_9, l_8, w64 (x_6 + 1), next_inv hp hs1, h.at (js := [.g 2]) (by kernel_rfl)⟩
   · refine SC.exitJ rfl fun a w h => ?_
     have ho := done_inv hp hs1
     replace hp := ho1
     try rw [ho] at hp
     exact ⟨l_5, hp, h.at (js := [.g 0]) (by kernel_rfl)⟩
 · rintro a w ⟨l_3, hp, h⟩
   refine h.go ?_
   refine SC.r tk [(4, vs 0)] [] [] [] (by kernel_rfl) ?_
   obtain rfl := some_inv' hp
   exact SC.re (js := [.g 0]) tk (by kernel_rfl)

theorem ok_wirelessref32_Encode (F : Nat) (f_1 : T_api_Frame) (r : (List Int) × Int) (hp : wirelessref32_Encode F f_1 = some r) : Spec Try.prog 12 [.g [ci .u16 f_1.CID, .s 0]] [.rd 1 R8 f_1.Payload] (.u [.inl (.s 1), .inl (ci .i64 r.2)]) [.gone, .rd 1 R8 r.1] := by
 refine Spec.enter Try.func12 rfl Try.ntmps12 rfl rfl fun fx => ?_
 refine SC.seq ?_
 refine SC.reg ?_
 refine SL.eff (e_box (E := 25) [ci .u16 f_1.CID, .s 0] (by kernel_rfl)) rfl (by kernel_rfl) ?_
 refine SL.sim tk 2 [(1, vp 1 0)] [] [] [] (by kernel_rfl) ?_
 refine SL.nilThen ?_
 refine SC.seq ?_
 refine SC.r tk [(1, vp 1 0), (7, vb (f_1.CID == 0))] [] [] [] (by kernel_rfl) ?_
 refine SC.if' rfl hp (fun hp => ?_) (fun hp => ?_)
 · refine SC.r tk [(2, vn), (3, vi .i64 1)] [] [] [] (by kernel_rfl) ?_
   obtain rfl := some_inv' hp
   exact SC.re (js := [.g 0, .n]) tk (by kernel_rfl)
 · refine SC.skipThen ?_
   refine SC.seq ?_
   refine SC.r tk [(1, vp 1 0), (11, vb (decide ((len f_1.Payload) > 65531)))] [] [] [] (by kernel_rfl) ?_
   refine SC.if' rfl hp (fun hp => ?_) (fun hp => ?_)
   · refine SC.r tk [(2, vn), (3, vi .i64 4)] [] [] [] (by kernel_rfl) ?_
     obtain rfl := some_inv' hp
     exact SC.re (js := [.g 0, .n]) tk (by kernel_rfl)
   · refine SC.skipThen ?_
     refine SC.cut (fun a w => ∃ (l_2 : (List Int)), wirelessref32_Encode_j1 F f_1 l_2 = some r ∧ A 26 1 fx [(1, vp 1 0), (4, vs 2)] [.rd 1 R8 f_1.Payload, .blk 25 [ci .u16 f_1.CID, .s 0], .own 1 5 R8 l_2] a w) ?_ ?_
     · refine SC.draw MO [true, true] (by kernel_rfl) fun kap_4 D_5 => ?_
       refine SD.takes tk D_5 [] kn0 [0, 1, 2, 3, 5, 6, 7] [] [] [true, true, true, true, false, true, true, true, false, false, false] [(1, vp 1 0), (15, vi .u64 (wu64 (len f_1.Payload))), (19, vi .u64 (wu64 f_1.CID))] rfl (by kernel_rfl) (by kernel_rfl) (by kernel_rfl) ?_
       obtain ⟨x_6, e_x_6, hp⟩ := bind_inv hp
       refine SD.all1 (i := 4) (by kernel_rfl) ?_
       refine SW.eff D_5 (i := 4) (bs' := [true, true, true, true, true, true, true, true, false, false, false]) rfl (.inl rfl) rfl (e_c Try.call27 (ok_wirelessref23_Put F (wu64 (len f_1.Payload)) 2 _ e_x_6) [] [vi .u64 (wu64 (len f_1.Payload)), vi .i64 2] (vs 2) (by kernel_rfl) (.inl rfl)) (by kernel_rfl) rfl (by kernel_rfl) ?_
       obtain ⟨x_7, e_x_7, hp⟩ := bind_inv hp
       refine SD.all1 (i := 8) (by kernel_rfl) ?_
       refine SW.eff D_5 (i := 8) (bs' := [true, true, true, true, true, true, true, true, true, false, false]) rfl (.inl rfl) rfl (e_c Try.call27 (ok_wirelessref23_Put F (wu64 f_1.CID) 2 _ e_x_7) [] [vi .u64 (wu64 f_1.CID), vi .i64 2] (vs 3) (by kernel_rfl) (.inl rfl)) (by kernel_rfl) rfl (by kernel_rfl) ?_
       refine SD.norm (itsN := [.rd 1 R8 f_1.Payload, .blk 25 [ci .u16 f_1.CID, .s 0], .own 1 5 R8 x_6, .own 1 5 R8 x_7]) (by kernel_rfl) ?_
       obtain ⟨l_8, e_l_8, hp⟩ := bind_inv hp
       refine SD.all1 (i := 9) (by kernel_rfl) ?_
       refine SW.eff D_5 (i := 9) (bs' := [true, true, true, true, true, true, true, true, true, true, false]) rfl (.inl rfl) rfl (e_app (i := 2) (l := x_6) (sz := 1) (E := 5) (R := R8) (by_ := 1) (m := x_7) tk rfl (by kernel_rfl) rfl (.o 5 (by kernel_rfl)) e_l_8 (by kernel_rfl)) (by kernel_rfl) rfl (by kernel_rfl) ?_
       refine SD.takes tk D_5 [] kn0 [10] [] [] [true, true, true, true, true, true, true, true, true, true, true] [(1, vp 1 0), (4, vs 4)] rfl (by kernel_rfl) (by kernel_rfl) (by kernel_rfl) ?_
       refine SD.done (by kernel_rfl) fun a w h => ?_
       exact ⟨l_8, hp, h.at (js := [.g 0, .g 1, .g 4]) (by kernel_rfl)⟩
     · rintro a w ⟨l_2, hp, h⟩
       refine h.go ?_
       refine SC.seq ?_
       refine SC.reg ?_
       refine SL.sim tk 3 [(22, vs 2), (24, vs 0)] [] [] [] (by kernel_rfl) ?_
       obtain ⟨l_3, e_l_3, hp⟩ := bind_inv hp
       refine SL.eff (e_app (i := 2) (l := l_2) (sz := 1) (E := 5) (R := R8) (by_ := 1) (m := f_1.Payload) tk rfl (by kernel_rfl) rfl (.r (by kernel_rfl)) e_l_3 (by kernel_rfl)) rfl (by kernel_rfl) ?_
       refine SL.sim tk 2 [(2, vs 3), (3, vi .i64 0)] [] [] [] (by kernel_rfl) ?_
       refine SL.nilThen ?_
       obtain rfl := some_inv' hp
       exact SC.re (js := [.g 0, .z 3]) tk (by kernel_rfl)

theorem ok_wirelesslaw32_FragmentEncodes (F : Nat) (f_1 : T_api_Frame) (r : Bool) (hp : wirelesslaw32_FragmentEncodes F f_1 = some r) : Spec Try.prog 3 [.g [ci .u16 f_1.CID, .s 0]] [.rd 1 R8 f_1.Payload] (vb r) [.gone] := by
 refine Spec.enter Try.func3 rfl Try.ntmps3 rfl rfl fun fx => ?_
 refine SC.seq ?_
 refine SC.reg ?_
 refine SL.eff (e_box (E := 25) [ci .u16 f_1.CID, .s 0] (by kernel_rfl)) rfl (by kernel_rfl) ?_
 refine SL.sim tk 1 [(1, vp 1 0)] [] [] [] (by kernel_rfl) ?_
 refine SL.nilThen ?_
 refine SC.seq ?_
 refine SC.r tk [(1, vp 1 0), (10, vb (decide ((len f_1.Payload) > 131072)))] [] [] [] (by kernel_rfl) ?_
 refine SC.if' rfl hp (fun hp => ?_) (fun hp => ?_)
 · refine SC.seq ?_
   refine SC.reg ?_
   obtain ⟨x_2, e_x_2, hp⟩ := bind_inv hp
   refine SL.eff (e_c Try.call10 (ok_wirelesslaw32_exampleHolds F  _ e_x_2) [] [] (vb x_2) (by kernel_rfl) (.inl rfl)) rfl (by kernel_rfl) ?_
   refine SL.sim tk 1 [(2, vb x_2)] [] [] [] (by kernel_rfl) ?_
   refine SL.nilThen ?_
   obtain rfl := some_inv' hp
   exact SC.re (js := [.g 0]) tk (by kernel_rfl)
 · refine SC.skipThen ?_
   refine SC.seq ?_
   refine SC.reg ?_
   refine SL.sim tk 1 [(1, vp 1 0), (13, .g [ci .u16 f_1.CID, .s 0])] [] [] [] (by kernel_rfl) ?_
   obtain ⟨x_3, e_x_3, hp⟩ := bind_inv hp
   refine SL.eff (e_c Try.call11 (ok_fragment_Encode F f_1 _ e_x_3) [.g 0] [.g [ci .u16 f_1.CID, .s 0]] (.u [.inl (.s 2), .inl (ci .i64 x_3.2)]) (by kernel_rfl) (.inl rfl)) rfl (by kernel_rfl) ?_
   refine SL.sim tk 5 [(1, vp 1 0), (3, vs 2), (4, vi .i64 x_3.2)] [] [] [] (by kernel_rfl) ?_
   refine SL.nilThen ?_
   refine SC.seq ?_
   refine SC.reg ?_
   refine SL.sim tk 1 [(3, vs 2), (4, vi .i64 x_3.2), (18, .g [ci .u16 f_1.CID, .s 0])] [] [] [] (by kernel_rfl) ?_
   obtain ⟨x_4, e_x_4, hp⟩ := bind_inv hp
   refine SL.eff (e_c Try.call12 (ok_wirelessref32_Encode F f_1 _ e_x_4) [.g 0] [.g [ci .u16 f_1.CID, .s 0]] (.u [.inl (.s 3), .inl (ci .i64 x_4.2)]) (by kernel_rfl) (.inl rfl)) rfl (by kernel_rfl) ?_
   refine SL.norm (itsN := [.rd 1 R8 f_1.Payload, .blk 25 [ci .u16 f_1.CID, .s 0], .rd 1 R8 x_3.1, .rd 1 R8 x_4.1]) (by kernel_rfl) ?_
   refine SL.sim tk 5 [(3, vs 2), (4, vi .i64 x_3.2), (5, vs 3), (6, vi .i64 x_4.2)] [] [] [] (by kernel_rfl) ?_
   refine SL.nilThen ?_
   refine SC.seq ?_
   refine SC.reg ?_
   refine SL.sim tk 4 [(3, vs 2), (5, vs 3), (25, vb (x_3.2 == x_4.2))] [] [] [] (by kernel_rfl) ?_
   obtain ⟨z_6, hz, hpr⟩ := bind_inv hp
   clear hp
   refine SL.cutAt 4 (fun a w => A 33 1 fx [(29, vb z_6)] [.gone] a w) ?_ ?_
   · have hp := hz
     rcases Bool.eq_false_or_eq_true ((x_3.2 == x_4.2)) with hg_5 | hg_5
     · replace hp := if_t hp hg_5
       refine SL.yes rfl rfl hg_5 ?_
       refine SL.sim tk 1 [(5, vs 3), (25, vb (x_3.2 == x_4.2)), (26, vs 2)] [] [] [] (by kernel_rfl) ?_
       refine SL.yes rfl rfl hg_5 ?_
       refine SL.sim tk 1 [(25, vb (x_3.2 == x_4.2)), (26, vs 2), (27, vs 3)] [] [] [] (by kernel_rfl) ?_
       refine SL.yes rfl rfl hg_5 ?_
       obtain ⟨x_12, e_x_12, hp⟩ := bind_inv hp
       refine SL.eff (e_c Try.call13 (ok_wirelessref23_Same F x_3.1 x_4.1 _ e_x_12) [.g 2, .g 3] [vs 2, vs 3] (vb x_12) (by kernel_rfl) (.inl rfl)) rfl (by kernel_rfl) ?_
       refine SL.pickt rfl hg_5 rfl rfl ?_
       refine SL.nilJ fun a w h => ?_
       obtain rfl := some_inv' hp
       exact h.at (js := [.g 0]) (by kernel_rfl)
     · replace hp := if_f hp hg_5
       refine SL.no rfl rfl hg_5 rfl ?_
       refine SL.no rfl rfl hg_5 rfl ?_
       refine SL.no rfl rfl hg_5 rfl ?_
       refine SL.pickf rfl hg_5 rfl rfl ?_
       refine SL.nilJ fun a w h => ?_
       obtain rfl := some_inv' hp
       exact h.at (js := [.g 0]) (by kernel_rfl)
   · intro a w h
     have hp := hpr; clear hpr hz
     refine h.goL ?_
     refine SL.sim tk 1 [(30, vb z_6)] [] [] [] (by kernel_rfl) ?_
     obtain ⟨z_8, hz, hpr⟩ := bind_inv hp
     clear hp
     refine SL.cutAt 2 (fun a w => A 33 1 fx [(32, vb z_8)] [.gone] a w) ?_ ?_
     · have hp := hz
       rcases Bool.eq_false_or_eq_true (z_6) with hg_7 | hg_7
       · replace hp := if_t hp hg_7
         refine SL.yes rfl rfl hg_7 ?_
         obtain ⟨x_10, e_x_10, hp⟩ := bind_inv hp
         refine SL.eff (e_c Try.call10 (ok_wirelesslaw32_exampleHolds F  _ e_x_10) [] [] (vb x_10) (by kernel_rfl) (.inl rfl)) rfl (by kernel_rfl) ?_
         refine SL.pickt rfl hg_7 rfl rfl ?_
         refine SL.nilJ fun a w h => ?_
         obtain rfl := some_inv' hp
         exact h.at (js := [.g 0]) (by kernel_rfl)
       · replace hp := if_f hp hg_7
         refine SL.no rfl rfl hg_7 rfl ?_
         refine SL.pickf rfl hg_7 rfl rfl ?_
         refine SL.nilJ fun a w h => ?_
         obtain rfl := some_inv' hp
         exact h.at (js := [.g 0]) (by kernel_rfl)
     · intro a w h
       have hp := hpr; clear hpr hz
       refine h.goL ?_
       refine SL.sim tk 1 [(2, vb z_8)] [] [] [] (by kernel_rfl) ?_
       refine SL.nilThen ?_
       obtain rfl := some_inv' hp
       exact SC.re (js := [.g 0]) tk (by kernel_rfl)

theorem ok_wirelessref23_Num (F : Nat) (b_1 : (List Int)) (at_2 : Int) (size_3 : Int) (r : Int) (hp : wirelessref23_Num F b_1 at_2 size_3 = some r) : Spec Try.prog 37 [vs 0, vi .i64 at_2, vi .i64 size_3] [.rd 1 R8 b_1] (vi .u64 r) [.gone] := by
 refine Spec.enter Try.func37 rfl Try.ntmps37 rfl rfl fun fx => ?_
 refine SC.r tk [(0, vs 0), (1, vi .i64 at_2), (2, vi .i64 size_3)] [] [] [] (by kernel_rfl) ?_
 refine SC.r tk [(0, vs 0), (1, vi .i64 at_2), (2, vi .i64 size_3), (7, vi .u64 0)] [] [] [] (by kernel_rfl) ?_
 refine SC.cut (fun a w => ∃ (x_4 : Int), wirelessref23_Num_j1 F x_4 = some r ∧ A 26 1 fx [(7, vi .u64 x_4)] [.gone] a w) ?_ ?_
 · refine SC.r tk [(0, vs 0), (1, vi .i64 at_2), (7, vi .u64 0), (8, vi .i64 (w64 (size_3 - 1)))] [] [] [] (by kernel_rfl) ?_
   refine SC.block ?_
   obtain ⟨o1, hi1, ho1⟩ := bind_inv hp
   clear hp
   refine SC.loop (fun n a w => ∃ (x_5 : Int) (x_6 : Int), iter (fun s => wirelessref23_Num_l1 F b_1 at_2 s.1 s.2) n (x_5, x_6) = some o1 ∧ A 26 1 fx [(0, vs 0), (1, vi .i64 at_2), (7, vi .u64 x_5), (8, vi .i64 x_6)] [.rd 1 R8 b_1] a w) F (fun a w h => ⟨0, w64 (size_3 - 1), hi1, h.at (js := [.g 0]) (by kernel_rfl)⟩) ?_
   rintro n1 a w ⟨x_5, x_6, hi1, h⟩
   obtain ⟨n1, q1, rfl, hp, hs1⟩ := iter_inv hi1
   replace hp : wirelessref23_Num_l1 F b_1 at_2 x_5 x_6 = some q1 := hp
   clear hi1
   refine h.go ?_
   refine SC.seq ?_
   refine SC.r tk [(0, vs 0), (1, vi .i64 at_2), (7, vi .u64 x_5), (8, vi .i64 x_6), (12, vb (decide (x_6 ≥ 0)))] [] [] [] (by kernel_rfl) ?_
   refine SC.if' rfl hp (fun hp => ?_) (fun hp => ?_)
   · refine SC.skipThen ?_
     refine SC.seq ?_
     refine SC.block ?_
     refine SC.reg ?_
     obtain ⟨x_7, e_x_7, hp⟩ := bind_inv hp
     refine SL.pre (pre_ix (i := 0) (iv := w64 (at_2 + x_6)) (sz := 1) (R := R8) (l := b_1) (by kernel_rfl) rfl e_x_7) ?_
     refine SL.sim tk 11 [(0, vs 0), (1, vi .i64 at_2), (7, vi .u64 (wu64 ((wu64 (x_5 * 256)) + (wu64 x_7)))), (8, vi .i64 x_6)] [] [.el 1] [w64 (at_2 + x_6)] (by kernel_rfl) ?_
     refine SL.nilThen ?_
     refine SC.reg ?_
     refine SL.sim tk 3 [(0, vs 0), (1, vi .i64 at_2), (7, vi .u64 (wu64 ((wu64 (x_5 * 256)) + (wu64 x_7)))), (8, vi .i64 (w64 (x_6 - 1)))] [] [] [] (by kernel_rfl) ?_
     refine SL.nilJ fun a w h => ?_
     exact ⟨n1, Nat.lt_succ_self _, wu64 ((wu64 (x_5 * 256)) + (wu64 x_7)), w64 (x_6 - 1), next_inv hp hs1, h.at (js := [.g 0]) (by kernel_rfl)⟩
   · refine SC.exitJ rfl fun a w h => ?_
     have ho := done_inv hp hs1
     replace hp := ho1
     try rw [ho] at hp
     exact ⟨x_5, hp, h.at (js := [.g 0]) (by kernel_rfl)⟩
 · rintro a w ⟨x_4, hp, h⟩
   refine h.go ?_
   refine SC.r tk [(6, vi .u64 x_4)] [] [] [] (by kernel_rfl) ?_
   obtain rfl := some_inv' hp
   exact SC.re (js := [.g 0]) tk (by kernel_rfl)

theorem ok_wirelessref32_head (F : Nat) (b_1 : (List Int)) (r : Int × Int) (hp : wirelessref32_head F b_1 = some r) : Spec Try.prog 29 [vs 0] [.rd 1 R8 b_1] (.u [.inl (ci .i64 r.1), .inl (ci .u16 r.2)]) [.gone] := by
 refine Spec.enter Try.func29 rfl Try.ntmps29 rfl rfl fun fx => ?_
 refine SC.r tk [(0, vs 0)] [] [] [] (by kernel_rfl) ?_
 refine SC.seq ?_
 refine SC.reg ?_
 refine SL.sim tk 1 [(0, vs 0), (4, vs 0)] [] [] [] (by kernel_rfl) ?_
 obtain ⟨x_2, e_x_2, hp⟩ := bind_inv hp
 refine SL.eff (e_c Try.call37 (ok_wirelessref23_Num F b_1 0 2 _ e_x_2) [.g 0] [vs 0, vi .i64 0, vi .i64 2] (vi .u64 x_2) (by kernel_rfl) (.inl rfl)) rfl (by kernel_rfl) ?_
 refine SL.sim tk 2 [(6, vi .i64 (w64 x_2)), (7, vs 0)] [] [] [] (by kernel_rfl) ?_
 obtain ⟨x_3, e_x_3, hp⟩ := bind_inv hp
 refine SL.eff (e_c Try.call37 (ok_wirelessref23_Num F b_1 2 2 _ e_x_3) [.g 0] [vs 0, vi .i64 2, vi .i64 2] (vi .u64 x_3) (by kernel_rfl) (.inl rfl)) rfl (by kernel_rfl) ?_
 refine SL.norm (itsN := [.rd 1 R8 b_1]) (by kernel_rfl) ?_
 refine SL.sim tk 3 [(2, vi .i64 (w64 x_2)), (3, vi .u16 (wu16 x_3))] [] [] [] (by kernel_rfl) ?_
 refine SL.nilThen ?_
 obtain rfl := some_inv' hp
 exact SC.re (js := [.g 0]) tk (by kernel_rfl)

theorem ok_wirelessref32_Decode (F : Nat) (b_1 : (List Int)) (r : T_api_Frame × Int) (hp : wirelessref32_Decode F b_1 = some r) : Spec Try.prog 15 [vs 0] [.rd 1 R8 b_1] (.u [.inr [ci .u16 r.1.CID, .s 1], .inl (ci .i64 r.2)]) [.gone, .rd 1 R8 r.1.Payload] := by
 refine Spec.enter Try.func15 rfl Try.ntmps15 rfl rfl fun fx => ?_
 refine SC.seq ?_
 refine SC.reg ?_
 refine SL.eff (e_alloc (E := 25) tk [ci .u16 0, nl] (by kernel_rfl)) rfl (by kernel_rfl) ?_
 refine SL.sim tk 1 [(0, vs 0), (2, vp 1 0)] [] [] [] (by kernel_rfl) ?_
 refine SL.nilThen ?_
 refine SC.seq ?_
 refine SC.r tk [(0, vs 0), (2, vp 1 0), (8, vb (decide ((len b_1) < 4)))] [] [] [] (by kernel_rfl) ?_
 refine SC.if' rfl hp (fun hp => ?_) (fun hp => ?_)
 · refine SC.r tk [(2, vp 1 0), (3, vi .i64 3)] [(1, 25, [ci .u16 0, nl])] [] [] (by kernel_rfl) ?_
   obtain rfl := some_inv' hp
   exact SC.re (js := [.g 0, .n]) tk (by kernel_rfl)
 · refine SC.skipThen ?_
   refine SC.seq ?_
   refine SC.reg ?_
   refine SL.sim tk 1 [(0, vs 0), (2, vp 1 0), (11, vs 0)] [] [] [] (by kernel_rfl) ?_
   obtain ⟨x_2, e_x_2, hp⟩ := bind_inv hp
   refine SL.eff (e_c Try.call29 (ok_wirelessref32_head F b_1 _ e_x_2) [.g 0] [vs 0] (.u [.inl (ci .i64 x_2.1), .inl (ci .u16 x_2.2)]) (by kernel_rfl) (.inl rfl)) rfl (by kernel_rfl) ?_
   refine SL.sim tk 5 [(0, vs 0), (2, vp 1 0), (4, vi .i64 x_2.1), (5, vi .u16 x_2.2)] [] [] [] (by kernel_rfl) ?_
   refine SL.nilThen ?_
   refine SC.seq ?_
   refine SC.block ?_
   refine SC.r tk [(0, vs 0), (2, vp 1 0), (4, vi .i64 x_2.1), (5, vi .u16 x_2.2), (15, vb (x_2.2 == 0))] [] [] [] (by kernel_rfl) ?_
   refine SC.if' rfl hp (fun hp => ?_) (fun hp => ?_)
   · refine SC.r tk [(2, vp 1 0), (3, vi .i64 1)] [(1, 25, [ci .u16 0, nl])] [] [] (by kernel_rfl) ?_
     obtain rfl := some_inv' hp
     exact SC.re (js := [.g 0, .n]) tk (by kernel_rfl)
   · refine SC.r tk [(0, vs 0), (2, vp 1 0), (4, vi .i64 x_2.1), (5, vi .u16 x_2.2), (19, vb (decide (x_2.1 > 65531)))] [] [] [] (by kernel_rfl) ?_
     refine SC.if' rfl hp (fun hp => ?_) (fun hp => ?_)
     · refine SC.r tk [(2, vp 1 0), (3, vi .i64 4)] [(1, 25, [ci .u16 0, nl])] [] [] (by kernel_rfl) ?_
       obtain rfl := some_inv' hp
       exact SC.re (js := [.g 0, .n]) tk (by kernel_rfl)
     · refine SC.r tk [(0, vs 0), (2, vp 1 0), (4, vi .i64 x_2.1), (5, vi .u16 x_2.2), (23, vb (decide ((w64 ((len b_1) - 4)) < x_2.1)))] [] [] [] (by kernel_rfl) ?_
       refine SC.if' rfl hp (fun hp => ?_) (fun hp => ?_)
       · refine SC.r tk [(2, vp 1 0), (3, vi .i64 3)] [(1, 25, [ci .u16 0, nl])] [] [] (by kernel_rfl) ?_
         obtain rfl := some_inv' hp
         exact SC.re (js := [.g 0, .n]) tk (by kernel_rfl)
       · refine SC.r tk [(0, vs 0), (2, vp 1 0), (5, vi .u16 x_2.2), (30, vb (decide ((w64 ((len b_1) - 4)) > x_2.1)))] [] [] [] (by kernel_rfl) ?_
         refine SC.if' rfl hp (fun hp => ?_) (fun hp => ?_)
         · refine SC.r tk [(2, vp 1 0), (3, vi .i64 2)] [(1, 25, [ci .u16 0, nl])] [] [] (by kernel_rfl) ?_
           obtain rfl := some_inv' hp
           exact SC.re (js := [.g 0, .n]) tk (by kernel_rfl)
         · refine SC.skipThen ?_
           refine SC.seq ?_
           refine SC.reg ?_
           refine SL.sim tk 1 [(0, vs 0), (2, vp 1 0), (37, vi .u16 x_2.2)] [] [] [] (by kernel_rfl) ?_
           refine SL.eff (e_lit (sz := 1) (E := 5) (R := R8) (by_ := 1) tk [] ([] : (List Int)) (by kernel_rfl) trivial rfl (by kernel_rfl) (by kernel_rfl)) rfl (by kernel_rfl) ?_
           refine SL.norm (itsN := [.rd 1 R8 b_1, .blk 25 [ci .u16 0, nl], .own 1 5 R8 ([] : (List Int))]) (by kernel_rfl) ?_
           refine SL.sim tk 1 [(2, vp 1 0), (37, vi .u16 x_2.2), (38, vs 2), (39, vs 0)] [] [] [] (by kernel_rfl) ?_
           obtain ⟨l_3, e_l_3, hp⟩ := bind_inv hp
           refine SL.eff (e_sub (sz := 1) (E := 5) (R := R8) (by_ := 1) (l := b_1) tk rfl (.inl ⟨0, rfl, (by kernel_rfl)⟩) rfl rfl e_l_3 (by kernel_rfl)) rfl (by kernel_rfl) ?_
           obtain ⟨l_4, e_l_4, hp⟩ := bind_inv hp
           refine SL.eff (e_app (i := 2) (l := ([] : (List Int))) (sz := 1) (E := 5) (R := R8) (by_ := 1) (m := l_3) tk rfl (by kernel_rfl) rfl (.r (by kernel_rfl)) e_l_4 (by kernel_rfl)) rfl (by kernel_rfl) ?_
           refine SL.sim tk 3 [(2, vp 1 0), (3, vi .i64 0)] [(1, 25, [ci .u16 x_2.2, .s 4])] [] [] (by kernel_rfl) ?_
           refine SL.nilThen ?_
           obtain rfl := some_inv' hp
           exact SC.re (js := [.g 0, .z 4]) tk (by kernel_rfl)

theorem ok_wirelesslaw32_FragmentDecodes (F : Nat) (b_1 : (List Int)) (r : Bool) (hp : wirelesslaw32_FragmentDecodes F b_1 = some r) : Spec Try.prog 4 [vs 0] [.rd 1 R8 b_1] (vb r) [.gone] := by
 refine Spec.enter Try.func4 rfl Try.ntmps4 rfl rfl fun fx => ?_
 refine SC.r tk [(0, vs 0)] [] [] [] (by kernel_rfl) ?_
 refine SC.seq ?_
 refine SC.r tk [(0, vs 0), (9, vb (decide ((len b_1) > 131072)))] [] [] [] (by kernel_rfl) ?_
 refine SC.if' rfl hp (fun hp => ?_) (fun hp => ?_)
 · refine SC.seq ?_
   refine SC.reg ?_
   obtain ⟨x_2, e_x_2, hp⟩ := bind_inv hp
   refine SL.eff (e_c Try.call10 (ok_wirelesslaw32_exampleHolds F  _ e_x_2) [] [] (vb x_2) (by kernel_rfl) (.inl rfl)) rfl (by kernel_rfl) ?_
   refine SL.sim tk 1 [(2, vb x_2)] [] [] [] (by kernel_rfl) ?_
   refine SL.nilThen ?_
   obtain rfl := some_inv' hp
   exact SC.re (js := [.g 0]) tk (by kernel_rfl)
 · refine SC.skipThen ?_
   refine SC.seq ?_
   refine SC.reg ?_
   refine SL.sim tk 1 [(0, vs 0), (12, vs 0)] [] [] [] (by kernel_rfl) ?_
   obtain ⟨x_3, e_x_3, hp⟩ := bind_inv hp
   refine SL.eff (e_c Try.call14 (ok_fragment_Decode F b_1 _ e_x_3) [.g 0] [vs 0] (.u [.inr [ci .u16 x_3.1.CID, .s 1], .inl (ci .i64 x_3.2)]) (by kernel_rfl) (.inl rfl)) rfl (by kernel_rfl) ?_
   refine SL.sim tk 3 [(0, vs 0), (14, .g [ci .u16 x_3.1.CID, .s 1]), (15, vi .i64 x_3.2)] [] [] [] (by kernel_rfl) ?_
   refine SL.eff (e_alloc (E := 25) tk [ci .u16 0, nl] (by kernel_rfl)) rfl (by kernel_rfl) ?_
   refine SL.sim tk 2 [(0, vs 0), (3, vp 2 0), (4, vi .i64 x_3.2)] [(2, 25, [ci .u16 x_3.1.CID, .s 1])] [] [] (by kernel_rfl) ?_
   refine SL.nilThen ?_
   refine SC.seq ?_
   refine SC.reg ?_
   refine SL.sim tk 1 [(3, vp 2 0), (4, vi .i64 x_3.2), (17, vs 0)] [] [] [] (by kernel_rfl) ?_
   obtain ⟨x_4, e_x_4, hp⟩ := bind_inv hp
   refine SL.eff (e_c Try.call15 (ok_wirelessref32_Decode F b_1 _ e_x_4) [.g 0] [vs 0] (.u [.inr [ci .u16 x_4.1.CID, .s 3], .inl (ci .i64 x_4.2)]) (by kernel_rfl) (.inl rfl)) rfl (by kernel_rfl) ?_
   refine SL.norm (itsN := [.rd 1 R8 b_1, .rd 1 R8 x_3.1.Payload, .blk 25 [ci .u16 x_3.1.CID, .s 1], .rd 1 R8 x_4.1.Payload]) (by kernel_rfl) ?_
   refine SL.sim tk 3 [(3, vp 2 0), (4, vi .i64 x_3.2), (19, .g [ci .u16 x_4.1.CID, .s 3]), (20, vi .i64 x_4.2)] [] [] [] (by kernel_rfl) ?_
   refine SL.eff (e_alloc (E := 25) tk [ci .u16 0, nl] (by kernel_rfl)) rfl (by kernel_rfl) ?_
   refine SL.sim tk 2 [(3, vp 2 0), (4, vi .i64 x_3.2), (5, vp 4 0), (6, vi .i64 x_4.2)] [(4, 25, [ci .u16 x_4.1.CID, .s 3])] [] [] (by kernel_rfl) ?_
   refine SL.nilThen ?_
   refine SC.seq ?_
   refine SC.reg ?_
   refine SL.sim tk 11 [(3, vp 2 0), (5, vp 4 0), (31, vb ((x_3.2 == x_4.2) && (x_3.1.CID == x_4.1.CID)))] [] [] [] (by kernel_rfl) ?_
   obtain ⟨z_6, hz, hpr⟩ := bind_inv hp
   clear hp
   refine SL.cutAt 6 (fun a w => A 41 1 fx [(37, vb z_6)] [.gone] a w) ?_ ?_
   · have hp := hz
     rcases Bool.eq_false_or_eq_true (((x_3.2 == x_4.2) && (x_3.1.CID == x_4.1.CID))) with hg_5 | hg_5
     · replace hp := if_t hp hg_5
       refine SL.yes rfl rfl hg_5 ?_
       refine SL.sim tk 1 [(5, vp 4 0), (31, vb ((x_3.2 == x_4.2) && (x_3.1.CID == x_4.1.CID))), (32, vp 2 1)] [] [] [] (by kernel_rfl) ?_
       refine SL.yes rfl rfl hg_5 ?_
       refine SL.sim tk 1 [(5, vp 4 0), (31, vb ((x_3.2 == x_4.2) && (x_3.1.CID == x_4.1.CID))), (33, vs 1)] [] [] [] (by kernel_rfl) ?_
       refine SL.yes rfl rfl hg_5 ?_
       refine SL.sim tk 1 [(31, vb ((x_3.2 == x_4.2) && (x_3.1.CID == x_4.1.CID))), (33, vs 1), (34, vp 4 1)] [] [] [] (by kernel_rfl) ?_
       refine SL.yes rfl rfl hg_5 ?_
       refine SL.sim tk 1 [(31, vb ((x_3.2 == x_4.2) && (x_3.1.CID == x_4.1.CID))), (33, vs 1), (35, vs 3)] [] [] [] (by kernel_rfl) ?_
       refine SL.yes rfl rfl hg_5 ?_
       obtain ⟨x_12, e_x_12, hp⟩ := bind_inv hp
       refine SL.eff (e_c Try.call13 (ok_wirelessref23_Same F x_3.1.Payload x_4.1.Payload _ e_x_12) [.g 1, .g 3] [vs 1, vs 3] (vb x_12) (by kernel_rfl) (.inl rfl)) rfl (by kernel_rfl) ?_
       refine SL.norm (itsN := [.rd 1 R8 b_1, .rd 1 R8 x_3.1.Payload, .blk 25 [ci .u16 x_3.1.CID, .s 1], .rd 1 R8 x_4.1.Payload, .blk 25 [ci .u16 x_4.1.CID, .s 3]]) (by kernel_rfl) ?_
       refine SL.pickt rfl hg_5 rfl rfl ?_
       refine SL.nilJ fun a w h => ?_
       obtain rfl := some_inv' hp
       exact h.at (js := [.g 0]) (by kernel_rfl)
     · replace hp := if_f hp hg_5
       refine SL.no rfl rfl hg_5 rfl ?_
       refine SL.no rfl rfl hg_5 rfl ?_
       refine SL.no rfl rfl hg_5 rfl ?_
       refine SL.no rfl rfl hg_5 rfl ?_
       refine SL.no rfl rfl hg_5 rfl ?_
       refine SL.pickf rfl hg_5 rfl rfl ?_
       refine SL.nilJ fun a w h => ?_
       obtain rfl := some_inv' hp
       exact h.at (js := [.g 0]) (by kernel_rfl)
   · intro a w h
     have hp := hpr; clear hpr hz
     refine h.goL ?_
     refine SL.sim tk 1 [(38, vb z_6)] [] [] [] (by kernel_rfl) ?_
     obtain ⟨z_8, hz, hpr⟩ := bind_inv hp
     clear hp
     refine SL.cutAt 2 (fun a w => A 41 1 fx [(40, vb z_8)] [.gone] a w) ?_ ?_
     · have hp := hz
       rcases Bool.eq_false_or_eq_true (z_6) with hg_7 | hg_7
       · replace hp := if_t hp hg_7
         refine SL.yes rfl rfl hg_7 ?_
         obtain ⟨x_10, e_x_10, hp⟩ := bind_inv hp
         refine SL.eff (e_c Try.call10 (ok_wirelesslaw32_exampleHolds F  _ e_x_10) [] [] (vb x_10) (by kernel_rfl) (.inl rfl)) rfl (by kernel_rfl) ?_
         refine SL.pickt rfl hg_7 rfl rfl ?_
         refine SL.nilJ fun a w h => ?_
         obtain rfl := some_inv' hp
         exact h.at (js := [.g 0]) (by kernel_rfl)
       · replace hp := if_f hp hg_7
         refine SL.no rfl rfl hg_7 rfl ?_
         refine SL.pickf rfl hg_7 rfl rfl ?_
         refine SL.nilJ fun a w h => ?_
         obtain rfl := some_inv' hp
         exact h.at (js := [.g 0]) (by kernel_rfl)
     · intro a w h
       have hp := hpr; clear hpr hz
       refine h.goL ?_
       refine SL.sim tk 1 [(2, vb z_8)] [] [] [] (by kernel_rfl) ?_
       refine SL.nilThen ?_
       obtain rfl := some_inv' hp
       exact SC.re (js := [.g 0]) tk (by kernel_rfl)

theorem ok_wirelessref32_Split (F : Nat) (f_1 : T_api_Frame) (size_2 : Int) (r : (List T_api_Packet) × Int) (hp : wirelessref32_Split F f_1 size_2 = some r) : Spec Try.prog 17 [.g [ci .u16 f_1.CID, .s 0], vi .i64 size_2] [.rd 1 R8 f_1.Payload] (.u [.inl (.s 1), .inl (ci .i64 r.2)]) [.gone, .rd 2 R_T_api_Packet r.1] := by
 refine Spec.enter Try.func17 rfl Try.ntmps17 rfl rfl fun fx => ?_
 refine SC.seq ?_
 refine SC.reg ?_
 refine SL.eff (e_box (E := 25) [ci .u16 f_1.CID, .s 0] (by kernel_rfl)) rfl (by kernel_rfl) ?_
 refine SL.sim tk 2 [(1, vi .i64 size_2), (2, vp 1 0)] [] [] [] (by kernel_rfl) ?_
 refine SL.nilThen ?_
 refine SC.seq ?_
 refine SC.reg ?_
 refine SL.sim tk 1 [(1, vi .i64 size_2), (12, .g [ci .u16 f_1.CID, .s 0])] [] [] [] (by kernel_rfl) ?_
 obtain ⟨x_3, e_x_3, hp⟩ := bind_inv hp
 refine SL.eff (e_c Try.call12 (ok_wirelessref32_Encode F f_1 _ e_x_3) [.g 0] [.g [ci .u16 f_1.CID, .s 0]] (.u [.inl (.s 2), .inl (ci .i64 x_3.2)]) (by kernel_rfl) (.inl rfl)) rfl (by kernel_rfl) ?_
 refine SL.sim tk 5 [(1, vi .i64 size_2), (6, vs 2), (7, vi .i64 x_3.2)] [] [] [] (by kernel_rfl) ?_
 refine SL.nilThen ?_
 refine SC.seq ?_
 refine SC.r tk [(1, vi .i64 size_2), (6, vs 2), (7, vi .i64 x_3.2), (17, vb (x_3.2 != 0))] [] [] [] (by kernel_rfl) ?_
 refine SC.if' rfl hp (fun hp => ?_) (fun hp => ?_)
 · refine SC.r tk [(4, vn), (5, vi .i64 x_3.2)] [] [] [] (by kernel_rfl) ?_
   obtain rfl := some_inv' hp
   exact SC.re (js := [.g 0, .n]) tk (by kernel_rfl)
 · refine SC.skipThen ?_
   refine SC.seq ?_
   refine SC.r tk [(1, vi .i64 size_2), (6, vs 2), (24, vb ((decide (size_2 < 1)) || (decide (size_2 > 251))))] [] [] [] (by kernel_rfl) ?_
   refine SC.if' rfl hp (fun hp => ?_) (fun hp => ?_)
   · refine SC.r tk [(4, vn), (5, vi .i64 5)] [] [] [] (by kernel_rfl) ?_
     obtain rfl := some_inv' hp
     exact SC.re (js := [.g 0, .n]) tk (by kernel_rfl)
   · refine SC.skipThen ?_
     refine SC.r tk [(1, vi .i64 size_2), (6, vs 2), (8, vn)] [] [] [] (by kernel_rfl) ?_
     refine SC.cut (fun a w => ∃ (l_4 : (List T_api_Packet)), wirelessref32_Split_j1 F l_4 = some r ∧ A 52 1 fx [(8, vs 1)] [.gone, .own 2 48 R_T_api_Packet l_4] a w) ?_ ?_
     · refine SC.r tk [(1, vi .i64 size_2), (6, vs 2), (8, vn), (9, vi .i64 0)] [] [] [] (by kernel_rfl) ?_
       refine SC.block ?_
       obtain ⟨o1, hi1, ho1⟩ := bind_inv hp
       clear hp
       refine SC.loop (fun n a w => ∃ (l_5 : (List T_api_Packet)) (x_6 : Int), iter (fun s => wirelessref32_Split_l1 F size_2 x_3 s.1 s.2) n (l_5, x_6) = some o1 ∧ A 52 1 fx [(1, vi .i64 size_2), (6, vs 1), (8, vs 2), (9, vi .i64 x_6)] [.gone, .rd 1 R8 x_3.1, .own 2 48 R_T_api_Packet l_5] a w) F (fun a w h => ⟨[], 0, hi1, h.at (js := [.g 0, .g 2, .n]) (by kernel_rfl)⟩) ?_
       rintro n1 a w ⟨l_5, x_6, hi1, h⟩
       obtain ⟨n1, q1, rfl, hp, hs1⟩ := iter_inv hi1
       replace hp : wirelessref32_Split_l1 F size_2 x_3 l_5 x_6 = some q1 := hp
       clear hi1
       refine h.go ?_
       refine SC.seq ?_
       refine SC.r tk [(1, vi .i64 size_2), (6, vs 1), (8, vs 2), (9, vi .i64 x_6), (28, vb (decide (x_6 < (len x_3.1))))] [] [] [] (by kernel_rfl) ?_
       refine SC.if' rfl hp (fun hp => ?_) (fun hp => ?_)
       · refine SC.skipThen ?_
         refine SC.seq ?_
         refine SC.block ?_
         refine SC.seq ?_
         refine SC.reg ?_
         refine SL.eff (e_lit (sz := 1) (E := 5) (R := R8) (by_ := 1) tk [] ([] : (List Int)) (by kernel_rfl) trivial rfl (by kernel_rfl) (by kernel_rfl)) rfl (by kernel_rfl) ?_
         refine SL.sim tk 8 [(1, vi .i64 size_2), (6, vs 1), (8, vs 2), (9, vi .i64 x_6), (32, vs 3), (33, vs 1), (34, vi .i64 x_6), (40, vi .i64 (imin (w64 (x_6 + size_2)) (len x_3.1)))] [] [] [] (by kernel_rfl) ?_
         obtain ⟨l_7, e_l_7, hp⟩ := bind_inv hp
         refine SL.eff (e_sub (sz := 1) (E := 5) (R := R8) (by_ := 1) (l := x_3.1) tk rfl (.inl ⟨1, rfl, (by kernel_rfl)⟩) rfl rfl e_l_7 (by kernel_rfl)) rfl (by kernel_rfl) ?_
         obtain ⟨l_8, e_l_8, hp⟩ := bind_inv hp
         refine SL.eff (e_app (i := 3) (l := ([] : (List Int))) (sz := 1) (E := 5) (R := R8) (by_ := 1) (m := l_7) tk rfl (by kernel_rfl) rfl (.r (by kernel_rfl)) e_l_8 (by kernel_rfl)) rfl (by kernel_rfl) ?_
         refine SL.sim tk 1 [(1, vi .i64 size_2), (6, vs 1), (8, vs 2), (9, vi .i64 x_6), (43, .g [ci .i64 1, .s 5])] [] [] [] (by kernel_rfl) ?_
         refine SL.eff (e_alloc (E := 48) tk [ci .i64 0, nl] (by kernel_rfl)) rfl (by kernel_rfl) ?_
         refine SL.norm (itsN := [.gone, .rd 1 R8 x_3.1, .own 2 48 R_T_api_Packet l_5, .gone, .rd 1 R8 l_7, .own 1 5 R8 l_8, .blk 48 [ci .i64 0, nl]]) (by kernel_rfl) ?_
         refine SL.sim tk 1 [(1, vi .i64 size_2), (6, vs 1), (8, vs 2), (9, vi .i64 x_6), (10, vp 6 0)] [(6, 48, [ci .i64 1, .s 5])] [] [] (by kernel_rfl) ?_
         refine SL.nilThen ?_
         refine SC.cut (fun a w => ∃ (x_9 : Int), wirelessref32_Split_j2 F size_2 l_5 x_6 l_8 x_9 = some q1 ∧ A 52 1 fx [(1, vi .i64 size_2), (6, vs 1), (8, vs 2), (9, vi .i64 x_6), (10, vp 3 0)] [.gone, .rd 1 R8 x_3.1, .own 2 48 R_T_api_Packet l_5, .blk 48 [ci .i64 x_9, .s 4], .own 1 5 R8 l_8] a w) ?_ ?_
         · refine SC.r tk [(1, vi .i64 size_2), (6, vs 1), (8, vs 2), (9, vi .i64 x_6), (10, vp 6 0), (45, vb (x_6 == 0))] [] [] [] (by kernel_rfl) ?_
           refine SC.if' rfl hp (fun hp => ?_) (fun hp => ?_)
           · refine SC.reg ?_
             refine SL.sim tk 2 [(1, vi .i64 size_2), (6, vs 1), (8, vs 2), (9, vi .i64 x_6), (10, vp 6 0)] [(6, 48, [ci .i64 2, .s 5])] [] [] (by kernel_rfl) ?_
             refine SL.nilJ fun a w h => ?_
             exact ⟨2, hp, h.at (js := [.g 0, .g 1, .g 2, .g 6, .g 5]) (by kernel_rfl)⟩
           · refine SC.skipJ fun a w h => ?_
             exact ⟨1, hp, h.at (js := [.g 0, .g 1, .g 2, .g 6, .g 5]) (by kernel_rfl)⟩
         · rintro a w ⟨x_9, hp, h⟩
           refine h.go ?_
           refine SC.reg ?_
           refine SL.sim tk 2 [(1, vi .i64 size_2), (6, vs 1), (8, vs 2), (9, vi .i64 x_6), (47, vs 2), (48, .g [ci .i64 x_9, .s 4])] [] [] [] (by kernel_rfl) ?_
           refine SL.pre (pre_frz (i := 4) (sz := 1) (E := 5) (R := R8) (l := l_8) (by kernel_rfl)) ?_
           refine SL.eff (e_lit (sz := 2) (E := 48) (R := R_T_api_Packet) (by_ := 32) tk [[ci .i64 x_9, .s 4]] [(T_api_Packet.mk x_9 l_8)] (by kernel_rfl) ⟨(clo_T_api_Packet (x := (T_api_Packet.mk x_9 l_8)) (Clo.sl (by kernel_rfl))), trivial⟩ rfl (by kernel_rfl) (by kernel_rfl)) rfl (by kernel_rfl) ?_
           obtain ⟨l_10, e_l_10, hp⟩ := bind_inv hp
           refine SL.eff (e_app (i := 2) (l := l_5) (sz := 2) (E := 48) (R := R_T_api_Packet) (by_ := 32) (m := [(T_api_Packet.mk x_9 l_8)]) tk rfl (by kernel_rfl) rfl (.o 48 (by kernel_rfl)) e_l_10 (by kernel_rfl)) rfl (by kernel_rfl) ?_
           refine SL.sim tk 1 [(1, vi .i64 size_2), (6, vs 1), (8, vs 6), (9, vi .i64 x_6)] [] [] [] (by kernel_rfl) ?_
           refine SL.nilThen ?_
           refine SC.reg ?_
           refine SL.sim tk 4 [(1, vi .i64 size_2), (6, vs 1), (8, vs 6), (9, vi .i64 (w64 (x_6 + size_2)))] [] [] [] (by kernel_rfl) ?_
           refine SL.nilJ fun a w h => ?_
           exact ⟨n1, Nat.lt_succ_self _, l_10, w64 (x_6 + size_2), next_inv hp hs1, h.at (js := [.g 0, .g 1, .g 6]) (by kernel_rfl)⟩
       · refine SC.exitJ rfl fun a w h => ?_
         have ho := done_inv hp hs1
         replace hp := ho1
         try rw [ho] at hp
         exact ⟨l_5, hp, h.at (js := [.g 0, .g 2]) (by kernel_rfl)⟩
     · rintro a w ⟨l_4, hp, h⟩
       refine h.go ?_
       refine SC.r tk [(4, vs 1), (5, vi .i64 0)] [] [] [] (by kernel_rfl) ?_
       obtain rfl := some_inv' hp
       exact SC.re (js := [.g 0, .z 1]) tk (by kernel_rfl)

theorem ok_wirelesslaw32_FragmentSplits (F : Nat) (f_1 : T_api_Frame) (most_2 : Int) (r : Bool) (hp : wirelesslaw32_FragmentSplits F f_1 most_2 = some r) : Spec Try.prog 5 [.g [ci .u16 f_1.CID, .s 0], vi .i64 most_2] [.rd 1 R8 f_1.Payload] (vb r) [.gone] := by
 refine Spec.enter Try.func5 rfl Try.ntmps5 rfl rfl fun fx => ?_
 refine SC.seq ?_
 refine SC.reg ?_
 refine SL.eff (e_box (E := 25) [ci .u16 f_1.CID, .s 0] (by kernel_rfl)) rfl (by kernel_rfl) ?_
 refine SL.sim tk 1 [(1, vi .i64 most_2), (2, vp 1 0)] [] [] [] (by kernel_rfl) ?_
 refine SL.nilThen ?_
 refine SC.seq ?_
 refine SC.r tk [(1, vi .i64 most_2), (2, vp 1 0), (12, vb (decide ((len f_1.Payload) > 131072)))] [] [] [] (by kernel_rfl) ?_
 refine SC.if' rfl hp (fun hp => ?_) (fun hp => ?_)
 · refine SC.seq ?_
   refine SC.reg ?_
   obtain ⟨x_3, e_x_3, hp⟩ := bind_inv hp
   refine SL.eff (e_c Try.call10 (ok_wirelesslaw32_exampleHolds F  _ e_x_3) [] [] (vb x_3) (by kernel_rfl) (.inl rfl)) rfl (by kernel_rfl) ?_
   refine SL.sim tk 1 [(4, vb x_3)] [] [] [] (by kernel_rfl) ?_
   refine SL.nilThen ?_
   obtain rfl := some_inv' hp
   exact SC.re (js := [.g 0]) tk (by kernel_rfl)
 · refine SC.skipThen ?_
   refine SC.seq ?_
   refine SC.reg ?_
   refine SL.sim tk 2 [(1, vi .i64 most_2), (2, vp 1 0), (15, .g [ci .u16 f_1.CID, .s 0]), (16, vi .i64 most_2)] [] [] [] (by kernel_rfl) ?_
   obtain ⟨x_4, e_x_4, hp⟩ := bind_inv hp
   refine SL.eff (e_c Try.call16 (ok_fragment_Split F f_1 most_2 _ e_x_4) [.g 0] [.g [ci .u16 f_1.CID, .s 0], vi .i64 most_2] (.u [.inl (.s 2), .inl (ci .i64 x_4.2)]) (by kernel_rfl) (.inl rfl)) rfl (by kernel_rfl) ?_
   refine SL.sim tk 5 [(1, vi .i64 most_2), (2, vp 1 0), (5, vs 2), (6, vi .i64 x_4.2)] [] [] [] (by kernel_rfl) ?_
   refine SL.nilThen ?_
   refine SC.seq ?_
   refine SC.reg ?_
   refine SL.sim tk 2 [(5, vs 2), (6, vi .i64 x_4.2), (21, .g [ci .u16 f_1.CID, .s 0]), (22, vi .i64 most_2)] [] [] [] (by kernel_rfl) ?_
   obtain ⟨x_5, e_x_5, hp⟩ := bind_inv hp
   refine SL.eff (e_c Try.call17 (ok_wirelessref32_Split F f_1 most_2 _ e_x_5) [.g 0] [.g [ci .u16 f_1.CID, .s 0], vi .i64 most_2] (.u [.inl (.s 3), .inl (ci .i64 x_5.2)]) (by kernel_rfl) (.inl rfl)) rfl (by kernel_rfl) ?_
   refine SL.norm (itsN := [.rd 1 R8 f_1.Payload, .blk 25 [ci .u16 f_1.CID, .s 0], .rd 2 R_T_api_Packet x_4.1, .rd 2 R_T_api_Packet x_5.1]) (by kernel_rfl) ?_
   refine SL.sim tk 5 [(5, vs 2), (6, vi .i64 x_4.2), (7, vs 3), (8, vi .i64 x_5.2)] [] [] [] (by kernel_rfl) ?_
   refine SL.nilThen ?_
   refine SC.seq ?_
   refine SC.reg ?_
   refine SL.sim tk 4 [(5, vs 2), (7, vs 3), (29, vb (x_4.2 == x_5.2))] [] [] [] (by kernel_rfl) ?_
   obtain ⟨z_7, hz, hpr⟩ := bind_inv hp
   clear hp
   refine SL.cutAt 4 (fun a w => A 37 1 fx [(33, vb z_7)] [.gone] a w) ?_ ?_
   · have hp := hz
     rcases Bool.eq_false_or_eq_true ((x_4.2 == x_5.2)) with hg_6 | hg_6
     · replace hp := if_t hp hg_6
       refine SL.yes rfl rfl hg_6 ?_
       refine SL.sim tk 1 [(7, vs 3), (29, vb (x_4.2 == x_5.2)), (30, vs 2)] [] [] [] (by kernel_rfl) ?_
       refine SL.yes rfl rfl hg_6 ?_
       refine SL.sim tk 1 [(29, vb (x_4.2 == x_5.2)), (30, vs 2), (31, vs 3)] [] [] [] (by kernel_rfl) ?_
       refine SL.yes rfl rfl hg_6 ?_
       obtain ⟨x_13, e_x_13, hp⟩ := bind_inv hp
       refine SL.eff (e_c Try.call18 (ok_wirelessref23_SamePackets F x_4.1 x_5.1 _ e_x_13) [.g 2, .g 3] [vs 2, vs 3] (vb x_13) (by kernel_rfl) (.inl rfl)) rfl (by kernel_rfl) ?_
       refine SL.pickt rfl hg_6 rfl rfl ?_
       refine SL.nilJ fun a w h => ?_
       obtain rfl := some_inv' hp
       exact h.at (js := [.g 0]) (by kernel_rfl)
     · replace hp := if_f hp hg_6
       refine SL.no rfl rfl hg_6 rfl ?_
       refine SL.no rfl rfl hg_6 rfl ?_
       refine SL.no rfl rfl hg_6 rfl ?_
       refine SL.pickf rfl hg_6 rfl rfl ?_
       refine SL.nilJ fun a w h => ?_
       obtain rfl := some_inv' hp
       exact h.at (js := [.g 0]) (by kernel_rfl)
   · intro a w h
     have hp := hpr; clear hpr hz
     refine h.goL ?_
     refine SL.sim tk 1 [(34, vb z_7)] [] [] [] (by kernel_rfl) ?_
     obtain ⟨z_9, hz, hpr⟩ := bind_inv hp
     clear hp
     refine SL.cutAt 2 (fun a w => A 37 1 fx [(36, vb z_9)] [.gone] a w) ?_ ?_
     · have hp := hz
       rcases Bool.eq_false_or_eq_true (z_7) with hg_8 | hg_8
       · replace hp := if_t hp hg_8
         refine SL.yes rfl rfl hg_8 ?_
         obtain ⟨x_11, e_x_11, hp⟩ := bind_inv hp
         refine SL.eff (e_c Try.call10 (ok_wirelesslaw32_exampleHolds F  _ e_x_11) [] [] (vb x_11) (by kernel_rfl) (.inl rfl)) rfl (by kernel_rfl) ?_
         refine SL.pickt rfl hg_8 rfl rfl ?_
         refine SL.nilJ fun a w h => ?_
         obtain rfl := some_inv' hp
         exact h.at (js := [.g 0]) (by kernel_rfl)
       · replace hp := if_f hp hg_8
         refine SL.no rfl rfl hg_8 rfl ?_
         refine SL.pickf rfl hg_8 rfl rfl ?_
         refine SL.nilJ fun a w h => ?_
         obtain rfl := some_inv' hp
         exact h.at (js := [.g 0]) (by kernel_rfl)
     · intro a w h
       have hp := hpr; clear hpr hz
       refine h.goL ?_
       refine SL.sim tk 1 [(4, vb z_9)] [] [] [] (by kernel_rfl) ?_
       refine SL.nilThen ?_
       obtain rfl := some_inv' hp
       exact SC.re (js := [.g 0]) tk (by kernel_rfl)

theorem ok_wirelesslaw32_light (F : Nat) (l_1 : (List T_api_Packet)) (r : Bool) (hp : wirelesslaw32_light F l_1 = some r) : Spec Try.prog 19 [vs 0] [.rd 2 R_T_api_Packet l_1] (vb r) [.gone] := by
 refine Spec.enter Try.func19 rfl Try.ntmps19 rfl rfl fun fx => ?_
 refine SC.r tk [(0, vs 0)] [] [] [] (by kernel_rfl) ?_
 refine SC.r tk [(0, vs 0), (3, vi .i64 0)] [] [] [] (by kernel_rfl) ?_
 refine SC.cut (fun a w => ∃ (x_2 : Int), wirelesslaw32_light_j1 F l_1 x_2 = some r ∧ A 37 1 fx [(0, vs 0), (3, vi .i64 x_2)] [.rd 2 R_T_api_Packet l_1] a w) ?_ ?_
 · refine SC.r tk [(0, vs 0), (3, vi .i64 0), (4, vi .i64 0)] [] [] [] (by kernel_rfl) ?_
   refine SC.block ?_
   obtain ⟨o1, hi1, ho1⟩ := bind_inv hp
   clear hp
   refine SC.loop (fun n a w => ∃ (x_3 : Int) (x_4 : Int), iter (fun s => wirelesslaw32_light_l1 F l_1 s.1 s.2) n (x_3, x_4) = some o1 ∧ A 37 1 fx [(0, vs 0), (3, vi .i64 x_3), (4, vi .i64 x_4)] [.rd 2 R_T_api_Packet l_1] a w) F (fun a w h => ⟨0, 0, hi1, h.at (js := [.g 0]) (by kernel_rfl)⟩) ?_
   rintro n1 a w ⟨x_3, x_4, hi1, h⟩
   obtain ⟨n1, q1, rfl, hp, hs1⟩ := iter_inv hi1
   replace hp : wirelesslaw32_light_l1 F l_1 x_3 x_4 = some q1 := hp
   clear hi1
   refine h.go ?_
   refine SC.seq ?_
   refine SC.r tk [(0, vs 0), (3, vi .i64 x_3), (4, vi .i64 x_4), (12, vb ((decide (x_4 < (len l_1))) && (decide (x_4 < 200))))] [] [] [] (by kernel_rfl) ?_
   refine SC.if' rfl hp (fun hp => ?_) (fun hp => ?_)
   · refine SC.skipThen ?_
     refine SC.seq ?_
     refine SC.block ?_
     refine SC.seq ?_
     obtain ⟨x_5, e_x_5, hp⟩ := bind_inv hp
     refine SC.pre (pre_ix (i := 0) (iv := x_4) (sz := 2) (R := R_T_api_Packet) (l := l_1) (by kernel_rfl) rfl e_x_5) ?_
     refine SC.r tk [(0, vs 0), (3, vi .i64 x_3), (4, vi .i64 x_4), (21, vb (decide ((len x_5.Payload) > 131072)))] [] [.el 1] [x_4] (by kernel_rfl) ?_
     refine SC.if' rfl hp (fun hp => ?_) (fun hp => ?_)
     · refine SC.r tk [(2, vb false)] [] [] [] (by kernel_rfl) ?_
       have ho := done_inv hp hs1
       replace hp := ho1
       try rw [ho] at hp
       obtain rfl := some_inv' hp
       exact SC.re (js := [.g 0]) tk (by kernel_rfl)
     · refine SC.skipThen ?_
       refine SC.reg ?_
       obtain ⟨x_6, e_x_6, hp⟩ := bind_inv hp
       refine SL.pre (pre_ix (i := 0) (iv := x_4) (sz := 2) (R := R_T_api_Packet) (l := l_1) (by kernel_rfl) rfl e_x_6) ?_
       refine SL.sim tk 9 [(0, vs 0), (3, vi .i64 (w64 (x_3 + (len x_6.Payload)))), (4, vi .i64 x_4)] [] [.el 3] [x_4] (by kernel_rfl) ?_
       refine SL.nilThen ?_
       refine SC.reg ?_
       refine SL.sim tk 3 [(0, vs 0), (3, vi .i64 (w64 (x_3 + (len x_6.Payload)))), (4, vi .i64 (w64 (x_4 + 1)))] [] [] [] (by kernel_rfl) ?_
       refine SL.nilJ fun a w h => ?_
       exact ⟨n1, Nat.lt_succ_self _, w64 (x_3 + (len x_6.Payload)), w64 (x_4 + 1), next_inv hp hs1, h.at (js := [.g 0]) (by kernel_rfl)⟩
   · refine SC.exitJ rfl fun a w h => ?_
     have ho := done_inv hp hs1
     replace hp := ho1
     try rw [ho] at hp
     exact ⟨x_3, hp, h.at (js := [.g 0]) (by kernel_rfl)⟩
 · rintro a w ⟨x_2, hp, h⟩
   refine h.go ?_
   refine SC.r tk [(2, vb ((decide ((len l_1) ≤ 200)) && (decide (x_2 ≤ 131072))))] [] [] [] (by kernel_rfl) ?_
   obtain rfl := some_inv' hp
   exact SC.re (js := [.g 0]) tk (by kernel_rfl)

theorem ok_wirelessref32_Valid (F : Nat) (a_1 : T_api_Assembler) (r : Bool) (hp : wirelessref32_Valid F a_1 = some r) : Spec Try.prog 20 [.g [cb a_1.On, .s 0]] [.rd 1 R8 a_1.Buffer] (vb r) [.gone] := by
 refine Spec.enter Try.func20 rfl Try.ntmps20 rfl rfl fun fx => ?_
 refine SC.seq ?_
 refine SC.reg ?_
 refine SL.eff (e_box (E := 41) [cb a_1.On, .s 0] (by kernel_rfl)) rfl (by kernel_rfl) ?_
 refine SL.sim tk 1 [(1, vp 1 0)] [] [] [] (by kernel_rfl) ?_
 refine SL.nilThen ?_
 refine SC.seq ?_
 refine SC.r tk [(1, vp 1 0), (7, vb (!a_1.On))] [] [] [] (by kernel_rfl) ?_
 refine SC.if' rfl hp (fun hp => ?_) (fun hp => ?_)
 · refine SC.r tk [(2, vb ((len a_1.Buffer) == 0))] [] [] [] (by kernel_rfl) ?_
   obtain rfl := some_inv' hp
   exact SC.re (js := [.g 0]) tk (by kernel_rfl)
 · refine SC.skipThen ?_
   refine SC.seq ?_
   refine SC.r tk [(1, vp 1 0), (15, vb (decide ((len a_1.Buffer) < 4)))] [] [] [] (by kernel_rfl) ?_
   refine SC.if' rfl hp (fun hp => ?_) (fun hp => ?_)
   · refine SC.r tk [(2, vb (decide ((len a_1.Buffer) > 0)))] [] [] [] (by kernel_rfl) ?_
     obtain rfl := some_inv' hp
     exact SC.re (js := [.g 0]) tk (by kernel_rfl)
   · refine SC.skipThen ?_
     refine SC.seq ?_
     refine SC.reg ?_
     refine SL.sim tk 2 [(1, vp 1 0), (22, vs 0)] [] [] [] (by kernel_rfl) ?_
     obtain ⟨x_2, e_x_2, hp⟩ := bind_inv hp
     refine SL.eff (e_c Try.call29 (ok_wirelessref32_head F a_1.Buffer _ e_x_2) [.g 0] [vs 0] (.u [.inl (ci .i64 x_2.1), .inl (ci .u16 x_2.2)]) (by kernel_rfl) (.inl rfl)) rfl (by kernel_rfl) ?_
     refine SL.sim tk 5 [(1, vp 1 0), (3, vi .i64 x_2.1), (4, vi .u16 x_2.2)] [] [] [] (by kernel_rfl) ?_
     refine SL.nilThen ?_
     refine SC.r tk [(2, vb (((x_2.2 != 0) && (decide (x_2.1 ≤ 65531))) && (decide ((w64 ((len a_1.Buffer) - 4)) < x_2.1))))] [] [] [] (by kernel_rfl) ?_
     obtain rfl := some_inv' hp
     exact SC.re (js := [.g 0]) tk (by kernel_rfl)

theorem ok_wirelessref23_Blank (F : Nat) (p_1 : T_api_Packet) (r : Bool) (hp : wirelessref23_Blank F p_1 = some r) : Spec Try.prog 34 [.g [ci .i64 p_1.LLID, .s 0]] [.rd 1 R8 p_1.Payload] (vb r) [.gone] := by
 refine Spec.enter Try.func34 rfl Try.ntmps34 rfl rfl fun fx => ?_
 refine SC.seq ?_
 refine SC.reg ?_
 refine SL.eff (e_box (E := 48) [ci .i64 p_1.LLID, .s 0] (by kernel_rfl)) rfl (by kernel_rfl) ?_
 refine SL.sim tk 1 [(1, vp 1 0)] [] [] [] (by kernel_rfl) ?_
 refine SL.nilThen ?_
 refine SC.r tk [(2, vb ((p_1.LLID == 1) && ((len p_1.Payload) == 0)))] [] [] [] (by kernel_rfl) ?_
 obtain rfl := some_inv' hp
 exact SC.re (js := [.g 0]) tk (by kernel_rfl)

theorem ok_wirelessref32_taken (F : Nat) (b_1 : (List Int)) (err_2 : Int) (r : T_api_Assembler × (List T_api_Frame) × Int) (hp : wirelessref32_taken F b_1 err_2 = some r) : Spec Try.prog 35 [vs 0, vi .i64 err_2] [.rd 1 R8 b_1] (.u [.inr [cb r.1.On, .s 1], .inl (.s 2), .inl (ci .i64 r.2.2)]) [.gone, .rd 1 R8 r.1.Buffer, .rd 2 R_T_api_Frame r.2.1] := by
 refine Spec.enter Try.func35 rfl Try.ntmps35 rfl rfl fun fx => ?_
 refine SC.seq ?_
 refine SC.reg ?_
 refine SL.eff (e_alloc (E := 41) tk [cb false, nl] (by kernel_rfl)) rfl (by kernel_rfl) ?_
 refine SL.sim tk 2 [(0, vs 0), (1, vi .i64 err_2), (4, vp 1 0)] [] [] [] (by kernel_rfl) ?_
 refine SL.nilThen ?_
 refine SC.seq ?_
 refine SC.r tk [(0, vs 0), (1, vi .i64 err_2), (4, vp 1 0), (12, vb (decide ((len b_1) < 4)))] [] [] [] (by kernel_rfl) ?_
 refine SC.if' rfl hp (fun hp => ?_) (fun hp => ?_)
 · refine SC.r tk [(4, vp 1 0), (5, vn), (6, vi .i64 err_2)] [(1, 41, [cb true, .s 0])] [] [] (by kernel_rfl) ?_
   obtain rfl := some_inv' hp
   exact SC.re (js := [.g 0, .g 0, .n]) tk (by kernel_rfl)
 · refine SC.skipThen ?_
   refine SC.seq ?_
   refine SC.reg ?_
   refine SL.sim tk 1 [(0, vs 0), (1, vi .i64 err_2), (4, vp 1 0), (17, vs 0)] [] [] [] (by kernel_rfl) ?_
   obtain ⟨x_3, e_x_3, hp⟩ := bind_inv hp
   refine SL.eff (e_c Try.call29 (ok_wirelessref32_head F b_1 _ e_x_3) [.g 0] [vs 0] (.u [.inl (ci .i64 x_3.1), .inl (ci .u16 x_3.2)]) (by kernel_rfl) (.inl rfl)) rfl (by kernel_rfl) ?_
   refine SL.sim tk 5 [(0, vs 0), (1, vi .i64 err_2), (4, vp 1 0), (7, vi .i64 x_3.1), (8, vi .u16 x_3.2)] [] [] [] (by kernel_rfl) ?_
   refine SL.nilThen ?_
   refine SC.r tk [(0, vs 0), (1, vi .i64 err_2), (4, vp 1 0), (7, vi .i64 x_3.1), (8, vi .u16 x_3.2), (9, vi .i64 0)] [] [] [] (by kernel_rfl) ?_
   refine SC.cut (fun a w => ∃ (x_4 : Int), wirelessref32_taken_j1 F b_1 err_2 x_3 x_4 = some r ∧ A 54 1 fx [(0, vs 0), (1, vi .i64 err_2), (4, vp 1 0), (7, vi .i64 x_3.1), (8, vi .u16 x_3.2), (9, vi .i64 x_4)] [.rd 1 R8 b_1, .blk 41 [cb false, nl]] a w) ?_ ?_
   · refine SC.r tk [(0, vs 0), (1, vi .i64 err_2), (4, vp 1 0), (7, vi .i64 x_3.1), (8, vi .u16 x_3.2), (9, vi .i64 0), (22, vb (x_3.2 == 0))] [] [] [] (by kernel_rfl) ?_
     refine SC.if' rfl hp (fun hp => ?_) (fun hp => ?_)
     · refine SC.reg ?_
       refine SL.sim tk 1 [(0, vs 0), (1, vi .i64 err_2), (4, vp 1 0), (7, vi .i64 x_3.1), (8, vi .u16 x_3.2), (9, vi .i64 1)] [] [] [] (by kernel_rfl) ?_
       refine SL.nilJ fun a w h => ?_
       exact ⟨1, hp, h.at (js := [.g 0, .g 1]) (by kernel_rfl)⟩
     · refine SC.r tk [(0, vs 0), (1, vi .i64 err_2), (4, vp 1 0), (7, vi .i64 x_3.1), (8, vi .u16 x_3.2), (9, vi .i64 0), (31, vb ((decide (x_3.1 > 65531)) || (decide ((w64 ((len b_1) - 4)) > x_3.1))))] [] [] [] (by kernel_rfl) ?_
       refine SC.if' rfl hp (fun hp => ?_) (fun hp => ?_)
       · refine SC.reg ?_
         refine SL.sim tk 1 [(0, vs 0), (1, vi .i64 err_2), (4, vp 1 0), (7, vi .i64 x_3.1), (8, vi .u16 x_3.2), (9, vi .i64 4)] [] [] [] (by kernel_rfl) ?_
         refine SL.nilJ fun a w h => ?_
         exact ⟨4, hp, h.at (js := [.g 0, .g 1]) (by kernel_rfl)⟩
       · refine SC.skipJ fun a w h => ?_
         exact ⟨0, hp, h.at (js := [.g 0, .g 1]) (by kernel_rfl)⟩
   · rintro a w ⟨x_4, hp, h⟩
     refine h.go ?_
     refine SC.seq ?_
     refine SC.r tk [(0, vs 0), (1, vi .i64 err_2), (4, vp 1 0), (7, vi .i64 x_3.1), (8, vi .u16 x_3.2), (9, vi .i64 x_4), (33, vb (x_4 != 0))] [] [] [] (by kernel_rfl) ?_
     refine SC.if' rfl hp (fun hp => ?_) (fun hp => ?_)
     · refine SC.cut (fun a w => ∃ (x_5 : Int), wirelessref32_taken_j2 F x_5 = some r ∧ A 54 1 fx [(4, vp 1 0), (9, vi .i64 x_5)] [.gone, .blk 41 [cb false, nl]] a w) ?_ ?_
       · refine SC.r tk [(1, vi .i64 err_2), (4, vp 1 0), (9, vi .i64 x_4), (35, vb (err_2 != 0))] [] [] [] (by kernel_rfl) ?_
         refine SC.if' rfl hp (fun hp => ?_) (fun hp => ?_)
         · refine SC.reg ?_
           refine SL.sim tk 2 [(4, vp 1 0), (9, vi .i64 err_2)] [] [] [] (by kernel_rfl) ?_
           refine SL.nilJ fun a w h => ?_
           exact ⟨err_2, hp, h.at (js := [.g 0, .g 1]) (by kernel_rfl)⟩
         · refine SC.skipJ fun a w h => ?_
           exact ⟨x_4, hp, h.at (js := [.g 0, .g 1]) (by kernel_rfl)⟩
       · rintro a w ⟨x_5, hp, h⟩
         refine h.go ?_
         refine SC.r tk [(4, vp 1 0), (5, vn), (6, vi .i64 x_5)] [(1, 41, [cb false, nl])] [] [] (by kernel_rfl) ?_
         obtain rfl := some_inv' hp
         exact SC.re (js := [.g 0, .n, .n]) tk (by kernel_rfl)
     · refine SC.skipThen ?_
       refine SC.seq ?_
       refine SC.r tk [(0, vs 0), (1, vi .i64 err_2), (4, vp 1 0), (8, vi .u16 x_3.2), (43, vb (decide ((w64 ((len b_1) - 4)) < x_3.1)))] [] [] [] (by kernel_rfl) ?_
       refine SC.if' rfl hp (fun hp => ?_) (fun hp => ?_)
       · refine SC.r tk [(4, vp 1 0), (5, vn), (6, vi .i64 err_2)] [(1, 41, [cb true, .s 0])] [] [] (by kernel_rfl) ?_
         obtain rfl := some_inv' hp
         exact SC.re (js := [.g 0, .g 0, .n]) tk (by kernel_rfl)
       · refine SC.skipThen ?_
         refine SC.cut (fun a w => ∃ (l_6 : (List T_api_Frame)), wirelessref32_taken_j3 F err_2 l_6 = some r ∧ A 54 1 fx [(4, vp 1 0), (5, vs 2), (6, vi .i64 err_2)] [.gone, .blk 41 [cb false, nl], .own 2 25 R_T_api_Frame l_6] a w) ?_ ?_
         · refine SC.draw MO [true, true] (by kernel_rfl) fun kap_7 D_8 => ?_
           refine SD.takes tk D_8 [] kn0 [0, 1, 2, 6] [] [] [true, true, true, false, false, false, true, false, false, false] [(4, vp 1 0), (47, .g [cb false, nl]), (48, vi .u16 x_3.2), (49, vs 0), (53, vi .i64 err_2)] rfl (by kernel_rfl) (by kernel_rfl) (by kernel_rfl) ?_
           refine SD.all2 (i := 3) (j := 7) (by kernel_rfl) ?_ ?_
           · obtain ⟨l_9, e_l_9, hp⟩ := bind_inv hp
             refine SW.eff D_8 (i := 3) (bs' := [true, true, true, true, false, false, true, false, false, false]) rfl (.inl rfl) rfl (e_sub (sz := 1) (E := 5) (R := R8) (by_ := 1) (l := b_1) tk rfl (.inl ⟨0, rfl, (by kernel_rfl)⟩) rfl rfl e_l_9 (by kernel_rfl)) (by kernel_rfl) rfl (by kernel_rfl) ?_
             refine SD.all2 (i := 4) (j := 7) (by kernel_rfl) ?_ ?_
             · refine SW.eff D_8 (i := 4) (v := .g [ci .u16 x_3.2, .s 2]) (bs' := [true, true, true, true, true, false, true, false, false, false]) rfl (.inl rfl) rfl (e_val tk (by kernel_rfl)) (by kernel_rfl) rfl (by kernel_rfl) ?_
               refine SD.norm (itsN := [.rd 1 R8 b_1, .blk 41 [cb false, nl], .rd 1 R8 l_9]) (by kernel_rfl) ?_
               refine SD.all2 (i := 5) (j := 7) (by kernel_rfl) ?_ ?_
               · refine SW.eff D_8 (i := 5) (bs' := [true, true, true, true, true, true, true, false, false, false]) rfl (.inl rfl) rfl (e_lit (sz := 2) (E := 25) (R := R_T_api_Frame) (by_ := 32) tk [[ci .u16 x_3.2, .s 2]] [(T_api_Frame.mk x_3.2 l_9)] (by kernel_rfl) ⟨(clo_T_api_Frame (x := (T_api_Frame.mk x_3.2 l_9)) (Clo.sl (by kernel_rfl))), trivial⟩ rfl (by kernel_rfl) (by kernel_rfl)) (by kernel_rfl) rfl (by kernel_rfl) ?_
                 refine SD.all1 (i := 7) (by kernel_rfl) ?_
                 refine SW.store D_8 tk (i := 7) (q := 1) (T := 41) (cs := [cb false, nl]) (bs' := [true, true, true, true, true, true, true, true, false, false]) rfl (by kernel_rfl) rfl rfl (by kernel_rfl) ?_
                 refine SD.norm (itsN := [.rd 1 R8 b_1, .blk 41 [cb false, nl], .rd 1 R8 l_9, .own 2 25 R_T_api_Frame [(T_api_Frame.mk x_3.2 l_9)]]) (by kernel_rfl) ?_
                 refine SD.takes tk D_8 [] kn0 [8, 9] [] [] [true, true, true, true, true, true, true, true, true, true] [(4, vp 1 0), (5, vs 3), (6, vi .i64 err_2)] rfl (by kernel_rfl) (by kernel_rfl) (by kernel_rfl) ?_
                 refine SD.done (by kernel_rfl) fun a w h => ?_
                 exact ⟨[(T_api_Frame.mk x_3.2 l_9)], hp, h.at (js := [.g 0, .g 1, .g 3]) (by kernel_rfl)⟩
               · refine SW.store D_8 tk (i := 7) (q := 1) (T := 41) (cs := [cb false, nl]) (bs' := [true, true, true, true, true, false, true, true, false, false]) rfl (by kernel_rfl) rfl rfl (by kernel_rfl) ?_
                 refine SD.all1 (i := 5) (by kernel_rfl) ?_
                 refine SW.eff D_8 (i := 5) (bs' := [true, true, true, true, true, true, true, true, false, false]) rfl (.inl rfl) rfl (e_lit (sz := 2) (E := 25) (R := R_T_api_Frame) (by_ := 32) tk [[ci .u16 x_3.2, .s 2]] [(T_api_Frame.mk x_3.2 l_9)] (by kernel_rfl) ⟨(clo_T_api_Frame (x := (T_api_Frame.mk x_3.2 l_9)) (Clo.sl (by kernel_rfl))), trivial⟩ rfl (by kernel_rfl) (by kernel_rfl)) (by kernel_rfl) rfl (by kernel_rfl) ?_
                 refine SD.norm (itsN := [.rd 1 R8 b_1, .blk 41 [cb false, nl], .rd 1 R8 l_9, .own 2 25 R_T_api_Frame [(T_api_Frame.mk x_3.2 l_9)]]) (by kernel_rfl) ?_
                 refine SD.takes tk D_8 [] kn0 [8, 9] [] [] [true, true, true, true, true, true, true, true, true, true] [(4, vp 1 0), (5, vs 3), (6, vi .i64 err_2)] rfl (by kernel_rfl) (by kernel_rfl) (by kernel_rfl) ?_
                 refine SD.done (by kernel_rfl) fun a w h => ?_
                 exact ⟨[(T_api_Frame.mk x_3.2 l_9)], hp, h.at (js := [.g 0, .g 1, .g 3]) (by kernel_rfl)⟩
             · refine SW.store D_8 tk (i := 7) (q := 1) (T := 41) (cs := [cb false, nl]) (bs' := [true, true, true, true, false, false, true, true, false, false]) rfl (by kernel_rfl) rfl rfl (by kernel_rfl) ?_
               refine SD.norm (itsN := [.rd 1 R8 b_1, .blk 41 [cb false, nl], .rd 1 R8 l_9]) (by kernel_rfl) ?_
               refine SD.all1 (i := 4) (by kernel_rfl) ?_
               refine SW.eff D_8 (i := 4) (v := .g [ci .u16 x_3.2, .s 2]) (bs' := [true, true, true, true, true, false, true, true, false, false]) rfl (.inl rfl) rfl (e_val tk (by kernel_rfl)) (by kernel_rfl) rfl (by kernel_rfl) ?_
               refine SD.all1 (i := 5) (by kernel_rfl) ?_
               refine SW.eff D_8 (i := 5) (bs' := [true, true, true, true, true, true, true, true, false, false]) rfl (.inl rfl) rfl (e_lit (sz := 2) (E := 25) (R := R_T_api_Frame) (by_ := 32) tk [[ci .u16 x_3.2, .s 2]] [(T_api_Frame.mk x_3.2 l_9)] (by kernel_rfl) ⟨(clo_T_api_Frame (x := (T_api_Frame.mk x_3.2 l_9)) (Clo.sl (by kernel_rfl))), trivial⟩ rfl (by kernel_rfl) (by kernel_rfl)) (by kernel_rfl) rfl (by kernel_rfl) ?_
               refine SD.norm (itsN := [.rd 1 R8 b_1, .blk 41 [cb false, nl], .rd 1 R8 l_9, .own 2 25 R_T_api_Frame [(T_api_Frame.mk x_3.2 l_9)]]) (by kernel_rfl) ?_
               refine SD.takes tk D_8 [] kn0 [8, 9] [] [] [true, true, true, true, true, true, true, true, true, true] [(4, vp 1 0), (5, vs 3), (6, vi .i64 err_2)] rfl (by kernel_rfl) (by kernel_rfl) (by kernel_rfl) ?_
               refine SD.done (by kernel_rfl) fun a w h => ?_
               exact ⟨[(T_api_Frame.mk x_3.2 l_9)], hp, h.at (js := [.g 0, .g 1, .g 3]) (by kernel_rfl)⟩
           · refine SW.store D_8 tk (i := 7) (q := 1) (T := 41) (cs := [cb false, nl]) (bs' := [true, true, true, false, false, false, true, true, false, false]) rfl (by kernel_rfl) rfl rfl (by kernel_rfl) ?_
             obtain ⟨l_10, e_l_10, hp⟩ := bind_inv hp
             refine SD.all1 (i := 3) (by kernel_rfl) ?_
             refine SW.eff D_8 (i := 3) (bs' := [true, true, true, true, false, false, true, true, false, false]) rfl (.inl rfl) rfl (e_sub (sz := 1) (E := 5) (R := R8) (by_ := 1) (l := b_1) tk rfl (.inl ⟨0, rfl, (by kernel_rfl)⟩) rfl rfl e_l_10 (by kernel_rfl)) (by kernel_rfl) rfl (by kernel_rfl) ?_
             refine SD.norm (itsN := [.rd 1 R8 b_1, .blk 41 [cb false, nl], .rd 1 R8 l_10]) (by kernel_rfl) ?_
             refine SD.all1 (i := 4) (by kernel_rfl) ?_
             refine SW.eff D_8 (i := 4) (v := .g [ci .u16 x_3.2, .s 2]) (bs' := [true, true, true, true, true, false, true, true, false, false]) rfl (.inl rfl) rfl (e_val tk (by kernel_rfl)) (by kernel_rfl) rfl (by kernel_rfl) ?_
             refine SD.all1 (i := 5) (by kernel_rfl) ?_
             refine SW.eff D_8 (i := 5) (bs' := [true, true, true, true, true, true, true, true, false, false]) rfl (.inl rfl) rfl (e_lit (sz := 2) (E := 25) (R := R_T_api_Frame) (by_ := 32) tk [[ci .u16 x_3.2, .s 2]] [(T_api_Frame.mk x_3.2 l_10)] (by kernel_rfl) ⟨(clo_T_api_Frame (x := (T_api_Frame.mk x_3.2 l_10)) (Clo.sl (by kernel_rfl))), trivial⟩ rfl (by kernel_rfl) (by kernel_rfl)) (by kernel_rfl) rfl (by kernel_rfl) ?_
             refine SD.norm (itsN := [.rd 1 R8 b_1, .blk 41 [cb false, nl], .rd 1 R8 l_10, .own 2 25 R_T_api_Frame [(T_api_Frame.mk x_3.2 l_10)]]) (by kernel_rfl) ?_
             refine SD.takes tk D_8 [] kn0 [8, 9] [] [] [true, true, true, true, true, true, true, true, true, true] [(4, vp 1 0), (5, vs 3), (6, vi .i64 err_2)] rfl (by kernel_rfl) (by kernel_rfl) (by kernel_rfl) ?_
             refine SD.done (by kernel_rfl) fun a w h => ?_
             exact ⟨[(T_api_Frame.mk x_3.2 l_10)], hp, h.at (js := [.g 0, .g 1, .g 3]) (by kernel_rfl)⟩
         · rintro a w ⟨l_6, hp, h⟩
           refine h.go ?_
           obtain rfl := some_inv' hp
           exact SC.re (js := [.g 0, .n, .z 2]) tk (by kernel_rfl)

theorem ok_wirelessref32_Feed (F : Nat) (a_1 : T_api_Assembler) (p_2 : T_api_Packet) (r : T_api_Assembler × (List T_api_Frame) × Int) (hp : wirelessref32_Feed F a_1 p_2 = some r) : Spec Try.prog 22 [.g [cb a_1.On, .s 0], .g [ci .i64 p_2.LLID, .s 1]] [.rd 1 R8 a_1.Buffer, .rd 1 R8 p_2.Payload] (.u [.inr [cb r.1.On, .s 2], .inl (.s 3), .inl (ci .i64 r.2.2)]) [.gone, .gone, .rd 1 R8 r.1.Buffer, .rd 2 R_T_api_Frame r.2.1] := by
 refine Spec.enter Try.func22 rfl Try.ntmps22 rfl rfl fun fx => ?_
 refine SC.seq ?_
 refine SC.reg ?_
 refine SL.eff (e_box (E := 41) [cb a_1.On, .s 0] (by kernel_rfl)) rfl (by kernel_rfl) ?_
 refine SL.eff (e_box (E := 48) [ci .i64 p_2.LLID, .s 1] (by kernel_rfl)) rfl (by kernel_rfl) ?_
 refine SL.eff (e_alloc (E := 41) tk [cb false, nl] (by kernel_rfl)) rfl (by kernel_rfl) ?_
 refine SL.sim tk 2 [(2, vp 2 0), (3, vp 3 0), (4, vp 4 0)] [] [] [] (by kernel_rfl) ?_
 refine SL.nilThen ?_
 refine SC.seq ?_
 refine SC.seq ?_
 refine SC.reg ?_
 refine SL.sim tk 1 [(2, vp 2 0), (3, vp 3 0), (4, vp 4 0), (9, .g [ci .i64 p_2.LLID, .s 1])] [] [] [] (by kernel_rfl) ?_
 obtain ⟨x_3, e_x_3, hp⟩ := bind_inv hp
 refine SL.eff (e_c Try.call34 (ok_wirelessref23_Blank F p_2 _ e_x_3) [.g 1] [.g [ci .i64 p_2.LLID, .s 1]] (vb x_3) (by kernel_rfl) (.inl rfl)) rfl (by kernel_rfl) ?_
 refine SL.norm (itsN := [.rd 1 R8 a_1.Buffer, .rd 1 R8 p_2.Payload, .blk 41 [cb a_1.On, .s 0], .blk 48 [ci .i64 p_2.LLID, .s 1], .blk 41 [cb false, nl]]) (by kernel_rfl) ?_
 refine SL.nilThen ?_
 refine SC.if' rfl hp (fun hp => ?_) (fun hp => ?_)
 · refine SC.r tk [(4, vp 4 0), (5, vn), (6, vi .i64 0)] [(4, 41, [cb a_1.On, .s 0])] [] [] (by kernel_rfl) ?_
   obtain rfl := some_inv' hp
   exact SC.re (js := [.g 0, .g 1, .g 0, .n]) tk (by kernel_rfl)
 · refine SC.skipThen ?_
   refine SC.seq ?_
   refine SC.r tk [(2, vp 2 0), (3, vp 3 0), (4, vp 4 0), (25, vb (((p_2.LLID != 2) && (p_2.LLID != 1)) || ((len p_2.Payload) == 0)))] [] [] [] (by kernel_rfl) ?_
   refine SC.if' rfl hp (fun hp => ?_) (fun hp => ?_)
   · refine SC.r tk [(4, vp 4 0), (5, vn), (6, vi .i64 12)] [(4, 41, [cb a_1.On, .s 0])] [] [] (by kernel_rfl) ?_
     obtain rfl := some_inv' hp
     exact SC.re (js := [.g 0, .g 1, .g 0, .n]) tk (by kernel_rfl)
   · refine SC.skipThen ?_
     refine SC.r tk [(2, vp 2 0), (3, vp 3 0), (4, vp 4 0), (7, vi .i64 0)] [] [] [] (by kernel_rfl) ?_
     refine SC.r tk [(2, vp 2 0), (3, vp 3 0), (4, vp 4 0), (7, vi .i64 0), (8, vn)] [] [] [] (by kernel_rfl) ?_
     refine SC.cut (fun a w => ∃ (x_4 : Int) (l_5 : (List Int)), wirelessref32_Feed_j1 F x_4 l_5 = some r ∧ A 53 2 fx [(4, vp 2 0), (7, vi .i64 x_4), (8, vs 3)] [.gone, .gone, .blk 41 [cb false, nl], .own 1 5 R8 l_5] a w) ?_ ?_
     · refine SC.r tk [(2, vp 2 0), (3, vp 3 0), (4, vp 4 0), (7, vi .i64 0), (8, vn), (29, vb (p_2.LLID == 2))] [] [] [] (by kernel_rfl) ?_
       refine SC.if' rfl hp (fun hp => ?_) (fun hp => ?_)
       · refine SC.cut (fun a w => ∃ (x_7 : Int), wirelessref32_Feed_j2 F p_2 x_7 = some r ∧ A 53 2 fx [(3, vp 2 0), (4, vp 3 0), (7, vi .i64 x_7), (8, vn)] [.gone, .rd 1 R8 p_2.Payload, .blk 48 [ci .i64 p_2.LLID, .s 1], .blk 41 [cb false, nl]] a w) ?_ ?_
         · refine SC.r tk [(3, vp 3 0), (4, vp 4 0), (7, vi .i64 0), (8, vn), (31, vb a_1.On)] [] [] [] (by kernel_rfl) ?_
           refine SC.if' rfl hp (fun hp => ?_) (fun hp => ?_)
           · refine SC.reg ?_
             refine SL.sim tk 1 [(3, vp 3 0), (4, vp 4 0), (7, vi .i64 13), (8, vn)] [] [] [] (by kernel_rfl) ?_
             refine SL.nilJ fun a w h => ?_
             exact ⟨13, hp, h.at (js := [.g 0, .g 1, .g 3, .g 4]) (by kernel_rfl)⟩
           · refine SC.skipJ fun a w h => ?_
             exact ⟨0, hp, h.at (js := [.g 0, .g 1, .g 3, .g 4]) (by kernel_rfl)⟩
         · rintro a w ⟨x_7, hp, h⟩
           refine h.go ?_
           refine SC.reg ?_
           refine SL.sim tk 3 [(4, vp 3 0), (7, vi .i64 x_7), (8, vn), (32, vn), (34, vs 1)] [] [] [] (by kernel_rfl) ?_
           obtain ⟨l_8, e_l_8, hp⟩ := bind_inv hp
           refine SL.eff (e_appn (sz := 1) (E := 5) (R := R8) (by_ := 1) (m := p_2.Payload) tk rfl rfl (.r (by kernel_rfl)) e_l_8 (by kernel_rfl)) rfl (by kernel_rfl) ?_
           refine SL.sim tk 1 [(4, vp 3 0), (7, vi .i64 x_7), (8, vs 4)] [] [] [] (by kernel_rfl) ?_
           refine SL.nilJ fun a w h => ?_
           exact ⟨x_7, l_8, hp, h.at (js := [.g 0, .g 1, .g 3, .g 4]) (by kernel_rfl)⟩
       · refine SC.seq ?_
         refine SC.r tk [(2, vp 2 0), (3, vp 3 0), (4, vp 4 0), (7, vi .i64 0), (8, vn), (38, vb (!a_1.On))] [] [] [] (by kernel_rfl) ?_
         refine SC.if' rfl hp (fun hp => ?_) (fun hp => ?_)
         · refine SC.r tk [(4, vp 4 0), (5, vn), (6, vi .i64 13)] [(4, 41, [cb false, nl])] [] [] (by kernel_rfl) ?_
           obtain rfl := some_inv' hp
           exact SC.re (js := [.g 0, .g 1, .n, .n]) tk (by kernel_rfl)
         · refine SC.skipThen ?_
           refine SC.draw MO [true, true, true, true, true] (by kernel_rfl) fun kap_9 D_10 => ?_
           refine SD.takes tk D_10 [] kn0 [0, 1, 2, 4, 5] [] [] [true, true, true, false, true, true, false, false] [(4, vp 4 0), (7, vi .i64 0), (8, vn), (40, vn), (42, vs 0), (45, vs 1)] rfl (by kernel_rfl) (by kernel_rfl) (by kernel_rfl) ?_
           obtain ⟨l_11, e_l_11, hp⟩ := bind_inv hp
           refine SD.all1 (i := 3) (by kernel_rfl) ?_
           refine SW.eff D_10 (i := 3) (bs' := [true, true, true, true, true, true, false, false]) rfl (.inl rfl) rfl (e_appn (sz := 1) (E := 5) (R := R8) (by_ := 1) (m := a_1.Buffer) tk rfl rfl (.r (by kernel_rfl)) e_l_11 (by kernel_rfl)) (by kernel_rfl) rfl (by kernel_rfl) ?_
           obtain ⟨l_12, e_l_12, hp⟩ := bind_inv hp
           refine SD.all1 (i := 6) (by kernel_rfl) ?_
           refine SW.eff D_10 (i := 6) (bs' := [true, true, true, true, true, true, true, false]) rfl (.inl rfl) rfl (e_app (i := 5) (l := l_11) (sz := 1) (E := 5) (R := R8) (by_ := 1) (m := p_2.Payload) tk rfl (by kernel_rfl) rfl (.r (by kernel_rfl)) e_l_12 (by kernel_rfl)) (by kernel_rfl) rfl (by kernel_rfl) ?_
           refine SD.norm (itsN := [.rd 1 R8 a_1.Buffer, .rd 1 R8 p_2.Payload, .blk 41 [cb a_1.On, .s 0], .blk 48 [ci .i64 p_2.LLID, .s 1], .blk 41 [cb false, nl], .gone, .own 1 5 R8 l_12]) (by kernel_rfl) ?_
           refine SD.takes tk D_10 [] kn0 [7] [] [] [true, true, true, true, true, true, true, true] [(4, vp 4 0), (7, vi .i64 0), (8, vs 6)] rfl (by kernel_rfl) (by kernel_rfl) (by kernel_rfl) ?_
           refine SD.done (by kernel_rfl) fun a w h => ?_
           exact ⟨0, l_12, hp, h.at (js := [.g 0, .g 1, .g 4, .g 6]) (by kernel_rfl)⟩
     · rintro a w ⟨x_4, l_5, hp, h⟩
       refine h.go ?_
       refine SC.seq ?_
       refine SC.reg ?_
       refine SL.sim tk 2 [(4, vp 2 0), (47, vs 3), (48, vi .i64 x_4)] [] [] [] (by kernel_rfl) ?_
       obtain ⟨x_6, e_x_6, hp⟩ := bind_inv hp
       refine SL.pre (pre_frz (i := 3) (sz := 1) (E := 5) (R := R8) (l := l_5) (by kernel_rfl)) ?_
       refine SL.eff (e_c Try.call35 (ok_wirelessref32_taken F l_5 x_4 _ e_x_6) [.g 3] [vs 3, vi .i64 x_4] (.u [.inr [cb x_6.1.On, .s 4], .inl (.s 5), .inl (ci .i64 x_6.2.2)]) (by kernel_rfl) (.inl rfl)) rfl (by kernel_rfl) ?_
       refine SL.sim tk 6 [(4, vp 2 0), (5, vs 5), (6, vi .i64 x_6.2.2)] [(2, 41, [cb x_6.1.On, .s 4])] [] [] (by kernel_rfl) ?_
       refine SL.nilThen ?_
       obtain rfl := some_inv' hp
       exact SC.re (js := [.g 0, .g 1, .g 4, .g 5]) tk (by kernel_rfl)

theorem ok_wirelessref32_SameAssembler (F : Nat) (a_1 : T_api_Assembler) (b_2 : T_api_Assembler) (r : Bool) (hp : wirelessref32_SameAssembler F a_1 b_2 = some r) : Spec Try.prog 23 [.g [cb a_1.On, .s 0], .g [cb b_2.On, .s 1]] [.rd 1 R8 a_1.Buffer, .rd 1 R8 b_2.Buffer] (vb r) [.gone, .gone] := by
 refine Spec.enter Try.func23 rfl Try.ntmps23 rfl rfl fun fx => ?_
 refine SC.seq ?_
 refine SC.reg ?_
 refine SL.eff (e_box (E := 41) [cb a_1.On, .s 0] (by kernel_rfl)) rfl (by kernel_rfl) ?_
 refine SL.eff (e_box (E := 41) [cb b_2.On, .s 1] (by kernel_rfl)) rfl (by kernel_rfl) ?_
 refine SL.sim tk 1 [(2, vp 2 0), (3, vp 3 0)] [] [] [] (by kernel_rfl) ?_
 refine SL.nilThen ?_
 refine SC.seq ?_
 refine SC.reg ?_
 refine SL.sim tk 6 [(2, vp 2 0), (3, vp 3 0), (10, vb (a_1.On == b_2.On))] [] [] [] (by kernel_rfl) ?_
 obtain ⟨z_4, hz, hpr⟩ := bind_inv hp
 clear hp
 refine SL.cutAt 6 (fun a w => A 17 2 fx [(16, vb z_4)] [.gone, .gone] a w) ?_ ?_
 · have hp := hz
   rcases Bool.eq_false_or_eq_true ((a_1.On == b_2.On)) with hg_3 | hg_3
   · replace hp := if_t hp hg_3
     refine SL.yes rfl rfl hg_3 ?_
     refine SL.sim tk 1 [(3, vp 3 0), (10, vb (a_1.On == b_2.On)), (11, vp 2 1)] [] [] [] (by kernel_rfl) ?_
     refine SL.yes rfl rfl hg_3 ?_
     refine SL.sim tk 1 [(3, vp 3 0), (10, vb (a_1.On == b_2.On)), (12, vs 0)] [] [] [] (by kernel_rfl) ?_
     refine SL.yes rfl rfl hg_3 ?_
     refine SL.sim tk 1 [(10, vb (a_1.On == b_2.On)), (12, vs 0), (13, vp 3 1)] [] [] [] (by kernel_rfl) ?_
     refine SL.yes rfl rfl hg_3 ?_
     refine SL.sim tk 1 [(10, vb (a_1.On == b_2.On)), (12, vs 0), (14, vs 1)] [] [] [] (by kernel_rfl) ?_
     refine SL.yes rfl rfl hg_3 ?_
     obtain ⟨x_6, e_x_6, hp⟩ := bind_inv hp
     refine SL.eff (e_c Try.call13 (ok_wirelessref23_Same F a_1.Buffer b_2.Buffer _ e_x_6) [.g 0, .g 1] [vs 0, vs 1] (vb x_6) (by kernel_rfl) (.inl rfl)) rfl (by kernel_rfl) ?_
     refine SL.norm (itsN := [.rd 1 R8 a_1.Buffer, .rd 1 R8 b_2.Buffer, .blk 41 [cb a_1.On, .s 0], .blk 41 [cb b_2.On, .s 1]]) (by kernel_rfl) ?_
     refine SL.pickt rfl hg_3 rfl rfl ?_
     refine SL.nilJ fun a w h => ?_
     obtain rfl := some_inv' hp
     exact h.at (js := [.g 0, .g 1]) (by kernel_rfl)
   · replace hp := if_f hp hg_3
     refine SL.no rfl rfl hg_3 rfl ?_
     refine SL.no rfl rfl hg_3 rfl ?_
     refine SL.no rfl rfl hg_3 rfl ?_
     refine SL.no rfl rfl hg_3 rfl ?_
     refine SL.no rfl rfl hg_3 rfl ?_
     refine SL.pickf rfl hg_3 rfl rfl ?_
     refine SL.nilJ fun a w h => ?_
     obtain rfl := some_inv' hp
     exact h.at (js := [.g 0, .g 1]) (by kernel_rfl)
 · intro a w h
   have hp := hpr; clear hpr hz
   refine h.goL ?_
   refine SL.sim tk 1 [(4, vb z_4)] [] [] [] (by kernel_rfl) ?_
   refine SL.nilThen ?_
   obtain rfl := some_inv' hp
   exact SC.re (js := [.g 0, .g 1]) tk (by kernel_rfl)

theorem ok_wirelessref32_SameFrames (F : Nat) (a_1 : (List T_api_Frame)) (b_2 : (List T_api_Frame)) (r : Bool) (hp : wirelessref32_SameFrames F a_1 b_2 = some r) : Spec Try.prog 24 [vs 0, vs 1] [.rd 2 R_T_api_Frame a_1, .rd 2 R_T_api_Frame b_2] (vb r) [.gone, .gone] := by
 refine Spec.enter Try.func24 rfl Try.ntmps24 rfl rfl fun fx => ?_
 refine SC.r tk [(0, vs 0), (1, vs 1)] [] [] [] (by kernel_rfl) ?_
 refine SC.seq ?_
 refine SC.r tk [(0, vs 0), (1, vs 1), (10, vb ((len a_1) != (len b_2)))] [] [] [] (by kernel_rfl) ?_
 refine SC.if' rfl hp (fun hp => ?_) (fun hp => ?_)
 · refine SC.r tk [(4, vb false)] [] [] [] (by kernel_rfl) ?_
   obtain rfl := some_inv' hp
   exact SC.re (js := [.g 0, .g 1]) tk (by kernel_rfl)
 · refine SC.skipThen ?_
   refine SC.cut (fun a w => wirelessref32_SameFrames_j1 F = some r ∧ A 42 2 fx [] [.gone, .gone] a w) ?_ ?_
   · refine SC.r tk [(0, vs 0), (1, vs 1), (5, vi .i64 0)] [] [] [] (by kernel_rfl) ?_
     refine SC.block ?_
     obtain ⟨o1, hi1, ho1⟩ := bind_inv hp
     clear hp
     refine SC.loop (fun n a w => ∃ (x_3 : Int), iter (fun s => wirelessref32_SameFrames_l1 F a_1 b_2 s) n (x_3) = some o1 ∧ A 42 2 fx [(0, vs 0), (1, vs 1), (5, vi .i64 x_3)] [.rd 2 R_T_api_Frame a_1, .rd 2 R_T_api_Frame b_2] a w) F (fun a w h => ⟨0, hi1, h.at (js := [.g 0, .g 1]) (by kernel_rfl)⟩) ?_
     rintro n1 a w ⟨x_3, hi1, h⟩
     obtain ⟨n1, q1, rfl, hp, hs1⟩ := iter_inv hi1
     replace hp : wirelessref32_SameFrames_l1 F a_1 b_2 x_3 = some q1 := hp
     clear hi1
     refine h.go ?_
     refine SC.seq ?_
     refine SC.r tk [(0, vs 0), (1, vs 1), (5, vi .i64 x_3), (14, vb (decide (x_3 < (len a_1))))] [] [] [] (by kernel_rfl) ?_
     refine SC.if' rfl hp (fun hp => ?_) (fun hp => ?_)
     · refine SC.skipThen ?_
       refine SC.seq ?_
       refine SC.block ?_
       refine SC.cut (fun a w => ∃ (z_4 : Bool), wirelessref32_SameFrames_j2 F x_3 z_4 = some q1 ∧ A 42 2 fx [(0, vs 0), (1, vs 1), (5, vi .i64 x_3), (41, vb z_4)] [.rd 2 R_T_api_Frame a_1, .rd 2 R_T_api_Frame b_2] a w) ?_ ?_
       · obtain ⟨x_5, e_x_5, hp⟩ := bind_inv hp
         obtain ⟨x_6, e_x_6, hp⟩ := bind_inv hp
         refine SC.pre (pre_ix (i := 0) (iv := x_3) (sz := 2) (R := R_T_api_Frame) (l := a_1) (by kernel_rfl) rfl e_x_5) ?_
         refine SC.pre (pre_ix (i := 1) (iv := x_3) (sz := 2) (R := R_T_api_Frame) (l := b_2) (by kernel_rfl) rfl e_x_6) ?_
         refine SC.draw MO [true, true, true, true, true, true] (by kernel_rfl) fun kap_7 D_8 => ?_
         refine SD.takes tk D_8 [] kn0 [0, 1, 2, 3, 4, 5, 6, 7, 8, 9, 10, 11] [.el 2, .el 4] [x_3, x_3] [true, true, true, true, true, true, true, true, true, true, true, true, false, false, false, false, false, false, false, false, false, false, false, false, false] [(0, vs 0), (1, vs 1), (5, vi .i64 x_3), (28, vb (x_5.CID != x_6.CID))] rfl (by kernel_rfl) (by kernel_rfl) (by kernel_rfl) ?_
         rcases Bool.eq_false_or_eq_true ((x_5.CID != x_6.CID)) with hg_9 | hg_9
         · replace hp := if_t hp hg_9
           refine SD.takes tk D_8 [(28, true)] (knS rfl hg_9 kn0) [12, 13, 14, 15, 16, 17, 18, 19, 20, 21, 22, 23, 24] [] [] [true, true, true, true, true, true, true, true, true, true, true, true, true, true, true, true, true, true, true, true, true, true, true, true, true] [(0, vs 0), (1, vs 1), (5, vi .i64 x_3), (29, .u []), (30, .u []), (31, .u []), (32, .u []), (33, .u []), (34, .u []), (35, .u []), (36, .u []), (37, .u []), (38, .u []), (39, .u []), (40, .u []), (41, vb true)] rfl (by kernel_rfl) (by kernel_rfl) (by kernel_rfl) ?_
           refine SD.done (by kernel_rfl) fun a w h => ?_
           exact ⟨true, hp, h.at (js := [.g 0, .g 1]) (by kernel_rfl)⟩
         · replace hp := if_f hp hg_9
           refine SD.takes tk D_8 [(28, false)] (knS rfl hg_9 kn0) [12, 13, 17, 18] [] [] [true, true, true, true, true, true, true, true, true, true, true, true, true, true, false, false, false, true, true, false, false, false, false, false, false] [(0, vs 0), (1, vs 1), (5, vi .i64 x_3), (28, vb (x_5.CID != x_6.CID)), (29, vs 0), (30, vi .i64 x_3), (34, vs 1), (35, vi .i64 x_3)] rfl (by kernel_rfl) (by kernel_rfl) (by kernel_rfl) ?_
           refine SD.all2 (i := 14) (j := 19) (by kernel_rfl) ?_ ?_
           · obtain ⟨x_10, e_x_10, hp⟩ := bind_inv hp
             refine SW.pre (pre_ix (i := 0) (iv := x_3) (sz := 2) (R := R_T_api_Frame) (l := a_1) (by kernel_rfl) rfl e_x_10) ?_
             refine SW.eff D_8 (i := 14) (v := vp 6 0) (bs' := [true, true, true, true, true, true, true, true, true, true, true, true, true, true, true, false, false, true, true, false, false, false, false, false, false]) rfl (.inr ⟨_, _, _, _, rfl, rfl, rfl, hg_9⟩) rfl (e_valE tk (.el 6) [x_3] (by kernel_rfl)) (by kernel_rfl) rfl (by kernel_rfl) ?_
             refine SD.all2 (i := 15) (j := 19) (by kernel_rfl) ?_ ?_
             · refine SW.eff D_8 (i := 15) (v := vp 6 1) (bs' := [true, true, true, true, true, true, true, true, true, true, true, true, true, true, true, true, false, true, true, false, false, false, false, false, false]) rfl (.inr ⟨_, _, _, _, rfl, rfl, rfl, hg_9⟩) rfl (e_val tk (by kernel_rfl)) (by kernel_rfl) rfl (by kernel_rfl) ?_
               refine SD.norm (itsN := [.rd 2 R_T_api_Frame a_1, .rd 2 R_T_api_Frame b_2, .elt (some (0, x_3)) false [ci .u16 x_5.CID, .s 3], .rd 1 R8 x_5.Payload, .elt (some (1, x_3)) false [ci .u16 x_6.CID, .s 5], .rd 1 R8 x_6.Payload, .elt (some (0, x_3)) false [ci .u16 x_10.CID, .s 7], .rd 1 R8 x_10.Payload]) (by kernel_rfl) ?_
               refine SD.all2 (i := 16) (j := 19) (by kernel_rfl) ?_ ?_
               · refine SW.eff D_8 (i := 16) (v := vs 7) (bs' := [true, true, true, true, true, true, true, true, true, true, true, true, true, true, true, true, true, true, true, false, false, false, false, false, false]) rfl (.inr ⟨_, _, _, _, rfl, rfl, rfl, hg_9⟩) rfl (e_val tk (by kernel_rfl)) (by kernel_rfl) rfl (by kernel_rfl) ?_
                 obtain ⟨x_11, e_x_11, hp⟩ := bind_inv hp
                 refine SD.pre (pre_ix (i := 1) (iv := x_3) (sz := 2) (R := R_T_api_Frame) (l := b_2) (by kernel_rfl) rfl e_x_11) ?_
                 refine SD.all1 (i := 19) (by kernel_rfl) ?_
                 refine SW.eff D_8 (i := 19) (v := vp 8 0) (bs' := [true, true, true, true, true, true, true, true, true, true, true, true, true, true, true, true, true, true, true, true, false, false, false, false, false]) rfl (.inr ⟨_, _, _, _, rfl, rfl, rfl, hg_9⟩) rfl (e_valE tk (.el 8) [x_3] (by kernel_rfl)) (by kernel_rfl) rfl (by kernel_rfl) ?_
                 refine SD.norm (itsN := [.rd 2 R_T_api_Frame a_1, .rd 2 R_T_api_Frame b_2, .elt (some (0, x_3)) false [ci .u16 x_5.CID, .s 3], .rd 1 R8 x_5.Payload, .elt (some (1, x_3)) false [ci .u16 x_6.CID, .s 5], .rd 1 R8 x_6.Payload, .elt (some (0, x_3)) false [ci .u16 x_10.CID, .s 7], .rd 1 R8 x_10.Payload, .elt (some (1, x_3)) false [ci .u16 x_11.CID, .s 9], .rd 1 R8 x_11.Payload]) (by kernel_rfl) ?_
                 refine SD.all1 (i := 20) (by kernel_rfl) ?_
                 refine SW.eff D_8 (i := 20) (v := vp 8 1) (bs' := [true, true, true, true, true, true, true, true, true, true, true, true, true, true, true, true, true, true, true, true, true, false, false, false, false]) rfl (.inr ⟨_, _, _, _, rfl, rfl, rfl, hg_9⟩) rfl (e_val tk (by kernel_rfl)) (by kernel_rfl) rfl (by kernel_rfl) ?_
                 refine SD.all1 (i := 21) (by kernel_rfl) ?_
                 refine SW.eff D_8 (i := 21) (v := vs 9) (bs' := [true, true, true, true, true, true, true, true, true, true, true, true, true, true, true, true, true, true, true, true, true, true, false, false, false]) rfl (.inr ⟨_, _, _, _, rfl, rfl, rfl, hg_9⟩) rfl (e_val tk (by kernel_rfl)) (by kernel_rfl) rfl (by kernel_rfl) ?_
                 refine SD.norm (itsN := [.rd 2 R_T_api_Frame a_1, .rd 2 R_T_api_Frame b_2, .elt (some (0, x_3)) false [ci .u16 x_5.CID, .s 3], .rd 1 R8 x_5.Payload, .elt (some (1, x_3)) false [ci .u16 x_6.CID, .s 5], .rd 1 R8 x_6.Payload, .elt (some (0, x_3)) false [ci .u16 x_10.CID, .s 7], .rd 1 R8 x_10.Payload, .elt (some (1, x_3)) false [ci .u16 x_11.CID, .s 9], .rd 1 R8 x_11.Payload]) (by kernel_rfl) ?_
                 obtain ⟨x_12, e_x_12, hp⟩ := bind_inv hp
                 refine SD.all1 (i := 22) (by kernel_rfl) ?_
                 refine SW.eff D_8 (i := 22) (bs' := [true, true, true, true, true, true, true, true, true, true, true, true, true, true, true, true, true, true, true, true, true, true, true, false, false]) rfl (.inr ⟨_, _, _, _, rfl, rfl, rfl, hg_9⟩) rfl (e_c Try.call13 (ok_wirelessref23_Same F x_10.Payload x_11.Payload _ e_x_12) [.g 7, .g 9] [vs 7, vs 9] (vb x_12) (by kernel_rfl) (.inl rfl)) (by kernel_rfl) rfl (by kernel_rfl) ?_
                 refine SD.takes tk D_8 [(28, false)] (knS rfl hg_9 kn0) [23, 24] [] [] [true, true, true, true, true, true, true, true, true, true, true, true, true, true, true, true, true, true, true, true, true, true, true, true, true] [(0, vs 0), (1, vs 1), (5, vi .i64 x_3), (29, vs 0), (30, vi .i64 x_3), (31, vp 6 0), (32, vp 6 1), (33, vs 7), (34, vs 1), (35, vi .i64 x_3), (36, vp 8 0), (37, vp 8 1), (38, vs 9), (39, vb x_12), (40, vb (!x_12)), (41, vb (!x_12))] rfl (by kernel_rfl) (by kernel_rfl) (by kernel_rfl) ?_
                 refine SD.done (by kernel_rfl) fun a w h => ?_
                 exact ⟨(!x_12), hp, h.at (js := [.g 0, .g 1]) (by kernel_rfl)⟩
               · obtain ⟨x_13, e_x_13, hp⟩ := bind_inv hp
                 refine SW.pre (pre_ix (i := 1) (iv := x_3) (sz := 2) (R := R_T_api_Frame) (l := b_2) (by kernel_rfl) rfl e_x_13) ?_
                 refine SW.eff D_8 (i := 19) (v := vp 8 0) (bs' := [true, true, true, true, true, true, true, true, true, true, true, true, true, true, true, true, false, true, true, true, false, false, false, false, false]) rfl (.inr ⟨_, _, _, _, rfl, rfl, rfl, hg_9⟩) rfl (e_valE tk (.el 8) [x_3] (by kernel_rfl)) (by kernel_rfl) rfl (by kernel_rfl) ?_
                 refine SD.all2 (i := 16) (j := 20) (by kernel_rfl) ?_ ?_
                 · refine SW.eff D_8 (i := 16) (v := vs 7) (bs' := [true, true, true, true, true, true, true, true, true, true, true, true, true, true, true, true, true, true, true, true, false, false, false, false, false]) rfl (.inr ⟨_, _, _, _, rfl, rfl, rfl, hg_9⟩) rfl (e_val tk (by kernel_rfl)) (by kernel_rfl) rfl (by kernel_rfl) ?_
                   refine SD.norm (itsN := [.rd 2 R_T_api_Frame a_1, .rd 2 R_T_api_Frame b_2, .elt (some (0, x_3)) false [ci .u16 x_5.CID, .s 3], .rd 1 R8 x_5.Payload, .elt (some (1, x_3)) false [ci .u16 x_6.CID, .s 5], .rd 1 R8 x_6.Payload, .elt (some (0, x_3)) false [ci .u16 x_10.CID, .s 7], .rd 1 R8 x_10.Payload, .elt (some (1, x_3)) false [ci .u16 x_13.CID, .s 9], .rd 1 R8 x_13.Payload]) (by kernel_rfl) ?_
                   refine SD.all1 (i := 20) (by kernel_rfl) ?_
                   refine SW.eff D_8 (i := 20) (v := vp 8 1) (bs' := [true, true, true, true, true, true, true, true, true, true, true, true, true, true, true, true, true, true, true, true, true, false, false, false, false]) rfl (.inr ⟨_, _, _, _, rfl, rfl, rfl, hg_9⟩) rfl (e_val tk (by kernel_rfl)) (by kernel_rfl) rfl (by kernel_rfl) ?_
                   refine SD.all1 (i := 21) (by kernel_rfl) ?_
                   refine SW.eff D_8 (i := 21) (v := vs 9) (bs' := [true, true, true, true, true, true, true, true, true, true, true, true, true, true, true, true, true, true, true, true, true, true, false, false, false]) rfl (.inr ⟨_, _, _, _, rfl, rfl, rfl, hg_9⟩) rfl (e_val tk (by kernel_rfl)) (by kernel_rfl) rfl (by kernel_rfl) ?_
                   refine SD.norm (itsN := [.rd 2 R_T_api_Frame a_1, .rd 2 R_T_api_Frame b_2, .elt (some (0, x_3)) false [ci .u16 x_5.CID, .s 3], .rd 1 R8 x_5.Payload, .elt (some (1, x_3)) false [ci .u16 x_6.CID, .s 5], .rd 1 R8 x_6.Payload, .elt (some (0, x_3)) false [ci .u16 x_10.CID, .s 7], .rd 1 R8 x_10.Payload, .elt (some (1, x_3)) false [ci .u16 x_13.CID, .s 9], .rd 1 R8 x_13.Payload]) (by kernel_rfl) ?_
                   obtain ⟨x_14, e_x_14, hp⟩ := bind_inv hp
                   refine SD.all1 (i := 22) (by kernel_rfl) ?_
                   refine SW.eff D_8 (i := 22) (bs' := [true, true, true, true, true, true, true, true, true, true, true, true, true, true, true, true, true, true, true, true, true, true, true, false, false]) rfl (.inr ⟨_, _, _, _, rfl, rfl, rfl, hg_9⟩) rfl (e_c Try.call13 (ok_wirelessref23_Same F x_10.Payload x_13.Payload _ e_x_14) [.g 7, .g 9] [vs 7, vs 9] (vb x_14) (by kernel_rfl) (.inl rfl)) (by kernel_rfl) rfl (by kernel_rfl) ?_
                   refine SD.takes tk D_8 [(28, false)] (knS rfl hg_9 kn0) [23, 24] [] [] [true, true, true, true, true, true, true, true, true, true, true, true, true, true, true, true, true, true, true, true, true, true, true, true, true] [(0, vs 0), (1, vs 1), (5, vi .i64 x_3), (29, vs 0), (30, vi .i64 x_3), (31, vp 6 0), (32, vp 6 1), (33, vs 7), (34, vs 1), (35, vi .i64 x_3), (36, vp 8 0), (37, vp 8 1), (38, vs 9), (39, vb x_14), (40, vb (!x_14)), (41, vb (!x_14))] rfl (by kernel_rfl) (by kernel_rfl) (by kernel_rfl) ?_
                   refine SD.done (by kernel_rfl) fun a w h => ?_
                   exact ⟨(!x_14), hp, h.at (js := [.g 0, .g 1]) (by kernel_rfl)⟩
                 · refine SW.eff D_8 (i := 20) (v := vp 8 1) (bs' := [true, true, true, true, true, true, true, true, true, true, true, true, true, true, true, true, false, true, true, true, true, false, false, false, false]) rfl (.inr ⟨_, _, _, _, rfl, rfl, rfl, hg_9⟩) rfl (e_val tk (by kernel_rfl)) (by kernel_rfl) rfl (by kernel_rfl) ?_
                   refine SD.norm (itsN := [.rd 2 R_T_api_Frame a_1, .rd 2 R_T_api_Frame b_2, .elt (some (0, x_3)) false [ci .u16 x_5.CID, .s 3], .rd 1 R8 x_5.Payload, .elt (some (1, x_3)) false [ci .u16 x_6.CID, .s 5], .rd 1 R8 x_6.Payload, .elt (some (0, x_3)) false [ci .u16 x_10.CID, .s 7], .rd 1 R8 x_10.Payload, .elt (some (1, x_3)) false [ci .u16 x_13.CID, .s 9], .rd 1 R8 x_13.Payload]) (by kernel_rfl) ?_
                   refine SD.all2 (i := 16) (j := 21) (by kernel_rfl) ?_ ?_
                   · refine SW.eff D_8 (i := 16) (v := vs 7) (bs' := [true, true, true, true, true, true, true, true, true, true, true, true, true, true, true, true, true, true, true, true, true, false, false, false, false]) rfl (.inr ⟨_, _, _, _, rfl, rfl, rfl, hg_9⟩) rfl (e_val tk (by kernel_rfl)) (by kernel_rfl) rfl (by kernel_rfl) ?_
                     refine SD.all1 (i := 21) (by kernel_rfl) ?_
                     refine SW.eff D_8 (i := 21) (v := vs 9) (bs' := [true, true, true, true, true, true, true, true, true, true, true, true, true, true, true, true, true, true, true, true, true, true, false, false, false]) rfl (.inr ⟨_, _, _, _, rfl, rfl, rfl, hg_9⟩) rfl (e_val tk (by kernel_rfl)) (by kernel_rfl) rfl (by kernel_rfl) ?_
                     refine SD.norm (itsN := [.rd 2 R_T_api_Frame a_1, .rd 2 R_T_api_Frame b_2, .elt (some (0, x_3)) false [ci .u16 x_5.CID, .s 3], .rd 1 R8 x_5.Payload, .elt (some (1, x_3)) false [ci .u16 x_6.CID, .s 5], .rd 1 R8 x_6.Payload, .elt (some (0, x_3)) false [ci .u16 x_10.CID, .s 7], .rd 1 R8 x_10.Payload, .elt (some (1, x_3)) false [ci .u16 x_13.CID, .s 9], .rd 1 R8 x_13.Payload]) (by kernel_rfl) ?_
                     obtain ⟨x_15, e_x_15, hp⟩ := bind_inv hp
                     refine SD.all1 (i := 22) (by kernel_rfl) ?_
                     refine SW.eff D_8 (i := 22) (bs' := [true, true, true, true, true, true, true, true, true, true, true, true, true, true, true, true, true, true, true, true, true, true, true, false, false]) rfl (.inr ⟨_, _, _, _, rfl, rfl, rfl, hg_9⟩) rfl (e_c Try.call13 (ok_wirelessref23_Same F x_10.Payload x_13.Payload _ e_x_15) [.g 7, .g 9] [vs 7, vs 9] (vb x_15) (by kernel_rfl) (.inl rfl)) (by kernel_rfl) rfl (by kernel_rfl) ?_
                     refine SD.takes tk D_8 [(28, false)] (knS rfl hg_9 kn0) [23, 24] [] [] [true, true, true, true, true, true, true, true, true, true, true, true, true, true, true, true, true, true, true, true, true, true, true, true, true] [(0, vs 0), (1, vs 1), (5, vi .i64 x_3), (29, vs 0), (30, vi .i64 x_3), (31, vp 6 0), (32, vp 6 1), (33, vs 7), (34, vs 1), (35, vi .i64 x_3), (36, vp 8 0), (37, vp 8 1), (38, vs 9), (39, vb x_15), (40, vb (!x_15)), (41, vb (!x_15))] rfl (by kernel_rfl) (by kernel_rfl) (by kernel_rfl) ?_
                     refine SD.done (by kernel_rfl) fun a w h => ?_
                     exact ⟨(!x_15), hp, h.at (js := [.g 0, .g 1]) (by kernel_rfl)⟩
                   · refine SW.eff D_8 (i := 21) (v := vs 9) (bs' := [true, true, true, true, true, true, true, true, true, true, true, true, true, true, true, true, false, true, true, true, true, true, false, false, false]) rfl (.inr ⟨_, _, _, _, rfl, rfl, rfl, hg_9⟩) rfl (e_val tk (by kernel_rfl)) (by kernel_rfl) rfl (by kernel_rfl) ?_
                     refine SD.all1 (i := 16) (by kernel_rfl) ?_
                     refine SW.eff D_8 (i := 16) (v := vs 7) (bs' := [true, true, true, true, true, true, true, true, true, true, true, true, true, true, true, true, true, true, true, true, true, true, false, false, false]) rfl (.inr ⟨_, _, _, _, rfl, rfl, rfl, hg_9⟩) rfl (e_val tk (by kernel_rfl)) (by kernel_rfl) rfl (by kernel_rfl) ?_
                     refine SD.norm (itsN := [.rd 2 R_T_api_Frame a_1, .rd 2 R_T_api_Frame b_2, .elt (some (0, x_3)) false [ci .u16 x_5.CID, .s 3], .rd 1 R8 x_5.Payload, .elt (some (1, x_3)) false [ci .u16 x_6.CID, .s 5], .rd 1 R8 x_6.Payload, .elt (some (0, x_3)) false [ci .u16 x_10.CID, .s 7], .rd 1 R8 x_10.Payload, .elt (some (1, x_3)) false [ci .u16 x_13.CID, .s 9], .rd 1 R8 x_13.Payload]) (by kernel_rfl) ?_
                     obtain ⟨x_16, e_x_16, hp⟩ := bind_inv hp
                     refine SD.all1 (i := 22) (by kernel_rfl) ?_
                     refine SW.eff D_8 (i := 22) (bs' := [true, true, true, true, true, true, true, true, true, true, true, true, true, true, true, true, true, true, true, true, true, true, true, false, false]) rfl (.inr ⟨_, _, _, _, rfl, rfl, rfl, hg_9⟩) rfl (e_c Try.call13 (ok_wirelessref23_Same F x_10.Payload x_13.Payload _ e_x_16) [.g 7, .g 9] [vs 7, vs 9] (vb x_16) (by kernel_rfl) (.inl rfl)) (by kernel_rfl) rfl (by kernel_rfl) ?_
                     refine SD.takes tk D_8 [(28, false)] (knS rfl hg_9 kn0) [23, 24] [] [] [true, true, true, true, true, true, true, true, true, true, true, true, true, true, true, true, true, true, true, true, true, true, true, true, true] [(0, vs 0), (1, vs 1), (5, vi .i64 x_3), (29, vs 0), (30, vi .i64 x_3), (31, vp 6 0), (32, vp 6 1), (33, vs 7), (34, vs 1), (35, vi .i64 x_3), (36, vp 8 0), (37, vp 8 1), (38, vs 9), (39, vb x_16), (40, vb (!x_16)), (41, vb (!x_16))] rfl (by kernel_rfl) (by kernel_rfl) (by kernel_rfl) ?_
                     refine SD.done (by kernel_rfl) fun a w h => ?_
                     exact ⟨(!x_16), hp, h.at (js := [.g 0, .g 1]) (by kernel_rfl)⟩
             · obtain ⟨x_17, e_x_17, hp⟩ := bind_inv hp
               refine SW.pre (pre_ix (i := 1) (iv := x_3) (sz := 2) (R := R_T_api_Frame) (l := b_2) (by kernel_rfl) rfl e_x_17) ?_
               refine SW.eff D_8 (i := 19) (v := vp 8 0) (bs' := [true, true, true, true, true, true, true, true, true, true, true, true, true, true, true, false, false, true, true, true, false, false, false, false, false]) rfl (.inr ⟨_, _, _, _, rfl, rfl, rfl, hg_9⟩) rfl (e_valE tk (.el 8) [x_3] (by kernel_rfl)) (by kernel_rfl) rfl (by kernel_rfl) ?_
               refine SD.norm (itsN := [.rd 2 R_T_api_Frame a_1, .rd 2 R_T_api_Frame b_2, .elt (some (0, x_3)) false [ci .u16 x_5.CID, .s 3], .rd 1 R8 x_5.Payload, .elt (some (1, x_3)) false [ci .u16 x_6.CID, .s 5], .rd 1 R8 x_6.Payload, .elt (some (0, x_3)) false [ci .u16 x_10.CID, .s 7], .rd 1 R8 x_10.Payload, .elt (some (1, x_3)) false [ci .u16 x_17.CID, .s 9], .rd 1 R8 x_17.Payload]) (by kernel_rfl) ?_
               refine SD.all2 (i := 15) (j := 20) (by kernel_rfl) ?_ ?_
               · refine SW.eff D_8 (i := 15) (v := vp 6 1) (bs' := [true, true, true, true, true, true, true, true, true, true, true, true, true, true, true, true, false, true, true, true, false, false, false, false, false]) rfl (.inr ⟨_, _, _, _, rfl, rfl, rfl, hg_9⟩) rfl (e_val tk (by kernel_rfl)) (by kernel_rfl) rfl (by kernel_rfl) ?_
                 refine SD.all2 (i := 16) (j := 20) (by kernel_rfl) ?_ ?_
                 · refine SW.eff D_8 (i := 16) (v := vs 7) (bs' := [true, true, true, true, true, true, true, true, true, true, true, true, true, true, true, true, true, true, true, true, false, false, false, false, false]) rfl (.inr ⟨_, _, _, _, rfl, rfl, rfl, hg_9⟩) rfl (e_val tk (by kernel_rfl)) (by kernel_rfl) rfl (by kernel_rfl) ?_
                   refine SD.norm (itsN := [.rd 2 R_T_api_Frame a_1, .rd 2 R_T_api_Frame b_2, .elt (some (0, x_3)) false [ci .u16 x_5.CID, .s 3], .rd 1 R8 x_5.Payload, .elt (some (1, x_3)) false [ci .u16 x_6.CID, .s 5], .rd 1 R8 x_6.Payload, .elt (some (0, x_3)) false [ci .u16 x_10.CID, .s 7], .rd 1 R8 x_10.Payload, .elt (some (1, x_3)) false [ci .u16 x_17.CID, .s 9], .rd 1 R8 x_17.Payload]) (by kernel_rfl) ?_
                   refine SD.all1 (i := 20) (by kernel_rfl) ?_
                   refine SW.eff D_8 (i := 20) (v := vp 8 1) (bs' := [true, true, true, true, true, true, true, true, true, true, true, true, true, true, true, true, true, true, true, true, true, false, false, false, false]) rfl (.inr ⟨_, _, _, _, rfl, rfl, rfl, hg_9⟩) rfl (e_val tk (by kernel_rfl)) (by kernel_rfl) rfl (by kernel_rfl) ?_
                   refine SD.all1 (i := 21) (by kernel_rfl) ?_
                   refine SW.eff D_8 (i := 21) (v := vs 9) (bs' := [true, true, true, true, true, true, true, true, true, true, true, true, true, true, true, true, true, true, true, true, true, true, false, false, false]) rfl (.inr ⟨_, _, _, _, rfl, rfl, rfl, hg_9⟩) rfl (e_val tk (by kernel_rfl)) (by kernel_rfl) rfl (by kernel_rfl) ?_
                   refine SD.norm (itsN := [.rd 2 R_T_api_Frame a_1, .rd 2 R_T_api_Frame b_2, .elt (some (0, x_3)) false [ci .u16 x_5.CID, .s 3], .rd 1 R8 x_5.Payload, .elt (some (1, x_3)) false [ci .u16 x_6.CID, .s 5], .rd 1 R8 x_6.Payload, .elt (some (0, x_3)) false [ci .u16 x_10.CID, .s 7], .rd 1 R8 x_10.Payload, .elt (some (1, x_3)) false [ci .u16 x_17.CID, .s 9], .rd 1 R8 x_17.Payload]) (by kernel_rfl) ?_
                   obtain ⟨x_18, e_x_18, hp⟩ := bind_inv hp
                   refine SD.all1 (i := 22) (by kernel_rfl) ?_
                   refine SW.eff D_8 (i := 22) (bs' := [true, true, true, true, true, true, true, true, true, true, true, true, true, true, true, true, true, true, true, true, true, true, true, false, false]) rfl (.inr ⟨_, _, _, _, rfl, rfl, rfl, hg_9⟩) rfl (e_c Try.call13 (ok_wirelessref23_Same F x_10.Payload x_17.Payload _ e_x_18) [.g 7, .g 9] [vs 7, vs 9] (vb x_18) (by kernel_rfl) (.inl rfl)) (by kernel_rfl) rfl (by kernel_rfl) ?_
                   refine SD.takes tk D_8 [(28, false)] (knS rfl hg_9 kn0) [23, 24] [] [] [true, true, true, true, true, true, true, true, true, true, true, true, true, true, true, true, true, true, true, true, true, true, true, true, true] [(0, vs 0), (1, vs 1), (5, vi .i64 x_3), (29, vs 0), (30, vi .i64 x_3), (31, vp 6 0), (32, vp 6 1), (33, vs 7), (34, vs 1), (35, vi .i64 x_3), (36, vp 8 0), (37, vp 8 1), (38, vs 9), (39, vb x_18), (40, vb (!x_18)), (41, vb (!x_18))] rfl (by kernel_rfl) (by kernel_rfl) (by kernel_rfl) ?_
                   refine SD.done (by kernel_rfl) fun a w h => ?_
                   exact ⟨(!x_18), hp, h.at (js := [.g 0, .g 1]) (by kernel_rfl)⟩
                 · refine SW.eff D_8 (i := 20) (v := vp 8 1) (bs' := [true, true, true, true, true, true, true, true, true, true, true, true, true, true, true, true, false, true, true, true, true, false, false, false, false]) rfl (.inr ⟨_, _, _, _, rfl, rfl, rfl, hg_9⟩) rfl (e_val tk (by kernel_rfl)) (by kernel_rfl) rfl (by kernel_rfl) ?_
                   refine SD.norm (itsN := [.rd 2 R_T_api_Frame a_1, .rd 2 R_T_api_Frame b_2, .elt (some (0, x_3)) false [ci .u16 x_5.CID, .s 3], .rd 1 R8 x_5.Payload, .elt (some (1, x_3)) false [ci .u16 x_6.CID, .s 5], .rd 1 R8 x_6.Payload, .elt (some (0, x_3)) false [ci .u16 x_10.CID, .s 7], .rd 1 R8 x_10.Payload, .elt (some (1, x_3)) false [ci .u16 x_17.CID, .s 9], .rd 1 R8 x_17.Payload]) (by kernel_rfl) ?_
                   refine SD.all2 (i := 16) (j := 21) (by kernel_rfl) ?_ ?_
                   · refine SW.eff D_8 (i := 16) (v := vs 7) (bs' := [true, true, true, true, true, true, true, true, true, true, true, true, true, true, true, true, true, true, true, true, true, false, false, false, false]) rfl (.inr ⟨_, _, _, _, rfl, rfl, rfl, hg_9⟩) rfl (e_val tk (by kernel_rfl)) (by kernel_rfl) rfl (by kernel_rfl) ?_
                     refine SD.all1 (i := 21) (by kernel_rfl) ?_
                     refine SW.eff D_8 (i := 21) (v := vs 9) (bs' := [true, true, true, true, true, true, true, true, true, true, true, true, true, true, true, true, true, true, true, true, true, true, false, false, false]) rfl (.inr ⟨_, _, _, _, rfl, rfl, rfl, hg_9⟩) rfl (e_val tk (by kernel_rfl)) (by kernel_rfl) rfl (by kernel_rfl) ?_
                     refine SD.norm (itsN := [.rd 2 R_T_api_Frame a_1, .rd 2 R_T_api_Frame b_2, .elt (some (0, x_3)) false [ci .u16 x_5.CID, .s 3], .rd 1 R8 x_5.Payload, .elt (some (1, x_3)) false [ci .u16 x_6.CID, .s 5], .rd 1 R8 x_6.Payload, .elt (some (0, x_3)) false [ci .u16 x_10.CID, .s 7], .rd 1 R8 x_10.Payload, .elt (some (1, x_3)) false [ci .u16 x_17.CID, .s 9], .rd 1 R8 x_17.Payload]) (by kernel_rfl) ?_
                     obtain ⟨x_19, e_x_19, hp⟩ := bind_inv hp
                     refine SD.all1 (i := 22) (by kernel_rfl) ?_
                     refine SW.eff D_8 (i := 22) (bs' := [true, true, true, true, true, true, true, true, true, true, true, true, true, true, true, true, true, true, true, true, true, true, true, false, false]) rfl (.inr ⟨_, _, _, _, rfl, rfl, rfl, hg_9⟩) rfl (e_c Try.call13 (ok_wirelessref23_Same F x_10.Payload x_17.Payload _ e_x_19) [.g 7, .g 9] [vs 7, vs 9] (vb x_19) (by kernel_rfl) (.inl rfl)) (by kernel_rfl) rfl (by kernel_rfl) ?_
                     refine SD.takes tk D_8 [(28, false)] (knS rfl hg_9 kn0) [23, 24] [] [] [true, true, true, true, true, true, true, true, true, true, true, true, true, true, true, true, true, true, true, true, true, true, true, true, true] [(0, vs 0), (1, vs 1), (5, vi .i64 x_3), (29, vs 0), (30, vi .i64 x_3), (31, vp 6 0), (32, vp 6 1), (33, vs 7), (34, vs 1), (35, vi .i64 x_3), (36, vp 8 0), (37, vp 8 1), (38, vs 9), (39, vb x_19), (40, vb (!x_19)), (41, vb (!x_19))] rfl (by kernel_rfl) (by kernel_rfl) (by kernel_rfl) ?_
                     refine SD.done (by kernel_rfl) fun a w h => ?_
                     exact ⟨(!x_19), hp, h.at (js := [.g 0, .g 1]) (by kernel_rfl)⟩
                   · refine SW.eff D_8 (i := 21) (v := vs 9) (bs' := [true, true, true, true, true, true, true, true, true, true, true, true, true, true, true, true, false, true, true, true, true, true, false, false, false]) rfl (.inr ⟨_, _, _, _, rfl, rfl, rfl, hg_9⟩) rfl (e_val tk (by kernel_rfl)) (by kernel_rfl) rfl (by kernel_rfl) ?_
                     refine SD.all1 (i := 16) (by kernel_rfl) ?_
                     refine SW.eff D_8 (i := 16) (v := vs 7) (bs' := [true, true, true, true, true, true, true, true, true, true, true, true, true, true, true, true, true, true, true, true, true, true, false, false, false]) rfl (.inr ⟨_, _, _, _, rfl, rfl, rfl, hg_9⟩) rfl (e_val tk (by kernel_rfl)) (by kernel_rfl) rfl (by kernel_rfl) ?_
                     refine SD.norm (itsN := [.rd 2 R_T_api_Frame a_1, .rd 2 R_T_api_Frame b_2, .elt (some (0, x_3)) false [ci .u16 x_5.CID, .s 3], .rd 1 R8 x_5.Payload, .elt (some (1, x_3)) false [ci .u16 x_6.CID, .s 5], .rd 1 R8 x_6.Payload, .elt (some (0, x_3)) false [ci .u16 x_10.CID, .s 7], .rd 1 R8 x_10.Payload, .elt (some (1, x_3)) false [ci .u16 x_17.CID, .s 9], .rd 1 R8 x_17.Payload]) (by kernel_rfl) ?_
                     obtain ⟨x_20, e_x_20, hp⟩ := bind_inv hp
                     refine SD.all1 (i := 22) (by kernel_rfl) ?_
                     refine SW.eff D_8 (i := 22) (bs' := [true, true, true, true, true, true, true, true, true, true, true, true, true, true, true, true, true, true, true, true, true, true, true, false, false]) rfl (.inr ⟨_, _, _, _, rfl, rfl, rfl, hg_9⟩) rfl (e_c Try.call13 (ok_wirelessref23_Same F x_10.Payload x_17.Payload _ e_x_20) [.g 7, .g 9] [vs 7, vs 9] (vb x_20) (by kernel_rfl) (.inl rfl)) (by kernel_rfl) rfl (by kernel_rfl) ?_
                     refine SD.takes tk D_8 [(28, false)] (knS rfl hg_9 kn0) [23, 24] [] [] [true, true, true, true, true, true, true, true, true, true, true, true, true, true, true, true, true, true, true, true, true, true, true, true, true] [(0, vs 0), (1, vs 1), (5, vi .i64 x_3), (29, vs 0), (30, vi .i64 x_3), (31, vp 6 0), (32, vp 6 1), (33, vs 7), (34, vs 1), (35, vi .i64 x_3), (36, vp 8 0), (37, vp 8 1), (38, vs 9), (39, vb x_20), (40, vb (!x_20)), (41, vb (!x_20))] rfl (by kernel_rfl) (by kernel_rfl) (by kernel_rfl) ?_
                     refine SD.done (by kernel_rfl) fun a w h => ?_
                     exact ⟨(!x_20), hp, h.at (js := [.g 0, .g 1]) (by kernel_rfl)⟩
               · refine SW.eff D_8 (i := 20) (v := vp 8 1) (bs' := [true, true, true, true, true, true, true, true, true, true, true, true, true, true, true, false, false, true, true, true, true, false, false, false, false]) rfl (.inr ⟨_, _, _, _, rfl, rfl, rfl, hg_9⟩) rfl (e_val tk (by kernel_rfl)) (by kernel_rfl) rfl (by kernel_rfl) ?_
                 refine SD.all2 (i := 15) (j := 21) (by kernel_rfl) ?_ ?_
                 · refine SW.eff D_8 (i := 15) (v := vp 6 1) (bs' := [true, true, true, true, true, true, true, true, true, true, true, true, true, true, true, true, false, true, true, true, true, false, false, false, false]) rfl (.inr ⟨_, _, _, _, rfl, rfl, rfl, hg_9⟩) rfl (e_val tk (by kernel_rfl)) (by kernel_rfl) rfl (by kernel_rfl) ?_
                   refine SD.norm (itsN := [.rd 2 R_T_api_Frame a_1, .rd 2 R_T_api_Frame b_2, .elt (some (0, x_3)) false [ci .u16 x_5.CID, .s 3], .rd 1 R8 x_5.Payload, .elt (some (1, x_3)) false [ci .u16 x_6.CID, .s 5], .rd 1 R8 x_6.Payload, .elt (some (0, x_3)) false [ci .u16 x_10.CID, .s 7], .rd 1 R8 x_10.Payload, .elt (some (1, x_3)) false [ci .u16 x_17.CID, .s 9], .rd 1 R8 x_17.Payload]) (by kernel_rfl) ?_
                   refine SD.all2 (i := 16) (j := 21) (by kernel_rfl) ?_ ?_
                   · refine SW.eff D_8 (i := 16) (v := vs 7) (bs' := [true, true, true, true, true, true, true, true, true, true, true, true, true, true, true, true, true, true, true, true, true, false, false, false, false]) rfl (.inr ⟨_, _, _, _, rfl, rfl, rfl, hg_9⟩) rfl (e_val tk (by kernel_rfl)) (by kernel_rfl) rfl (by kernel_rfl) ?_
                     refine SD.all1 (i := 21) (by kernel_rfl) ?_
                     refine SW.eff D_8 (i := 21) (v := vs 9) (bs' := [true, true, true, true, true, true, true, true, true, true, true, true, true, true, true, true, true, true, true, true, true, true, false, false, false]) rfl (.inr ⟨_, _, _, _, rfl, rfl, rfl, hg_9⟩) rfl (e_val tk (by kernel_rfl)) (by kernel_rfl) rfl (by kernel_rfl) ?_
                     refine SD.norm (itsN := [.rd 2 R_T_api_Frame a_1, .rd 2 R_T_api_Frame b_2, .elt (some (0, x_3)) false [ci .u16 x_5.CID, .s 3], .rd 1 R8 x_5.Payload, .elt (some (1, x_3)) false [ci .u16 x_6.CID, .s 5], .rd 1 R8 x_6.Payload, .elt (some (0, x_3)) false [ci .u16 x_10.CID, .s 7], .rd 1 R8 x_10.Payload, .elt (some (1, x_3)) false [ci .u16 x_17.CID, .s 9], .rd 1 R8 x_17.Payload]) (by kernel_rfl) ?_
                     obtain ⟨x_21, e_x_21, hp⟩ := bind_inv hp
                     refine SD.all1 (i := 22) (by kernel_rfl) ?_
                     refine SW.eff D_8 (i := 22) (bs' := [true, true, true, true, true, true, true, true, true, true, true, true, true, true, true, true, true, true, true, true, true, true, true, false, false]) rfl (.inr ⟨_, _, _, _, rfl, rfl, rfl, hg_9⟩) rfl (e_c Try.call13 (ok_wirelessref23_Same F x_10.Payload x_17.Payload _ e_x_21) [.g 7, .g 9] [vs 7, vs 9] (vb x_21) (by kernel_rfl) (.inl rfl)) (by kernel_rfl) rfl (by kernel_rfl) ?_
                     refine SD.takes tk D_8 [(28, false)] (knS rfl hg_9 kn0) [23, 24] [] [] [true, true, true, true, true, true, true, true, true, true, true, true, true, true, true, true, true, true, true, true, true, true, true, true, true] [(0, vs 0), (1, vs 1), (5, vi .i64 x_3), (29, vs 0), (30, vi .i64 x_3), (31, vp 6 0), (32, vp 6 1), (33, vs 7), (34, vs 1), (35, vi .i64 x_3), (36, vp 8 0), (37, vp 8 1), (38, vs 9), (39, vb x_21), (40, vb (!x_21)), (41, vb (!x_21))] rfl (by kernel_rfl) (by kernel_rfl) (by kernel_rfl) ?_
                     refine SD.done (by kernel_rfl) fun a w h => ?_
                     exact ⟨(!x_21), hp, h.at (js := [.g 0, .g 1]) (by kernel_rfl)⟩
                   · refine SW.eff D_8 (i := 21) (v := vs 9) (bs' := [true, true, true, true, true, true, true, true, true, true, true, true, true, true, true, true, false, true, true, true, true, true, false, false, false]) rfl (.inr ⟨_, _, _, _, rfl, rfl, rfl, hg_9⟩) rfl (e_val tk (by kernel_rfl)) (by kernel_rfl) rfl (by kernel_rfl) ?_
                     refine SD.all1 (i := 16) (by kernel_rfl) ?_
                     refine SW.eff D_8 (i := 16) (v := vs 7) (bs' := [true, true, true, true, true, true, true, true, true, true, true, true, true, true, true, true, true, true, true, true, true, true, false, false, false]) rfl (.inr ⟨_, _, _, _, rfl, rfl, rfl, hg_9⟩) rfl (e_val tk (by kernel_rfl)) (by kernel_rfl) rfl (by kernel_rfl) ?_
                     refine SD.norm (itsN := [.rd 2 R_T_api_Frame a_1, .rd 2 R_T_api_Frame b_2, .elt (some (0, x_3)) false [ci .u16 x_5.CID, .s 3], .rd 1 R8 x_5.Payload, .elt (some (1, x_3)) false [ci .u16 x_6.CID, .s 5], .rd 1 R8 x_6.Payload, .elt (some (0, x_3)) false [ci .u16 x_10.CID, .s 7], .rd 1 R8 x_10.Payload, .elt (some (1, x_3)) false [ci .u16 x_17.CID, .s 9], .rd 1 R8 x_17.Payload]) (by kernel_rfl) ?_
                     obtain ⟨x_22, e_x_22, hp⟩ := bind_inv hp
                     refine SD.all1 (i := 22) (by kernel_rfl) ?_
                     refine SW.eff D_8 (i := 22) (bs' := [true, true, true, true, true, true, true, true, true, true, true, true, true, true, true, true, true, true, true, true, true, true, true, false, false]) rfl (.inr ⟨_, _, _, _, rfl, rfl, rfl, hg_9⟩) rfl (e_c Try.call13 (ok_wirelessref23_Same F x_10.Payload x_17.Payload _ e_x_22) [.g 7, .g 9] [vs 7, vs 9] (vb x_22) (by kernel_rfl) (.inl rfl)) (by kernel_rfl) rfl (by kernel_rfl) ?_
                     refine SD.takes tk D_8 [(28, false)] (knS rfl hg_9 kn0) [23, 24] [] [] [true, true, true, true, true, true, true, true, true, true, true, true, true, true, true, true, true, true, true, true, true, true, true, true, true] [(0, vs 0), (1, vs 1), (5, vi .i64 x_3), (29, vs 0), (30, vi .i64 x_3), (31, vp 6 0), (32, vp 6 1), (33, vs 7), (34, vs 1), (35, vi .i64 x_3), (36, vp 8 0), (37, vp 8 1), (38, vs 9), (39, vb x_22), (40, vb (!x_22)), (41, vb (!x_22))] rfl (by kernel_rfl) (by kernel_rfl) (by kernel_rfl) ?_
                     refine SD.done (by kernel_rfl) fun a w h => ?_
                     exact ⟨(!x_22), hp, h.at (js := [.g 0, .g 1]) (by kernel_rfl)⟩
                 · refine SW.eff D_8 (i := 21) (v := vs 9) (bs' := [true, true, true, true, true, true, true, true, true, true, true, true, true, true, true, false, false, true, true, true, true, true, false, false, false]) rfl (.inr ⟨_, _, _, _, rfl, rfl, rfl, hg_9⟩) rfl (e_val tk (by kernel_rfl)) (by kernel_rfl) rfl (by kernel_rfl) ?_
                   refine SD.norm (itsN := [.rd 2 R_T_api_Frame a_1, .rd 2 R_T_api_Frame b_2, .elt (some (0, x_3)) false [ci .u16 x_5.CID, .s 3], .rd 1 R8 x_5.Payload, .elt (some (1, x_3)) false [ci .u16 x_6.CID, .s 5], .rd 1 R8 x_6.Payload, .elt (some (0, x_3)) false [ci .u16 x_10.CID, .s 7], .rd 1 R8 x_10.Payload, .elt (some (1, x_3)) false [ci .u16 x_17.CID, .s 9], .rd 1 R8 x_17.Payload]) (by kernel_rfl) ?_
                   refine SD.all1 (i := 15) (by kernel_rfl) ?_
                   refine SW.eff D_8 (i := 15) (v := vp 6 1) (bs' := [true, true, true, true, true, true, true, true, true, true, true, true, true, true, true, true, false, true, true, true, true, true, false, false, false]) rfl (.inr ⟨_, _, _, _, rfl, rfl, rfl, hg_9⟩) rfl (e_val tk (by kernel_rfl)) (by kernel_rfl) rfl (by kernel_rfl) ?_
                   refine SD.all1 (i := 16) (by kernel_rfl) ?_
                   refine SW.eff D_8 (i := 16) (v := vs 7) (bs' := [true, true, true, true, true, true, true, true, true, true, true, true, true, true, true, true, true, true, true, true, true, true, false, false, false]) rfl (.inr ⟨_, _, _, _, rfl, rfl, rfl, hg_9⟩) rfl (e_val tk (by kernel_rfl)) (by kernel_rfl) rfl (by kernel_rfl) ?_
                   refine SD.norm (itsN := [.rd 2 R_T_api_Frame a_1, .rd 2 R_T_api_Frame b_2, .elt (some (0, x_3)) false [ci .u16 x_5.CID, .s 3], .rd 1 R8 x_5.Payload, .elt (some (1, x_3)) false [ci .u16 x_6.CID, .s 5], .rd 1 R8 x_6.Payload, .elt (some (0, x_3)) false [ci .u16 x_10.CID, .s 7], .rd 1 R8 x_10.Payload, .elt (some (1, x_3)) false [ci .u16 x_17.CID, .s 9], .rd 1 R8 x_17.Payload]) (by kernel_rfl) ?_
                   obtain ⟨x_23, e_x_23, hp⟩ := bind_inv hp
                   refine SD.all1 (i := 22) (by kernel_rfl) ?_
                   refine SW.eff D_8 (i := 22) (bs' := [true, true, true, true, true, true, true, true, true, true, true, true, true, true, true, true, true, true, true, true, true, true, true, false, false]) rfl (.inr ⟨_, _, _, _, rfl, rfl, rfl, hg_9⟩) rfl (e_c Try.call13 (ok_wirelessref23_Same F x_10.Payload x_17.Payload _ e_x_23) [.g 7, .g 9] [vs 7, vs 9] (vb x_23) (by kernel_rfl) (.inl rfl)) (by kernel_rfl) rfl (by kernel_rfl) ?_
                   refine SD.takes tk D_8 [(28, false)] (knS rfl hg_9 kn0) [23, 24] [] [] [true, true, true, true, true, true, true, true, true, true, true, true, true, true, true, true, true, true, true, true, true, true, true, true, true] [(0, vs 0), (1, vs 1), (5, vi .i64 x_3), (29, vs 0), (30, vi .i64 x_3), (31, vp 6 0), (32, vp 6 1), (33, vs 7), (34, vs 1), (35, vi .i64 x_3), (36, vp 8 0), (37, vp 8 1), (38, vs 9), (39, vb x_23), (40, vb (!x_23)), (41, vb (!x_23))] rfl (by kernel_rfl) (by kernel_rfl) (by kernel_rfl) ?_
                   refine SD.done (by kernel_rfl) fun a w h => ?_
                   exact ⟨(!x_23), hp, h.at (js := [.g 0, .g 1]) (by kernel_rfl)⟩
           · replace hp := bind_swap hp
             obtain ⟨x_24, e_x_24, hp⟩ := bind_inv hp
             refine SW.pre (pre_ix (i := 1) (iv := x_3) (sz := 2) (R := R_T_api_Frame) (l := b_2) (by kernel_rfl) rfl e_x_24) ?_
             refine SW.eff D_8 (i := 19) (v := vp 6 0) (bs' := [true, true, true, true, true, true, true, true, true, true, true, true, true, true, false, false, false, true, true, true, false, false, false, false, false]) rfl (.inr ⟨_, _, _, _, rfl, rfl, rfl, hg_9⟩) rfl (e_valE tk (.el 6) [x_3] (by kernel_rfl)) (by kernel_rfl) rfl (by kernel_rfl) ?_
             refine SD.all2 (i := 14) (j := 20) (by kernel_rfl) ?_ ?_
             · obtain ⟨x_25, e_x_25, hp⟩ := bind_inv hp
               refine SW.pre (pre_ix (i := 0) (iv := x_3) (sz := 2) (R := R_T_api_Frame) (l := a_1) (by kernel_rfl) rfl e_x_25) ?_
               refine SW.eff D_8 (i := 14) (v := vp 8 0) (bs' := [true, true, true, true, true, true, true, true, true, true, true, true, true, true, true, false, false, true, true, true, false, false, false, false, false]) rfl (.inr ⟨_, _, _, _, rfl, rfl, rfl, hg_9⟩) rfl (e_valE tk (.el 8) [x_3] (by kernel_rfl)) (by kernel_rfl) rfl (by kernel_rfl) ?_
               refine SD.norm (itsN := [.rd 2 R_T_api_Frame a_1, .rd 2 R_T_api_Frame b_2, .elt (some (0, x_3)) false [ci .u16 x_5.CID, .s 3], .rd 1 R8 x_5.Payload, .elt (some (1, x_3)) false [ci .u16 x_6.CID, .s 5], .rd 1 R8 x_6.Payload, .elt (some (1, x_3)) false [ci .u16 x_24.CID, .s 7], .rd 1 R8 x_24.Payload, .elt (some (0, x_3)) false [ci .u16 x_25.CID, .s 9], .rd 1 R8 x_25.Payload]) (by kernel_rfl) ?_
               refine SD.all2 (i := 15) (j := 20) (by kernel_rfl) ?_ ?_
               · refine SW.eff D_8 (i := 15) (v := vp 8 1) (bs' := [true, true, true, true, true, true, true, true, true, true, true, true, true, true, true, true, false, true, true, true, false, false, false, false, false]) rfl (.inr ⟨_, _, _, _, rfl, rfl, rfl, hg_9⟩) rfl (e_val tk (by kernel_rfl)) (by kernel_rfl) rfl (by kernel_rfl) ?_
                 refine SD.all2 (i := 16) (j := 20) (by kernel_rfl) ?_ ?_
                 · refine SW.eff D_8 (i := 16) (v := vs 9) (bs' := [true, true, true, true, true, true, true, true, true, true, true, true, true, true, true, true, true, true, true, true, false, false, false, false, false]) rfl (.inr ⟨_, _, _, _, rfl, rfl, rfl, hg_9⟩) rfl (e_val tk (by kernel_rfl)) (by kernel_rfl) rfl (by kernel_rfl) ?_
                   refine SD.norm (itsN := [.rd 2 R_T_api_Frame a_1, .rd 2 R_T_api_Frame b_2, .elt (some (0, x_3)) false [ci .u16 x_5.CID, .s 3], .rd 1 R8 x_5.Payload, .elt (some (1, x_3)) false [ci .u16 x_6.CID, .s 5], .rd 1 R8 x_6.Payload, .elt (some (1, x_3)) false [ci .u16 x_24.CID, .s 7], .rd 1 R8 x_24.Payload, .elt (some (0, x_3)) false [ci .u16 x_25.CID, .s 9], .rd 1 R8 x_25.Payload]) (by kernel_rfl) ?_
                   refine SD.all1 (i := 20) (by kernel_rfl) ?_
                   refine SW.eff D_8 (i := 20) (v := vp 6 1) (bs' := [true, true, true, true, true, true, true, true, true, true, true, true, true, true, true, true, true, true, true, true, true, false, false, false, false]) rfl (.inr ⟨_, _, _, _, rfl, rfl, rfl, hg_9⟩) rfl (e_val tk (by kernel_rfl)) (by kernel_rfl) rfl (by kernel_rfl) ?_
                   refine SD.all1 (i := 21) (by kernel_rfl) ?_
                   refine SW.eff D_8 (i := 21) (v := vs 7) (bs' := [true, true, true, true, true, true, true, true, true, true, true, true, true, true, true, true, true, true, true, true, true, true, false, false, false]) rfl (.inr ⟨_, _, _, _, rfl, rfl, rfl, hg_9⟩) rfl (e_val tk (by kernel_rfl)) (by kernel_rfl) rfl (by kernel_rfl) ?_
                   refine SD.norm (itsN := [.rd 2 R_T_api_Frame a_1, .rd 2 R_T_api_Frame b_2, .elt (some (0, x_3)) false [ci .u16 x_5.CID, .s 3], .rd 1 R8 x_5.Payload, .elt (some (1, x_3)) false [ci .u16 x_6.CID, .s 5], .rd 1 R8 x_6.Payload, .elt (some (1, x_3)) false [ci .u16 x_24.CID, .s 7], .rd 1 R8 x_24.Payload, .elt (some (0, x_3)) false [ci .u16 x_25.CID, .s 9], .rd 1 R8 x_25.Payload]) (by kernel_rfl) ?_
                   obtain ⟨x_26, e_x_26, hp⟩ := bind_inv hp
                   refine SD.all1 (i := 22) (by kernel_rfl) ?_
                   refine SW.eff D_8 (i := 22) (bs' := [true, true, true, true, true, true, true, true, true, true, true, true, true, true, true, true, true, true, true, true, true, true, true, false, false]) rfl (.inr ⟨_, _, _, _, rfl, rfl, rfl, hg_9⟩) rfl (e_c Try.call13 (ok_wirelessref23_Same F x_25.Payload x_24.Payload _ e_x_26) [.g 9, .g 7] [vs 9, vs 7] (vb x_26) (by kernel_rfl) (.inl rfl)) (by kernel_rfl) rfl (by kernel_rfl) ?_
                   refine SD.takes tk D_8 [(28, false)] (knS rfl hg_9 kn0) [23, 24] [] [] [true, true, true, true, true, true, true, true, true, true, true, true, true, true, true, true, true, true, true, true, true, true, true, true, true] [(0, vs 0), (1, vs 1), (5, vi .i64 x_3), (29, vs 0), (30, vi .i64 x_3), (31, vp 8 0), (32, vp 8 1), (33, vs 9), (34, vs 1), (35, vi .i64 x_3), (36, vp 6 0), (37, vp 6 1), (38, vs 7), (39, vb x_26), (40, vb (!x_26)), (41, vb (!x_26))] rfl (by kernel_rfl) (by kernel_rfl) (by kernel_rfl) ?_
                   refine SD.done (by kernel_rfl) fun a w h => ?_
                   exact ⟨(!x_26), hp, h.at (js := [.g 0, .g 1]) (by kernel_rfl)⟩
                 · refine SW.eff D_8 (i := 20) (v := vp 6 1) (bs' := [true, true, true, true, true, true, true, true, true, true, true, true, true, true, true, true, false, true, true, true, true, false, false, false, false]) rfl (.inr ⟨_, _, _, _, rfl, rfl, rfl, hg_9⟩) rfl (e_val tk (by kernel_rfl)) (by kernel_rfl) rfl (by kernel_rfl) ?_
                   refine SD.norm (itsN := [.rd 2 R_T_api_Frame a_1, .rd 2 R_T_api_Frame b_2, .elt (some (0, x_3)) false [ci .u16 x_5.CID, .s 3], .rd 1 R8 x_5.Payload, .elt (some (1, x_3)) false [ci .u16 x_6.CID, .s 5], .rd 1 R8 x_6.Payload, .elt (some (1, x_3)) false [ci .u16 x_24.CID, .s 7], .rd 1 R8 x_24.Payload, .elt (some (0, x_3)) false [ci .u16 x_25.CID, .s 9], .rd 1 R8 x_25.Payload]) (by kernel_rfl) ?_
                   refine SD.all2 (i := 16) (j := 21) (by kernel_rfl) ?_ ?_
                   · refine SW.eff D_8 (i := 16) (v := vs 9) (bs' := [true, true, true, true, true, true, true, true, true, true, true, true, true, true, true, true, true, true, true, true, true, false, false, false, false]) rfl (.inr ⟨_, _, _, _, rfl, rfl, rfl, hg_9⟩) rfl (e_val tk (by kernel_rfl)) (by kernel_rfl) rfl (by kernel_rfl) ?_
                     refine SD.all1 (i := 21) (by kernel_rfl) ?_
                     refine SW.eff D_8 (i := 21) (v := vs 7) (bs' := [true, true, true, true, true, true, true, true, true, true, true, true, true, true, true, true, true, true, true, true, true, true, false, false, false]) rfl (.inr ⟨_, _, _, _, rfl, rfl, rfl, hg_9⟩) rfl (e_val tk (by kernel_rfl)) (by kernel_rfl) rfl (by kernel_rfl) ?_
                     refine SD.norm (itsN := [.rd 2 R_T_api_Frame a_1, .rd 2 R_T_api_Frame b_2, .elt (some (0, x_3)) false [ci .u16 x_5.CID, .s 3], .rd 1 R8 x_5.Payload, .elt (some (1, x_3)) false [ci .u16 x_6.CID, .s 5], .rd 1 R8 x_6.Payload, .elt (some (1, x_3)) false [ci .u16 x_24.CID, .s 7], .rd 1 R8 x_24.Payload, .elt (some (0, x_3)) false [ci .u16 x_25.CID, .s 9], .rd 1 R8 x_25.Payload]) (by kernel_rfl) ?_
                     obtain ⟨x_27, e_x_27, hp⟩ := bind_inv hp
                     refine SD.all1 (i := 22) (by kernel_rfl) ?_
                     refine SW.eff D_8 (i := 22) (bs' := [true, true, true, true, true, true, true, true, true, true, true, true, true, true, true, true, true, true, true, true, true, true, true, false, false]) rfl (.inr ⟨_, _, _, _, rfl, rfl, rfl, hg_9⟩) rfl (e_c Try.call13 (ok_wirelessref23_Same F x_25.Payload x_24.Payload _ e_x_27) [.g 9, .g 7] [vs 9, vs 7] (vb x_27) (by kernel_rfl) (.inl rfl)) (by kernel_rfl) rfl (by kernel_rfl) ?_
                     refine SD.takes tk D_8 [(28, false)] (knS rfl hg_9 kn0) [23, 24] [] [] [true, true, true, true, true, true, true, true, true, true, true, true, true, true, true, true, true, true, true, true, true, true, true, true, true] [(0, vs 0), (1, vs 1), (5, vi .i64 x_3), (29, vs 0), (30, vi .i64 x_3), (31, vp 8 0), (32, vp 8 1), (33, vs 9), (34, vs 1), (35, vi .i64 x_3), (36, vp 6 0), (37, vp 6 1), (38, vs 7), (39, vb x_27), (40, vb (!x_27)), (41, vb (!x_27))] rfl (by kernel_rfl) (by kernel_rfl) (by kernel_rfl) ?_
                     refine SD.done (by kernel_rfl) fun a w h => ?_
                     exact ⟨(!x_27), hp, h.at (js := [.g 0, .g 1]) (by kernel_rfl)⟩
                   · refine SW.eff D_8 (i := 21) (v := vs 7) (bs' := [true, true, true, true, true, true, true, true, true, true, true, true, true, true, true, true, false, true, true, true, true, true, false, false, false]) rfl (.inr ⟨_, _, _, _, rfl, rfl, rfl, hg_9⟩) rfl (e_val tk (by kernel_rfl)) (by kernel_rfl) rfl (by kernel_rfl) ?_
                     refine SD.all1 (i := 16) (by kernel_rfl) ?_
                     refine SW.eff D_8 (i := 16) (v := vs 9) (bs' := [true, true, true, true, true, true, true, true, true, true, true, true, true, true, true, true, true, true, true, true, true, true, false, false, false]) rfl (.inr ⟨_, _, _, _, rfl, rfl, rfl, hg_9⟩) rfl (e_val tk (by kernel_rfl)) (by kernel_rfl) rfl (by kernel_rfl) ?_
                     refine SD.norm (itsN := [.rd 2 R_T_api_Frame a_1, .rd 2 R_T_api_Frame b_2, .elt (some (0, x_3)) false [ci .u16 x_5.CID, .s 3], .rd 1 R8 x_5.Payload, .elt (some (1, x_3)) false [ci .u16 x_6.CID, .s 5], .rd 1 R8 x_6.Payload, .elt (some (1, x_3)) false [ci .u16 x_24.CID, .s 7], .rd 1 R8 x_24.Payload, .elt (some (0, x_3)) false [ci .u16 x_25.CID, .s 9], .rd 1 R8 x_25.Payload]) (by kernel_rfl) ?_
                     obtain ⟨x_28, e_x_28, hp⟩ := bind_inv hp
                     refine SD.all1 (i := 22) (by kernel_rfl) ?_
                     refine SW.eff D_8 (i := 22) (bs' := [true, true, true, true, true, true, true, true, true, true, true, true, true, true, true, true, true, true, true, true, true, true, true, false, false]) rfl (.inr ⟨_, _, _, _, rfl, rfl, rfl, hg_9⟩) rfl (e_c Try.call13 (ok_wirelessref23_Same F x_25.Payload x_24.Payload _ e_x_28) [.g 9, .g 7] [vs 9, vs 7] (vb x_28) (by kernel_rfl) (.inl rfl)) (by kernel_rfl) rfl (by kernel_rfl) ?_
                     refine SD.takes tk D_8 [(28, false)] (knS rfl hg_9 kn0) [23, 24] [] [] [true, true, true, true, true, true, true, true, true, true, true, true, true, true, true, true, true, true, true, true, true, true, true, true, true] [(0, vs 0), (1, vs 1), (5, vi .i64 x_3), (29, vs 0), (30, vi .i64 x_3), (31, vp 8 0), (32, vp 8 1), (33, vs 9), (34, vs 1), (35, vi .i64 x_3), (36, vp 6 0), (37, vp 6 1), (38, vs 7), (39, vb x_28), (40, vb (!x_28)), (41, vb (!x_28))] rfl (by kernel_rfl) (by kernel_rfl) (by kernel_rfl) ?_
                     refine SD.done (by kernel_rfl) fun a w h => ?_
                     exact ⟨(!x_28), hp, h.at (js := [.g 0, .g 1]) (by kernel_rfl)⟩
               · refine SW.eff D_8 (i := 20) (v := vp 6 1) (bs' := [true, true, true, true, true, true, true, true, true, true, true, true, true, true, true, false, false, true, true, true, true, false, false, false, false]) rfl (.inr ⟨_, _, _, _, rfl, rfl, rfl, hg_9⟩) rfl (e_val tk (by kernel_rfl)) (by kernel_rfl) rfl (by kernel_rfl) ?_
                 refine SD.all2 (i := 15) (j := 21) (by kernel_rfl) ?_ ?_
                 · refine SW.eff D_8 (i := 15) (v := vp 8 1) (bs' := [true, true, true, true, true, true, true, true, true, true, true, true, true, true, true, true, false, true, true, true, true, false, false, false, false]) rfl (.inr ⟨_, _, _, _, rfl, rfl, rfl, hg_9⟩) rfl (e_val tk (by kernel_rfl)) (by kernel_rfl) rfl (by kernel_rfl) ?_
                   refine SD.norm (itsN := [.rd 2 R_T_api_Frame a_1, .rd 2 R_T_api_Frame b_2, .elt (some (0, x_3)) false [ci .u16 x_5.CID, .s 3], .rd 1 R8 x_5.Payload, .elt (some (1, x_3)) false [ci .u16 x_6.CID, .s 5], .rd 1 R8 x_6.Payload, .elt (some (1, x_3)) false [ci .u16 x_24.CID, .s 7], .rd 1 R8 x_24.Payload, .elt (some (0, x_3)) false [ci .u16 x_25.CID, .s 9], .rd 1 R8 x_25.Payload]) (by kernel_rfl) ?_
                   refine SD.all2 (i := 16) (j := 21) (by kernel_rfl) ?_ ?_
                   · refine SW.eff D_8 (i := 16) (v := vs 9) (bs' := [true, true, true, true, true, true, true, true, true, true, true, true, true, true, true, true, true, true, true, true, true, false, false, false, false]) rfl (.inr ⟨_, _, _, _, rfl, rfl, rfl, hg_9⟩) rfl (e_val tk (by kernel_rfl)) (by kernel_rfl) rfl (by kernel_rfl) ?_
                     refine SD.all1 (i := 21) (by kernel_rfl) ?_
                     refine SW.eff D_8 (i := 21) (v := vs 7) (bs' := [true, true, true, true, true, true, true, true, true, true, true, true, true, true, true, true, true, true, true, true, true, true, false, false, false]) rfl (.inr ⟨_, _, _, _, rfl, rfl, rfl, hg_9⟩) rfl (e_val tk (by kernel_rfl)) (by kernel_rfl) rfl (by kernel_rfl) ?_
                     refine SD.norm (itsN := [.rd 2 R_T_api_Frame a_1, .rd 2 R_T_api_Frame b_2, .elt (some (0, x_3)) false [ci .u16 x_5.CID, .s 3], .rd 1 R8 x_5.Payload, .elt (some (1, x_3)) false [ci .u16 x_6.CID, .s 5], .rd 1 R8 x_6.Payload, .elt (some (1, x_3)) false [ci .u16 x_24.CID, .s 7], .rd 1 R8 x_24.Payload, .elt (some (0, x_3)) false [ci .u16 x_25.CID, .s 9], .rd 1 R8 x_25.Payload]) (by kernel_rfl) ?_
                     obtain ⟨x_29, e_x_29, hp⟩ := bind_inv hp
                     refine SD.all1 (i := 22) (by kernel_rfl) ?_
                     refine SW.eff D_8 (i := 22) (bs' := [true, true, true, true, true, true, true, true, true, true, true, true, true, true, true, true, true, true, true, true, true, true, true, false, false]) rfl (.inr ⟨_, _, _, _, rfl, rfl, rfl, hg_9⟩) rfl (e_c Try.call13 (ok_wirelessref23_Same F x_25.Payload x_24.Payload _ e_x_29) [.g 9, .g 7] [vs 9, vs 7] (vb x_29) (by kernel_rfl) (.inl rfl)) (by kernel_rfl) rfl (by kernel_rfl) ?_
                     refine SD.takes tk D_8 [(28, false)] (knS rfl hg_9 kn0) [23, 24] [] [] [true, true, true, true, true, true, true, true, true, true, true, true, true, true, true, true, true, true, true, true, true, true, true, true, true] [(0, vs 0), (1, vs 1), (5, vi .i64 x_3), (29, vs 0), (30, vi .i64 x_3), (31, vp 8 0), (32, vp 8 1), (33, vs 9), (34, vs 1), (35, vi .i64 x_3), (36, vp 6 0), (37, vp 6 1), (38, vs 7), (39, vb x_29), (40, vb (!x_29)), (41, vb (!x_29))] rfl (by kernel_rfl) (by kernel_rfl) (by kernel_rfl) ?_
                     refine SD.done (by kernel_rfl) fun a w h => ?_
                     exact ⟨(!x_29), hp, h.at (js := [.g 0, .g 1]) (by kernel_rfl)⟩
                   · refine SW.eff D_8 (i := 21) (v := vs 7) (bs' := [true, true, true, true, true, true, true, true, true, true, true, true, true, true, true, true, false, true, true, true, true, true, false, false, false]) rfl (.inr ⟨_, _, _, _, rfl, rfl, rfl, hg_9⟩) rfl (e_val tk (by kernel_rfl)) (by kernel_rfl) rfl (by kernel_rfl) ?_
                     refine SD.all1 (i := 16) (by kernel_rfl) ?_
                     refine SW.eff D_8 (i := 16) (v := vs 9) (bs' := [true, true, true, true, true, true, true, true, true, true, true, true, true, true, true, true, true, true, true, true, true, true, false, false, false]) rfl (.inr ⟨_, _, _, _, rfl, rfl, rfl, hg_9⟩) rfl (e_val tk (by kernel_rfl)) (by kernel_rfl) rfl (by kernel_rfl) ?_
                     refine SD.norm (itsN := [.rd 2 R_T_api_Frame a_1, .rd 2 R_T_api_Frame b_2, .elt (some (0, x_3)) false [ci .u16 x_5.CID, .s 3], .rd 1 R8 x_5.Payload, .elt (some (1, x_3)) false [ci .u16 x_6.CID, .s 5], .rd 1 R8 x_6.Payload, .elt (some (1, x_3)) false [ci .u16 x_24.CID, .s 7], .rd 1 R8 x_24.Payload, .elt (some (0, x_3)) false [ci .u16 x_25.CID, .s 9], .rd 1 R8 x_25.Payload]) (by kernel_rfl) ?_
                     obtain ⟨x_30, e_x_30, hp⟩ := bind_inv hp
                     refine SD.all1 (i := 22) (by kernel_rfl) ?_
                     refine SW.eff D_8 (i := 22) (bs' := [true, true, true, true, true, true, true, true, true, true, true, true, true, true, true, true, true, true, true, true, true, true, true, false, false]) rfl (.inr ⟨_, _, _, _, rfl, rfl, rfl, hg_9⟩) rfl (e_c Try.call13 (ok_wirelessref23_Same F x_25.Payload x_24.Payload _ e_x_30) [.g 9, .g 7] [vs 9, vs 7] (vb x_30) (by kernel_rfl) (.inl rfl)) (by kernel_rfl) rfl (by kernel_rfl) ?_
                     refine SD.takes tk D_8 [(28, false)] (knS rfl hg_9 kn0) [23, 24] [] [] [true, true, true, true, true, true, true, true, true, true, true, true, true, true, true, true, true, true, true, true, true, true, true, true, true] [(0, vs 0), (1, vs 1), (5, vi .i64 x_3), (29, vs 0), (30, vi .i64 x_3), (31, vp 8 0), (32, vp 8 1), (33, vs 9), (34, vs 1), (35, vi .i64 x_3), (36, vp 6 0), (37, vp 6 1), (38, vs 7), (39, vb x_30), (40, vb (!x_30)), (41, vb (!x_30))] rfl (by kernel_rfl) (by kernel_rfl) (by kernel_rfl) ?_
                     refine SD.done (by kernel_rfl) fun a w h => ?_
                     exact ⟨(!x_30), hp, h.at (js := [.g 0, .g 1]) (by kernel_rfl)⟩
                 · refine SW.eff D_8 (i := 21) (v := vs 7) (bs' := [true, true, true, true, true, true, true, true, true, true, true, true, true, true, true, false, false, true, true, true, true, true, false, false, false]) rfl (.inr ⟨_, _, _, _, rfl, rfl, rfl, hg_9⟩) rfl (e_val tk (by kernel_rfl)) (by kernel_rfl) rfl (by kernel_rfl) ?_
                   refine SD.norm (itsN := [.rd 2 R_T_api_Frame a_1, .rd 2 R_T_api_Frame b_2, .elt (some (0, x_3)) false [ci .u16 x_5.CID, .s 3], .rd 1 R8 x_5.Payload, .elt (some (1, x_3)) false [ci .u16 x_6.CID, .s 5], .rd 1 R8 x_6.Payload, .elt (some (1, x_3)) false [ci .u16 x_24.CID, .s 7], .rd 1 R8 x_24.Payload, .elt (some (0, x_3)) false [ci .u16 x_25.CID, .s 9], .rd 1 R8 x_25.Payload]) (by kernel_rfl) ?_
                   refine SD.all1 (i := 15) (by kernel_rfl) ?_
                   refine SW.eff D_8 (i := 15) (v := vp 8 1) (bs' := [true, true, true, true, true, true, true, true, true, true, true, true, true, true, true, true, false, true, true, true, true, true, false, false, false]) rfl (.inr ⟨_, _, _, _, rfl, rfl, rfl, hg_9⟩) rfl (e_val tk (by kernel_rfl)) (by kernel_rfl) rfl (by kernel_rfl) ?_
                   refine SD.all1 (i := 16) (by kernel_rfl) ?_
                   refine SW.eff D_8 (i := 16) (v := vs 9) (bs' := [true, true, true, true, true, true, true, true, true, true, true, true, true, true, true, true, true, true, true, true, true, true, false, false, false]) rfl (.inr ⟨_, _, _, _, rfl, rfl, rfl, hg_9⟩) rfl (e_val tk (by kernel_rfl)) (by kernel_rfl) rfl (by kernel_rfl) ?_
                   refine SD.norm (itsN := [.rd 2 R_T_api_Frame a_1, .rd 2 R_T_api_Frame b_2, .elt (some (0, x_3)) false [ci .u16 x_5.CID, .s 3], .rd 1 R8 x_5.Payload, .elt (some (1, x_3)) false [ci .u16 x_6.CID, .s 5], .rd 1 R8 x_6.Payload, .elt (some (1, x_3)) false [ci .u16 x_24.CID, .s 7], .rd 1 R8 x_24.Payload, .elt (some (0, x_3)) false [ci .u16 x_25.CID, .s 9], .rd 1 R8 x_25.Payload]) (by kernel_rfl) ?_
                   obtain ⟨x_31, e_x_31, hp⟩ := bind_inv hp
                   refine SD.all1 (i := 22) (by kernel_rfl) ?_
                   refine SW.eff D_8 (i := 22) (bs' := [true, true, true, true, true, true, true, true, true, true, true, true, true, true, true, true, true, true, true, true, true, true, true, false, false]) rfl (.inr ⟨_, _, _, _, rfl, rfl, rfl, hg_9⟩) rfl (e_c Try.call13 (ok_wirelessref23_Same F x_25.Payload x_24.Payload _ e_x_31) [.g 9, .g 7] [vs 9, vs 7] (vb x_31) (by kernel_rfl) (.inl rfl)) (by kernel_rfl) rfl (by kernel_rfl) ?_
                   refine SD.takes tk D_8 [(28, false)] (knS rfl hg_9 kn0) [23, 24] [] [] [true, true, true, true, true, true, true, true, true, true, true, true, true, true, true, true, true, true, true, true, true, true, true, true, true] [(0, vs 0), (1, vs 1), (5, vi .i64 x_3), (29, vs 0), (30, vi .i64 x_3), (31, vp 8 0), (32, vp 8 1), (33, vs 9), (34, vs 1), (35, vi .i64 x_3), (36, vp 6 0), (37, vp 6 1), (38, vs 7), (39, vb x_31), (40, vb (!x_31)), (41, vb (!x_31))] rfl (by kernel_rfl) (by kernel_rfl) (by kernel_rfl) ?_
                   refine SD.done (by kernel_rfl) fun a w h => ?_
                   exact ⟨(!x_31), hp, h.at (js := [.g 0, .g 1]) (by kernel_rfl)⟩
             · refine SW.eff D_8 (i := 20) (v := vp 6 1) (bs' := [true, true, true, true, true, true, true, true, true, true, true, true, true, true, false, false, false, true, true, true, true, false, false, false, false]) rfl (.inr ⟨_, _, _, _, rfl, rfl, rfl, hg_9⟩) rfl (e_val tk (by kernel_rfl)) (by kernel_rfl) rfl (by kernel_rfl) ?_
               refine SD.norm (itsN := [.rd 2 R_T_api_Frame a_1, .rd 2 R_T_api_Frame b_2, .elt (some (0, x_3)) false [ci .u16 x_5.CID, .s 3], .rd 1 R8 x_5.Payload, .elt (some (1, x_3)) false [ci .u16 x_6.CID, .s 5], .rd 1 R8 x_6.Payload, .elt (some (1, x_3)) false [ci .u16 x_24.CID, .s 7], .rd 1 R8 x_24.Payload]) (by kernel_rfl) ?_
               refine SD.all2 (i := 14) (j := 21) (by kernel_rfl) ?_ ?_
               · obtain ⟨x_32, e_x_32, hp⟩ := bind_inv hp
                 refine SW.pre (pre_ix (i := 0) (iv := x_3) (sz := 2) (R := R_T_api_Frame) (l := a_1) (by kernel_rfl) rfl e_x_32) ?_
                 refine SW.eff D_8 (i := 14) (v := vp 8 0) (bs' := [true, true, true, true, true, true, true, true, true, true, true, true, true, true, true, false, false, true, true, true, true, false, false, false, false]) rfl (.inr ⟨_, _, _, _, rfl, rfl, rfl, hg_9⟩) rfl (e_valE tk (.el 8) [x_3] (by kernel_rfl)) (by kernel_rfl) rfl (by kernel_rfl) ?_
                 refine SD.all2 (i := 15) (j := 21) (by kernel_rfl) ?_ ?_
                 · refine SW.eff D_8 (i := 15) (v := vp 8 1) (bs' := [true, true, true, true, true, true, true, true, true, true, true, true, true, true, true, true, false, true, true, true, true, false, false, false, false]) rfl (.inr ⟨_, _, _, _, rfl, rfl, rfl, hg_9⟩) rfl (e_val tk (by kernel_rfl)) (by kernel_rfl) rfl (by kernel_rfl) ?_
                   refine SD.norm (itsN := [.rd 2 R_T_api_Frame a_1, .rd 2 R_T_api_Frame b_2, .elt (some (0, x_3)) false [ci .u16 x_5.CID, .s 3], .rd 1 R8 x_5.Payload, .elt (some (1, x_3)) false [ci .u16 x_6.CID, .s 5], .rd 1 R8 x_6.Payload, .elt (some (1, x_3)) false [ci .u16 x_24.CID, .s 7], .rd 1 R8 x_24.Payload, .elt (some (0, x_3)) false [ci .u16 x_32.CID, .s 9], .rd 1 R8 x_32.Payload]) (by kernel_rfl) ?_
                   refine SD.all2 (i := 16) (j := 21) (by kernel_rfl) ?_ ?_
                   · refine SW.eff D_8 (i := 16) (v := vs 9) (bs' := [true, true, true, true, true, true, true, true, true, true, true, true, true, true, true, true, true, true, true, true, true, false, false, false, false]) rfl (.inr ⟨_, _, _, _, rfl, rfl, rfl, hg_9⟩) rfl (e_val tk (by kernel_rfl)) (by kernel_rfl) rfl (by kernel_rfl) ?_
                     refine SD.all1 (i := 21) (by kernel_rfl) ?_
                     refine SW.eff D_8 (i := 21) (v := vs 7) (bs' := [true, true, true, true, true, true, true, true, true, true, true, true, true, true, true, true, true, true, true, true, true, true, false, false, false]) rfl (.inr ⟨_, _, _, _, rfl, rfl, rfl, hg_9⟩) rfl (e_val tk (by kernel_rfl)) (by kernel_rfl) rfl (by kernel_rfl) ?_
                     refine SD.norm (itsN := [.rd 2 R_T_api_Frame a_1, .rd 2 R_T_api_Frame b_2, .elt (some (0, x_3)) false [ci .u16 x_5.CID, .s 3], .rd 1 R8 x_5.Payload, .elt (some (1, x_3)) false [ci .u16 x_6.CID, .s 5], .rd 1 R8 x_6.Payload, .elt (some (1, x_3)) false [ci .u16 x_24.CID, .s 7], .rd 1 R8 x_24.Payload, .elt (some (0, x_3)) false [ci .u16 x_32.CID, .s 9], .rd 1 R8 x_32.Payload]) (by kernel_rfl) ?_
                     obtain ⟨x_33, e_x_33, hp⟩ := bind_inv hp
                     refine SD.all1 (i := 22) (by kernel_rfl) ?_
                     refine SW.eff D_8 (i := 22) (bs' := [true, true, true, true, true, true, true, true, true, true, true, true, true, true, true, true, true, true, true, true, true, true, true, false, false]) rfl (.inr ⟨_, _, _, _, rfl, rfl, rfl, hg_9⟩) rfl (e_c Try.call13 (ok_wirelessref23_Same F x_32.Payload x_24.Payload _ e_x_33) [.g 9, .g 7] [vs 9, vs 7] (vb x_33) (by kernel_rfl) (.inl rfl)) (by kernel_rfl) rfl (by kernel_rfl) ?_
                     refine SD.takes tk D_8 [(28, false)] (knS rfl hg_9 kn0) [23, 24] [] [] [true, true, true, true, true, true, true, true, true, true, true, true, true, true, true, true, true, true, true, true, true, true, true, true, true] [(0, vs 0), (1, vs 1), (5, vi .i64 x_3), (29, vs 0), (30, vi .i64 x_3), (31, vp 8 0), (32, vp 8 1), (33, vs 9), (34, vs 1), (35, vi .i64 x_3), (36, vp 6 0), (37, vp 6 1), (38, vs 7), (39, vb x_33), (40, vb (!x_33)), (41, vb (!x_33))] rfl (by kernel_rfl) (by kernel_rfl) (by kernel_rfl) ?_
                     refine SD.done (by kernel_rfl) fun a w h => ?_
                     exact ⟨(!x_33), hp, h.at (js := [.g 0, .g 1]) (by kernel_rfl)⟩
                   · refine SW.eff D_8 (i := 21) (v := vs 7) (bs' := [true, true, true, true, true, true, true, true, true, true, true, true, true, true, true, true, false, true, true, true, true, true, false, false, false]) rfl (.inr ⟨_, _, _, _, rfl, rfl, rfl, hg_9⟩) rfl (e_val tk (by kernel_rfl)) (by kernel_rfl) rfl (by kernel_rfl) ?_
                     refine SD.all1 (i := 16) (by kernel_rfl) ?_
                     refine SW.eff D_8 (i := 16) (v := vs 9) (bs' := [true, true, true, true, true, true, true, true, true, true, true, true, true, true, true, true, true, true, true, true, true, true, false, false, false]) rfl (.inr ⟨_, _, _, _, rfl, rfl, rfl, hg_9⟩) rfl (e_val tk (by kernel_rfl)) (by kernel_rfl) rfl (by kernel_rfl) ?_
                     refine SD.norm (itsN := [.rd 2 R_T_api_Frame a_1, .rd 2 R_T_api_Frame b_2, .elt (some (0, x_3)) false [ci .u16 x_5.CID, .s 3], .rd 1 R8 x_5.Payload, .elt (some (1, x_3)) false [ci .u16 x_6.CID, .s 5], .rd 1 R8 x_6.Payload, .elt (some (1, x_3)) false [ci .u16 x_24.CID, .s 7], .rd 1 R8 x_24.Payload, .elt (some (0, x_3)) false [ci .u16 x_32.CID, .s 9], .rd 1 R8 x_32.Payload]) (by kernel_rfl) ?_
                     obtain ⟨x_34, e_x_34, hp⟩ := bind_inv hp
                     refine SD.all1 (i := 22) (by kernel_rfl) ?_
                     refine SW.eff D_8 (i := 22) (bs' := [true, true, true, true, true, true, true, true, true, true, true, true, true, true, true, true, true, true, true, true, true, true, true, false, false]) rfl (.inr ⟨_, _, _, _, rfl, rfl, rfl, hg_9⟩) rfl (e_c Try.call13 (ok_wirelessref23_Same F x_32.Payload x_24.Payload _ e_x_34) [.g 9, .g 7] [vs 9, vs 7] (vb x_34) (by kernel_rfl) (.inl rfl)) (by kernel_rfl) rfl (by kernel_rfl) ?_
                     refine SD.takes tk D_8 [(28, false)] (knS rfl hg_9 kn0) [23, 24] [] [] [true, true, true, true, true, true, true, true, true, true, true, true, true, true, true, true, true, true, true, true, true, true, true, true, true] [(0, vs 0), (1, vs 1), (5, vi .i64 x_3), (29, vs 0), (30, vi .i64 x_3), (31, vp 8 0), (32, vp 8 1), (33, vs 9), (34, vs 1), (35, vi .i64 x_3), (36, vp 6 0), (37, vp 6 1), (38, vs 7), (39, vb x_34), (40, vb (!x_34)), (41, vb (!x_34))] rfl (by kernel_rfl) (by kernel_rfl) (by kernel_rfl) ?_
                     refine SD.done (by kernel_rfl) fun a w h => ?_
                     exact ⟨(!x_34), hp, h.at (js := [.g 0, .g 1]) (by kernel_rfl)⟩
                 · refine SW.eff D_8 (i := 21) (v := vs 7) (bs' := [true, true, true, true, true, true, true, true, true, true, true, true, true, true, true, false, false, true, true, true, true, true, false, false, false]) rfl (.inr ⟨_, _, _, _, rfl, rfl, rfl, hg_9⟩) rfl (e_val tk (by kernel_rfl)) (by kernel_rfl) rfl (by kernel_rfl) ?_
                   refine SD.norm (itsN := [.rd 2 R_T_api_Frame a_1, .rd 2 R_T_api_Frame b_2, .elt (some (0, x_3)) false [ci .u16 x_5.CID, .s 3], .rd 1 R8 x_5.Payload, .elt (some (1, x_3)) false [ci .u16 x_6.CID, .s 5], .rd 1 R8 x_6.Payload, .elt (some (1, x_3)) false [ci .u16 x_24.CID, .s 7], .rd 1 R8 x_24.Payload, .elt (some (0, x_3)) false [ci .u16 x_32.CID, .s 9], .rd 1 R8 x_32.Payload]) (by kernel_rfl) ?_
                   refine SD.all1 (i := 15) (by kernel_rfl) ?_
                   refine SW.eff D_8 (i := 15) (v := vp 8 1) (bs' := [true, true, true, true, true, true, true, true, true, true, true, true, true, true, true, true, false, true, true, true, true, true, false, false, false]) rfl (.inr ⟨_, _, _, _, rfl, rfl, rfl, hg_9⟩) rfl (e_val tk (by kernel_rfl)) (by kernel_rfl) rfl (by kernel_rfl) ?_
                   refine SD.all1 (i := 16) (by kernel_rfl) ?_
                   refine SW.eff D_8 (i := 16) (v := vs 9) (bs' := [true, true, true, true, true, true, true, true, true, true, true, true, true, true, true, true, true, true, true, true, true, true, false, false, false]) rfl (.inr ⟨_, _, _, _, rfl, rfl, rfl, hg_9⟩) rfl (e_val tk (by kernel_rfl)) (by kernel_rfl) rfl (by kernel_rfl) ?_
                   refine SD.norm (itsN := [.rd 2 R_T_api_Frame a_1, .rd 2 R_T_api_Frame b_2, .elt (some (0, x_3)) false [ci .u16 x_5.CID, .s 3], .rd 1 R8 x_5.Payload, .elt (some (1, x_3)) false [ci .u16 x_6.CID, .s 5], .rd 1 R8 x_6.Payload, .elt (some (1, x_3)) false [ci .u16 x_24.CID, .s 7], .rd 1 R8 x_24.Payload, .elt (some (0, x_3)) false [ci .u16 x_32.CID, .s 9], .rd 1 R8 x_32.Payload]) (by kernel_rfl) ?_
                   obtain ⟨x_35, e_x_35, hp⟩ := bind_inv hp
                   refine SD.all1 (i := 22) (by kernel_rfl) ?_
                   refine SW.eff D_8 (i := 22) (bs' := [true, true, true, true, true, true, true, true, true, true, true, true, true, true, true, true, true, true, true, true, true, true, true, false, false]) rfl (.inr ⟨_, _, _, _, rfl, rfl, rfl, hg_9⟩) rfl (e_c Try.call13 (ok_wirelessref23_Same F x_32.Payload x_24.Payload _ e_x_35) [.g 9, .g 7] [vs 9, vs 7] (vb x_35) (by kernel_rfl) (.inl rfl)) (by kernel_rfl) rfl (by kernel_rfl) ?_
                   refine SD.takes tk D_8 [(28, false)] (knS rfl hg_9 kn0) [23, 24] [] [] [true, true, true, true, true, true, true, true, true, true, true, true, true, true, true, true, true, true, true, true, true, true, true, true, true] [(0, vs 0), (1, vs 1), (5, vi .i64 x_3), (29, vs 0), (30, vi .i64 x_3), (31, vp 8 0), (32, vp 8 1), (33, vs 9), (34, vs 1), (35, vi .i64 x_3), (36, vp 6 0), (37, vp 6 1), (38, vs 7), (39, vb x_35), (40, vb (!x_35)), (41, vb (!x_35))] rfl (by kernel_rfl) (by kernel_rfl) (by kernel_rfl) ?_
                   refine SD.done (by kernel_rfl) fun a w h => ?_
                   exact ⟨(!x_35), hp, h.at (js := [.g 0, .g 1]) (by kernel_rfl)⟩
               · refine SW.eff D_8 (i := 21) (v := vs 7) (bs' := [true, true, true, true, true, true, true, true, true, true, true, true, true, true, false, false, false, true, true, true, true, true, false, false, false]) rfl (.inr ⟨_, _, _, _, rfl, rfl, rfl, hg_9⟩) rfl (e_val tk (by kernel_rfl)) (by kernel_rfl) rfl (by kernel_rfl) ?_
                 obtain ⟨x_36, e_x_36, hp⟩ := bind_inv hp
                 refine SD.pre (pre_ix (i := 0) (iv := x_3) (sz := 2) (R := R_T_api_Frame) (l := a_1) (by kernel_rfl) rfl e_x_36) ?_
                 refine SD.all1 (i := 14) (by kernel_rfl) ?_
                 refine SW.eff D_8 (i := 14) (v := vp 8 0) (bs' := [true, true, true, true, true, true, true, true, true, true, true, true, true, true, true, false, false, true, true, true, true, true, false, false, false]) rfl (.inr ⟨_, _, _, _, rfl, rfl, rfl, hg_9⟩) rfl (e_valE tk (.el 8) [x_3] (by kernel_rfl)) (by kernel_rfl) rfl (by kernel_rfl) ?_
                 refine SD.norm (itsN := [.rd 2 R_T_api_Frame a_1, .rd 2 R_T_api_Frame b_2, .elt (some (0, x_3)) false [ci .u16 x_5.CID, .s 3], .rd 1 R8 x_5.Payload, .elt (some (1, x_3)) false [ci .u16 x_6.CID, .s 5], .rd 1 R8 x_6.Payload, .elt (some (1, x_3)) false [ci .u16 x_24.CID, .s 7], .rd 1 R8 x_24.Payload, .elt (some (0, x_3)) false [ci .u16 x_36.CID, .s 9], .rd 1 R8 x_36.Payload]) (by kernel_rfl) ?_
                 refine SD.all1 (i := 15) (by kernel_rfl) ?_
                 refine SW.eff D_8 (i := 15) (v := vp 8 1) (bs' := [true, true, true, true, true, true, true, true, true, true, true, true, true, true, true, true, false, true, true, true, true, true, false, false, false]) rfl (.inr ⟨_, _, _, _, rfl, rfl, rfl, hg_9⟩) rfl (e_val tk (by kernel_rfl)) (by kernel_rfl) rfl (by kernel_rfl) ?_
                 refine SD.all1 (i := 16) (by kernel_rfl) ?_
                 refine SW.eff D_8 (i := 16) (v := vs 9) (bs' := [true, true, true, true, true, true, true, true, true, true, true, true, true, true, true, true, true, true, true, true, true, true, false, false, false]) rfl (.inr ⟨_, _, _, _, rfl, rfl, rfl, hg_9⟩) rfl (e_val tk (by kernel_rfl)) (by kernel_rfl) rfl (by kernel_rfl) ?_
                 refine SD.norm (itsN := [.rd 2 R_T_api_Frame a_1, .rd 2 R_T_api_Frame b_2, .elt (some (0, x_3)) false [ci .u16 x_5.CID, .s 3], .rd 1 R8 x_5.Payload, .elt (some (1, x_3)) false [ci .u16 x_6.CID, .s 5], .rd 1 R8 x_6.Payload, .elt (some (1, x_3)) false [ci .u16 x_24.CID, .s 7], .rd 1 R8 x_24.Payload, .elt (some (0, x_3)) false [ci .u16 x_36.CID, .s 9], .rd 1 R8 x_36.Payload]) (by kernel_rfl) ?_
                 obtain ⟨x_37, e_x_37, hp⟩ := bind_inv hp
                 refine SD.all1 (i := 22) (by kernel_rfl) ?_
                 refine SW.eff D_8 (i := 22) (bs' := [true, true, true, true, true, true, true, true, true, true, true, true, true, true, true, true, true, true, true, true, true, true, true, false, false]) rfl (.inr ⟨_, _, _, _, rfl, rfl, rfl, hg_9⟩) rfl (e_c Try.call13 (ok_wirelessref23_Same F x_36.Payload x_24.Payload _ e_x_37) [.g 9, .g 7] [vs 9, vs 7] (vb x_37) (by kernel_rfl) (.inl rfl)) (by kernel_rfl) rfl (by kernel_rfl) ?_
                 refine SD.takes tk D_8 [(28, false)] (knS rfl hg_9 kn0) [23, 24] [] [] [true, true, true, true, true, true, true, true, true, true, true, true, true, true, true, true, true, true, true, true, true, true, true, true, true] [(0, vs 0), (1, vs 1), (5, vi .i64 x_3), (29, vs 0), (30, vi .i64 x_3), (31, vp 8 0), (32, vp 8 1), (33, vs 9), (34, vs 1), (35, vi .i64 x_3), (36, vp 6 0), (37, vp 6 1), (38, vs 7), (39, vb x_37), (40, vb (!x_37)), (41, vb (!x_37))] rfl (by kernel_rfl) (by kernel_rfl) (by kernel_rfl) ?_
                 refine SD.done (by kernel_rfl) fun a w h => ?_
                 exact ⟨(!x_37), hp, h.at (js := [.g 0, .g 1]) (by kernel_rfl)⟩
       · rintro a w ⟨z_4, hp, h⟩
         refine h.go ?_
         refine SC.if' rfl hp (fun hp => ?_) (fun hp => ?_)
         · refine SC.r tk [(4, vb false)] [] [] [] (by kernel_rfl) ?_
           have ho := done_inv hp hs1
           replace hp := ho1
           try rw [ho] at hp
           obtain rfl := some_inv' hp
           exact SC.re (js := [.g 0, .g 1]) tk (by kernel_rfl)
         · refine SC.skipThen ?_
           refine SC.reg ?_
           refine SL.sim tk 3 [(0, vs 0), (1, vs 1), (5, vi .i64 (w64 (x_3 + 1)))] [] [] [] (by kernel_rfl) ?_
           refine SL.nilJ fun a w h => ?_
           exact ⟨n1, Nat.lt_succ_self _, w64 (x_3 + 1), next_inv hp hs1, h.at (js := [.g 0, .g 1]) (by kernel_rfl)⟩
     · refine SC.exitJ rfl fun a w h => ?_
       have ho := done_inv hp hs1
       replace hp := ho1
       try rw [ho] at hp
       exact ⟨hp, h.at (js := [.g 0, .g 1]) (by kernel_rfl)⟩
   · rintro a w ⟨hp, h⟩
     refine h.go ?_
     refine SC.r tk [(4, vb true)] [] [] [] (by kernel_rfl) ?_
     obtain rfl := some_inv' hp
     exact SC.re (js := [.g 0, .g 1]) tk (by kernel_rfl)
end V
end Go.Proofs.Ytpcckohcoajenaa
