/-
  Walks, written by program: each Go function returns what its pure twin says.
-/
import Derived.Test.YtchlimkophmjlaaRep
namespace Go.Proofs.Ytchlimkophmjlaa
namespace V
theorem ok_wirelesslaw43_light (F : Nat) (db_1 : (List T_api_Attribute)) (r : Bool) (hp : wirelesslaw43_light F db_1 = some r) : Spec Try.prog 10 [vs 0] [.rd 5 R_T_api_Attribute db_1] (vb r) [.gone] := by
 refine Spec.enter Try.func10 rfl Try.ntmps10 rfl rfl fun fx => ?_
 refine SC.r tk [(0, vs 0)] [] [] [] (by kernel_rfl) ?_
 refine SC.r tk [(0, vs 0), (3, vi .i64 0)] [] [] [] (by kernel_rfl) ?_
 refine SC.cut (fun a w => ∃ (x_2 : Int), wirelesslaw43_light_j1 F db_1 x_2 = some r ∧ A 37 1 fx [(0, vs 0), (3, vi .i64 x_2)] [.rd 5 R_T_api_Attribute db_1] a w) ?_ ?_
 · refine SC.r tk [(0, vs 0), (3, vi .i64 0), (4, vi .i64 0)] [] [] [] (by kernel_rfl) ?_
   refine SC.block ?_
   obtain ⟨o1, hi1, ho1⟩ := bind_inv hp
   clear hp
   refine SC.loop (fun n a w => ∃ (x_3 : Int) (x_4 : Int), iter (fun s => wirelesslaw43_light_l1 F db_1 s.1 s.2) n (x_3, x_4) = some o1 ∧ A 37 1 fx [(0, vs 0), (3, vi .i64 x_3), (4, vi .i64 x_4)] [.rd 5 R_T_api_Attribute db_1] a w) F (fun a w h => ⟨0, 0, hi1, h.at (js := [.g 0]) (by kernel_rfl)⟩) ?_
   rintro n1 a w ⟨x_3, x_4, hi1, h⟩
   obtain ⟨n1, q1, rfl, hp, hs1⟩ := iter_inv hi1
   replace hp : wirelesslaw43_light_l1 F db_1 x_3 x_4 = some q1 := hp
   clear hi1
   refine h.go ?_
   refine SC.seq ?_
   refine SC.r tk [(0, vs 0), (3, vi .i64 x_3), (4, vi .i64 x_4), (12, vb ((decide (x_4 < (len db_1))) && (decide (x_4 < 1100))))] [] [] [] (by kernel_rfl) ?_
   refine SC.if' rfl hp (fun hp => ?_) (fun hp => ?_)
   · refine SC.skipThen ?_
     refine SC.seq ?_
     refine SC.block ?_
     refine SC.seq ?_
     obtain ⟨x_5, e_x_5, hp⟩ := bind_inv hp
     refine SC.pre (pre_ix (i := 0) (iv := x_4) (sz := 5) (R := R_T_api_Attribute) (l := db_1) (by kernel_rfl) rfl e_x_5) ?_
     refine SC.r tk [(0, vs 0), (3, vi .i64 x_3), (4, vi .i64 x_4), (21, vb (decide ((len x_5.Value) > 8192)))] [] [.el 1] [x_4] (by kernel_rfl) ?_
     refine SC.if' rfl hp (fun hp => ?_) (fun hp => ?_)
     · refine SC.r tk [(2, vb false)] [] [] [] (by kernel_rfl) ?_
       have ho := done_inv hp hs1
       replace hp := ho1
       try rw [ho] at hp
       obtain rfl := some_inv' hp
       exact SC.re (js := [.g 0]) tk (by kernel_rfl)
     · refine SC.skipThen ?_
       refine SC.reg ?_
       obtain ⟨x_6, e_x_6, hp⟩ := bind_inv hp
       refine SL.pre (pre_ix (i := 0) (iv := x_4) (sz := 5) (R := R_T_api_Attribute) (l := db_1) (by kernel_rfl) rfl e_x_6) ?_
       refine SL.sim tk 9 [(0, vs 0), (3, vi .i64 (w64 (x_3 + (len x_6.Value)))), (4, vi .i64 x_4)] [] [.el 3] [x_4] (by kernel_rfl) ?_
       refine SL.nilThen ?_
       refine SC.reg ?_
       refine SL.sim tk 3 [(0, vs 0), (3, vi .i64 (w64 (x_3 + (len x_6.Value)))), (4, vi .i64 (w64 (x_4 + 1)))] [] [] [] (by kernel_rfl) ?_
       refine SL.nilJ fun a w h => ?_
       exact ⟨n1, Nat.lt_succ_self _, w64 (x_3 + (len x_6.Value)), w64 (x_4 + 1), next_inv hp hs1, h.at (js := [.g 0]) (by kernel_rfl)⟩
   · refine SC.exitJ rfl fun a w h => ?_
     have ho := done_inv hp hs1
     replace hp := ho1
     try rw [ho] at hp
     exact ⟨x_3, hp, h.at (js := [.g 0]) (by kernel_rfl)⟩
 · rintro a w ⟨x_2, hp, h⟩
   refine h.go ?_
   refine SC.r tk [(2, vb ((decide ((len db_1) ≤ 1100)) && (decide (x_2 ≤ 8192))))] [] [] [] (by kernel_rfl) ?_
   obtain rfl := some_inv' hp
   exact SC.re (js := [.g 0]) tk (by kernel_rfl)

theorem ok_wirelessref41_Short (F : Nat) (n_1 : Int) (r : T_api_UUID) (hp : wirelessref41_Short F n_1 = some r) : Spec Try.prog 34 [vi .u16 n_1] [] (.g [ci .u64 r.High, ci .u64 r.Low]) [] := by
 refine Spec.enter Try.func34 rfl Try.ntmps34 rfl rfl fun fx => ?_
 refine SC.seq ?_
 refine SC.reg ?_
 refine SL.eff (e_alloc (E := 36) tk [ci .u64 0, ci .u64 0] (by kernel_rfl)) rfl (by kernel_rfl) ?_
 refine SL.nilThen ?_
 refine SC.r tk [(2, vp 0 0)] [(0, 36, [ci .u64 (wu64 ((wu64 ((wu64 n_1) * 4294967296)) + 4096)), ci .u64 9223372588214596859])] [] [] (by kernel_rfl) ?_
 obtain rfl := some_inv' hp
 exact SC.re (js := []) tk (by kernel_rfl)

theorem ok_wirelessref43_Is (F : Nat) (t_1 : T_api_UUID) (n_2 : Int) (r : Bool) (hp : wirelessref43_Is F t_1 n_2 = some r) : Spec Try.prog 71 [.g (C_api_UUID t_1), vi .u16 n_2] [] (vb r) [] := by
 refine Spec.enter Try.func71 rfl Try.ntmps71 rfl rfl fun fx => ?_
 refine SC.seq ?_
 refine SC.reg ?_
 refine SL.eff (e_box (E := 36) (C_api_UUID t_1) (by kernel_rfl)) rfl (by kernel_rfl) ?_
 refine SL.sim tk 1 [(1, vi .u16 n_2), (2, vp 0 0)] [] [] [] (by kernel_rfl) ?_
 refine SL.nilThen ?_
 refine SC.cut (fun a w => ∃ (z_3 : Bool), wirelessref43_Is_j1 F z_3 = some r ∧ A 9 0 fx [(4, vb z_3)] [] a w) ?_ ?_
 · refine SC.draw MO [true] (by kernel_rfl) fun kap_4 D_5 => ?_
   refine SD.takes tk D_5 [] kn0 [0, 1] [] [] [true, true, false, false, false] [(5, .g (C_api_UUID t_1)), (6, vi .u16 n_2)] rfl (by kernel_rfl) (by kernel_rfl) (by kernel_rfl) ?_
   obtain ⟨x_6, e_x_6, hp⟩ := bind_inv hp
   refine SD.all1 (i := 2) (by kernel_rfl) ?_
   refine SW.eff D_5 (i := 2) (bs' := [true, true, true, false, false]) rfl (.inl rfl) rfl (e_c Try.call34 (ok_wirelessref41_Short F n_2 _ e_x_6) [] [vi .u16 n_2] (.g (C_api_UUID x_6)) (by kernel_rfl) (.inl rfl)) (by kernel_rfl) rfl (by kernel_rfl) ?_
   refine SD.all1 (i := 3) (by kernel_rfl) ?_
   refine SW.eff D_5 (i := 3) (bs' := [true, true, true, true, false]) rfl (.inl rfl) rfl (e_eqs tk (cs := (C_api_UUID t_1)) (ds := (C_api_UUID x_6)) [(t_1.High == x_6.High), (t_1.Low == x_6.Low)] ((t_1.High == x_6.High) && (t_1.Low == x_6.Low)) rfl rfl (by kernel_rfl) (by kernel_rfl) (by kernel_rfl) (.inl ⟨rfl, (by kernel_rfl)⟩)) (by kernel_rfl) rfl (by kernel_rfl) ?_
   refine SD.norm (itsN := [.blk 36 (C_api_UUID t_1)]) (by kernel_rfl) ?_
   refine SD.takes tk D_5 [] kn0 [4] [] [] [true, true, true, true, true] [(4, vb ((t_1.High == x_6.High) && (t_1.Low == x_6.Low)))] rfl (by kernel_rfl) (by kernel_rfl) (by kernel_rfl) ?_
   refine SD.done (by kernel_rfl) fun a w h => ?_
   exact ⟨((t_1.High == x_6.High) && (t_1.Low == x_6.Low)), hp, h.at (js := []) (by kernel_rfl)⟩
 · rintro a w ⟨z_3, hp, h⟩
   refine h.go ?_
   obtain rfl := some_inv' hp
   exact SC.re (js := []) tk (by kernel_rfl)

theorem ok_wirelessref43_IsService (F : Nat) (a_1 : T_api_Attribute) (r : Bool) (hp : wirelessref43_IsService F a_1 = some r) : Spec Try.prog 51 [.g (C_api_Attribute a_1 (.s 0))] [.rd 1 R8 a_1.Value] (vb r) [.gone] := by
 refine Spec.enter Try.func51 rfl Try.ntmps51 rfl rfl fun fx => ?_
 refine SC.seq ?_
 refine SC.reg ?_
 refine SL.eff (e_box (E := 39) (C_api_Attribute a_1 (.s 0)) (by kernel_rfl)) rfl (by kernel_rfl) ?_
 refine SL.sim tk 1 [(1, vp 1 0)] [] [] [] (by kernel_rfl) ?_
 refine SL.nilThen ?_
 refine SC.seq ?_
 refine SC.reg ?_
 refine SL.sim tk 2 [(1, vp 1 0), (4, .g (C_api_UUID a_1.f_Type))] [] [] [] (by kernel_rfl) ?_
 obtain ⟨x_2, e_x_2, hp⟩ := bind_inv hp
 refine SL.eff (e_c Try.call71 (ok_wirelessref43_Is F a_1.f_Type 10240 _ e_x_2) [] [.g (C_api_UUID a_1.f_Type), vi .u16 10240] (vb x_2) (by kernel_rfl) (.inl rfl)) rfl (by kernel_rfl) ?_
 refine SL.sim tk 1 [(1, vp 1 0), (6, vb x_2)] [] [] [] (by kernel_rfl) ?_
 obtain ⟨z_4, hz, hpr⟩ := bind_inv hp
 clear hp
 refine SL.cutAt 4 (fun a w => A 11 1 fx [(10, vb z_4)] [.gone] a w) ?_ ?_
 · have hp := hz
   rcases Bool.eq_false_or_eq_true (x_2) with hg_3 | hg_3
   · replace hp := if_t hp hg_3
     refine SL.no rfl rfl hg_3 rfl ?_
     refine SL.no rfl rfl hg_3 rfl ?_
     refine SL.no rfl rfl hg_3 rfl ?_
     refine SL.pickt rfl hg_3 rfl rfl ?_
     refine SL.nilJ fun a w h => ?_
     obtain rfl := some_inv' hp
     exact h.at (js := [.g 0]) (by kernel_rfl)
   · replace hp := if_f hp hg_3
     refine SL.yes rfl rfl hg_3 ?_
     refine SL.sim tk 1 [(6, vb x_2), (7, vp 1 1)] [] [] [] (by kernel_rfl) ?_
     refine SL.yes rfl rfl hg_3 ?_
     refine SL.sim tk 1 [(6, vb x_2), (8, .g (C_api_UUID a_1.f_Type))] [] [] [] (by kernel_rfl) ?_
     refine SL.yes rfl rfl hg_3 ?_
     obtain ⟨x_6, e_x_6, hp⟩ := bind_inv hp
     refine SL.eff (e_c Try.call71 (ok_wirelessref43_Is F a_1.f_Type 10241 _ e_x_6) [] [.g (C_api_UUID a_1.f_Type), vi .u16 10241] (vb x_6) (by kernel_rfl) (.inl rfl)) rfl (by kernel_rfl) ?_
     refine SL.norm (itsN := [.rd 1 R8 a_1.Value, .blk 39 (C_api_Attribute a_1 (.s 0))]) (by kernel_rfl) ?_
     refine SL.pickf rfl hg_3 rfl rfl ?_
     refine SL.nilJ fun a w h => ?_
     obtain rfl := some_inv' hp
     exact h.at (js := [.g 0]) (by kernel_rfl)
 · intro a w h
   have hp := hpr; clear hpr hz
   refine h.goL ?_
   refine SL.sim tk 1 [(2, vb z_4)] [] [] [] (by kernel_rfl) ?_
   refine SL.nilThen ?_
   obtain rfl := some_inv' hp
   exact SC.re (js := [.g 0]) tk (by kernel_rfl)

theorem ok_wirelessref43_declares (F : Nat) (t_1 : T_api_UUID) (r : Bool) (hp : wirelessref43_declares F t_1 = some r) : Spec Try.prog 63 [.g (C_api_UUID t_1)] [] (vb r) [] := by
 refine Spec.enter Try.func63 rfl Try.ntmps63 rfl rfl fun fx => ?_
 refine SC.seq ?_
 refine SC.reg ?_
 refine SL.eff (e_box (E := 36) (C_api_UUID t_1) (by kernel_rfl)) rfl (by kernel_rfl) ?_
 refine SL.sim tk 1 [(1, vp 0 0)] [] [] [] (by kernel_rfl) ?_
 refine SL.nilThen ?_
 refine SC.seq ?_
 refine SC.reg ?_
 refine SL.sim tk 1 [(1, vp 0 0), (3, .g (C_api_UUID t_1))] [] [] [] (by kernel_rfl) ?_
 obtain ⟨x_2, e_x_2, hp⟩ := bind_inv hp
 refine SL.eff (e_c Try.call71 (ok_wirelessref43_Is F t_1 10240 _ e_x_2) [] [.g (C_api_UUID t_1), vi .u16 10240] (vb x_2) (by kernel_rfl) (.inl rfl)) rfl (by kernel_rfl) ?_
 refine SL.sim tk 1 [(1, vp 0 0), (5, vb x_2)] [] [] [] (by kernel_rfl) ?_
 obtain ⟨z_4, hz, hpr⟩ := bind_inv hp
 clear hp
 refine SL.cutAt 3 (fun a w => A 17 0 fx [(1, vp 0 0), (8, vb z_4)] [.blk 36 (C_api_UUID t_1)] a w) ?_ ?_
 · have hp := hz
   rcases Bool.eq_false_or_eq_true (x_2) with hg_3 | hg_3
   · replace hp := if_t hp hg_3
     refine SL.no rfl rfl hg_3 rfl ?_
     refine SL.no rfl rfl hg_3 rfl ?_
     refine SL.pickt rfl hg_3 rfl rfl ?_
     refine SL.nilJ fun a w h => ?_
     obtain rfl := some_inv' hp
     exact h.at (js := [.g 0]) (by kernel_rfl)
   · replace hp := if_f hp hg_3
     refine SL.yes rfl rfl hg_3 ?_
     refine SL.sim tk 1 [(1, vp 0 0), (5, vb x_2), (6, .g (C_api_UUID t_1))] [] [] [] (by kernel_rfl) ?_
     refine SL.yes rfl rfl hg_3 ?_
     obtain ⟨x_14, e_x_14, hp⟩ := bind_inv hp
     refine SL.eff (e_c Try.call71 (ok_wirelessref43_Is F t_1 10241 _ e_x_14) [] [.g (C_api_UUID t_1), vi .u16 10241] (vb x_14) (by kernel_rfl) (.inl rfl)) rfl (by kernel_rfl) ?_
     refine SL.norm (itsN := [.blk 36 (C_api_UUID t_1)]) (by kernel_rfl) ?_
     refine SL.pickf rfl hg_3 rfl rfl ?_
     refine SL.nilJ fun a w h => ?_
     obtain rfl := some_inv' hp
     exact h.at (js := [.g 0]) (by kernel_rfl)
 · intro a w h
   have hp := hpr; clear hpr hz
   refine h.goL ?_
   refine SL.sim tk 1 [(1, vp 0 0), (9, vb z_4)] [] [] [] (by kernel_rfl) ?_
   obtain ⟨z_6, hz, hpr⟩ := bind_inv hp
   clear hp
   refine SL.cutAt 3 (fun a w => A 17 0 fx [(1, vp 0 0), (12, vb z_6)] [.blk 36 (C_api_UUID t_1)] a w) ?_ ?_
   · have hp := hz
     rcases Bool.eq_false_or_eq_true (z_4) with hg_5 | hg_5
     · replace hp := if_t hp hg_5
       refine SL.no rfl rfl hg_5 rfl ?_
       refine SL.no rfl rfl hg_5 rfl ?_
       refine SL.pickt rfl hg_5 rfl rfl ?_
       refine SL.nilJ fun a w h => ?_
       obtain rfl := some_inv' hp
       exact h.at (js := [.g 0]) (by kernel_rfl)
     · replace hp := if_f hp hg_5
       refine SL.yes rfl rfl hg_5 ?_
       refine SL.sim tk 1 [(1, vp 0 0), (9, vb z_4), (10, .g (C_api_UUID t_1))] [] [] [] (by kernel_rfl) ?_
       refine SL.yes rfl rfl hg_5 ?_
       obtain ⟨x_12, e_x_12, hp⟩ := bind_inv hp
       refine SL.eff (e_c Try.call71 (ok_wirelessref43_Is F t_1 10242 _ e_x_12) [] [.g (C_api_UUID t_1), vi .u16 10242] (vb x_12) (by kernel_rfl) (.inl rfl)) rfl (by kernel_rfl) ?_
       refine SL.pickf rfl hg_5 rfl rfl ?_
       refine SL.nilJ fun a w h => ?_
       obtain rfl := some_inv' hp
       exact h.at (js := [.g 0]) (by kernel_rfl)
   · intro a w h
     have hp := hpr; clear hpr hz
     refine h.goL ?_
     refine SL.sim tk 1 [(1, vp 0 0), (13, vb z_6)] [] [] [] (by kernel_rfl) ?_
     obtain ⟨z_8, hz, hpr⟩ := bind_inv hp
     clear hp
     refine SL.cutAt 3 (fun a w => A 17 0 fx [(16, vb z_8)] [] a w) ?_ ?_
     · have hp := hz
       rcases Bool.eq_false_or_eq_true (z_6) with hg_7 | hg_7
       · replace hp := if_t hp hg_7
         refine SL.no rfl rfl hg_7 rfl ?_
         refine SL.no rfl rfl hg_7 rfl ?_
         refine SL.pickt rfl hg_7 rfl rfl ?_
         refine SL.nilJ fun a w h => ?_
         obtain rfl := some_inv' hp
         exact h.at (js := []) (by kernel_rfl)
       · replace hp := if_f hp hg_7
         refine SL.yes rfl rfl hg_7 ?_
         refine SL.sim tk 1 [(13, vb z_6), (14, .g (C_api_UUID t_1))] [] [] [] (by kernel_rfl) ?_
         refine SL.yes rfl rfl hg_7 ?_
         obtain ⟨x_10, e_x_10, hp⟩ := bind_inv hp
         refine SL.eff (e_c Try.call71 (ok_wirelessref43_Is F t_1 10243 _ e_x_10) [] [.g (C_api_UUID t_1), vi .u16 10243] (vb x_10) (by kernel_rfl) (.inl rfl)) rfl (by kernel_rfl) ?_
         refine SL.pickf rfl hg_7 rfl rfl ?_
         refine SL.nilJ fun a w h => ?_
         obtain rfl := some_inv' hp
         exact h.at (js := []) (by kernel_rfl)
     · intro a w h
       have hp := hpr; clear hpr hz
       refine h.goL ?_
       refine SL.sim tk 1 [(2, vb z_8)] [] [] [] (by kernel_rfl) ?_
       refine SL.nilThen ?_
       obtain rfl := some_inv' hp
       exact SC.re (js := []) tk (by kernel_rfl)

theorem ok_wirelessref23_Num (F : Nat) (b_1 : (List Int)) (at_2 : Int) (size_3 : Int) (r : Int) (hp : wirelessref23_Num F b_1 at_2 size_3 = some r) : Spec Try.prog 77 [vs 0, vi .i64 at_2, vi .i64 size_3] [.rd 1 R8 b_1] (vi .u64 r) [.gone] := by
 refine Spec.enter Try.func77 rfl Try.ntmps77 rfl rfl fun fx => ?_
 refine SC.r tk [(0, vs 0), (1, vi .i64 at_2), (2, vi .i64 size_3)] [] [] [] (by kernel_rfl) ?_
 refine SC.r tk [(0, vs 0), (1, vi .i64 at_2), (2, vi .i64 size_3), (7, vi .u64 0)] [] [] [] (by kernel_rfl) ?_
 refine SC.cut (fun a w => ∃ (x_4 : Int), wirelessref23_Num_j1 F x_4 = some r ∧ A 26 1 fx [(7, vi .u64 x_4)] [.gone] a w) ?_ ?_
 · refine SC.r tk [(0, vs 0), (1, vi .i64 at_2), (7, vi .u64 0), (8, vi .i64 (w64 (size_3 - 1)))] [] [] [] (by kernel_rfl) ?_
   refine SC.block ?_
   obtain ⟨o1, hi1, ho1⟩ := bind_inv hp
   clear hp
   refine SC.loop (fun n a w => ∃ (x_5 : Int) (x_6 : Int), iter (fun s => wirelessref23_Num_l1 F b_1 at_2 s.1 s.2) n (x_5, x_6) = some o1 ∧ A 26 1 fx [(0, vs 0), (1, vi .i64 at_2), (7, vi .u64 x_5), (8, vi .i64 x_6)] [.rd 1 R8 b_1] a w) F (fun a w h => ⟨0, w64 (size_3 - 1), hi1, h.at (js := [.g 0]) (by kernel_rfl)⟩) ?_
   rintro n1 a w ⟨x_5, x_6, hi1, h⟩
   obtain ⟨n1, q1, rfl, hp, hs1⟩ := iter_inv hi1
   replace hp : wirelessref23_Num_l1 F b_1 at_2 x_5 x_6 = some q1 := hp
   clear hi1
   refine h.go ?_
   refine SC.seq ?_
   refine SC.r tk [(0, vs 0), (1, vi .i64 at_2), (7, vi .u64 x_5), (8, vi .i64 x_6), (12, vb (decide (x_6 ≥ 0)))] [] [] [] (by kernel_rfl) ?_
   refine SC.if' rfl hp (fun hp => ?_) (fun hp => ?_)
   · refine SC.skipThen ?_
     refine SC.seq ?_
     refine SC.block ?_
     refine SC.reg ?_
     obtain ⟨x_7, e_x_7, hp⟩ := bind_inv hp
     refine SL.pre (pre_ix (i := 0) (iv := w64 (at_2 + x_6)) (sz := 1) (R := R8) (l := b_1) (by kernel_rfl) rfl e_x_7) ?_
     refine SL.sim tk 11 [(0, vs 0), (1, vi .i64 at_2), (7, vi .u64 (wu64 ((wu64 (x_5 * 256)) + (wu64 x_7)))), (8, vi .i64 x_6)] [] [.el 1] [w64 (at_2 + x_6)] (by kernel_rfl) ?_
     refine SL.nilThen ?_
     refine SC.reg ?_
     refine SL.sim tk 3 [(0, vs 0), (1, vi .i64 at_2), (7, vi .u64 (wu64 ((wu64 (x_5 * 256)) + (wu64 x_7)))), (8, vi .i64 (w64 (x_6 - 1)))] [] [] [] (by kernel_rfl) ?_
     refine SL.nilJ fun a w h => ?_
     exact ⟨n1, Nat.lt_succ_self _, wu64 ((wu64 (x_5 * 256)) + (wu64 x_7)), w64 (x_6 - 1), next_inv hp hs1, h.at (js := [.g 0]) (by kernel_rfl)⟩
   · refine SC.exitJ rfl fun a w h => ?_
     have ho := done_inv hp hs1
     replace hp := ho1
     try rw [ho] at hp
     exact ⟨x_5, hp, h.at (js := [.g 0]) (by kernel_rfl)⟩
 · rintro a w ⟨x_4, hp, h⟩
   refine h.go ?_
   refine SC.r tk [(6, vi .u64 x_4)] [] [] [] (by kernel_rfl) ?_
   obtain rfl := some_inv' hp
   exact SC.re (js := [.g 0]) tk (by kernel_rfl)

theorem ok_wirelessref41_Number (F : Nat) (u_1 : T_api_UUID) (r : Int × Bool) (hp : wirelessref41_Number F u_1 = some r) : Spec Try.prog 76 [.g (C_api_UUID u_1)] [] (.u [.inl (ci .u16 r.1), .inl (cb r.2)]) [] := by
 refine Spec.enter Try.func76 rfl Try.ntmps76 rfl rfl fun fx => ?_
 refine SC.seq ?_
 refine SC.reg ?_
 refine SL.eff (e_box (E := 36) (C_api_UUID u_1) (by kernel_rfl)) rfl (by kernel_rfl) ?_
 refine SL.sim tk 2 [(1, vp 0 0)] [] [] [] (by kernel_rfl) ?_
 refine SL.nilThen ?_
 refine SC.r tk [(1, vp 0 0), (4, vi .u64 (quop .u64 u_1.High 4294967296))] [] [.bin .quo .u64 u_1.High 4294967296 (quop .u64 u_1.High 4294967296) (by kernel_rfl)] [u_1.High, 4294967296] (by kernel_rfl) ?_
 refine SC.seq ?_
 refine SC.cut (fun a w => ∃ (z_2 : Bool), wirelessref41_Number_j1 F u_1 z_2 = some r ∧ A 19 0 fx [(4, vi .u64 (quop .u64 u_1.High 4294967296)), (16, vb z_2)] [] a w) ?_ ?_
 · refine SC.draw MO [true] (by kernel_rfl) fun kap_3 D_4 => ?_
   refine SD.takes tk D_4 [] kn0 [0, 1, 2] [] [] [I, I, I, O, O, O, O, O, O] [(1, vp 0 0), (4, vi .u64 (quop .u64 u_1.High 4294967296)), (10, vb (decide ((quop .u64 u_1.High 4294967296) > 65535)))] rfl (by kernel_rfl) (by kernel_rfl) (by kernel_rfl) ?_
   rcases Bool.eq_false_or_eq_true (decide ((quop .u64 u_1.High 4294967296) > 65535)) with hg_5 | hg_5
   · replace hp := if_t hp hg_5
     refine SD.takes tk D_4 [(10, true)] (knS rfl hg_5 kn0) [3, 4, 5, 6, 7, 8] [] [] [I, I, I, I, I, I, I, I, I] [(4, vi .u64 (quop .u64 u_1.High 4294967296)), (16, vb true)] rfl (by kernel_rfl) (by kernel_rfl) (by kernel_rfl) ?_
     refine SD.done (by kernel_rfl) fun a w h => ?_
     exact ⟨true, hp, h.at (js := []) (by kernel_rfl)⟩
   · replace hp := if_f hp hg_5
     refine SD.takes tk D_4 [(10, false)] (knS rfl hg_5 kn0) [3, 4, 6] [] [] [I, I, I, I, I, O, I, O, O] [(4, vi .u64 (quop .u64 u_1.High 4294967296)), (10, vb (decide ((quop .u64 u_1.High 4294967296) > 65535))), (12, vi .u16 (wu16 (quop .u64 u_1.High 4294967296))), (14, .g (C_api_UUID u_1))] rfl (by kernel_rfl) (by kernel_rfl) (by kernel_rfl) ?_
     obtain ⟨x_6, e_x_6, hp⟩ := bind_inv hp
     refine SD.all1 (i := 5) (by kernel_rfl) ?_
     refine SW.eff D_4 (i := 5) (bs' := [I, I, I, I, I, I, I, O, O]) rfl (.inr ⟨_, _, _, _, rfl, rfl, rfl, hg_5⟩) rfl (e_c Try.call34 (ok_wirelessref41_Short F (wu16 (quop .u64 u_1.High 4294967296)) _ e_x_6) [] [vi .u16 (wu16 (quop .u64 u_1.High 4294967296))] (.g (C_api_UUID x_6)) (by kernel_rfl) (.inl rfl)) (by kernel_rfl) rfl (by kernel_rfl) ?_
     refine SD.all1 (i := 7) (by kernel_rfl) ?_
     refine SW.eff D_4 (i := 7) (bs' := [I, I, I, I, I, I, I, I, O]) rfl (.inr ⟨_, _, _, _, rfl, rfl, rfl, hg_5⟩) rfl (e_eqs tk (cs := (C_api_UUID x_6)) (ds := (C_api_UUID u_1)) [(x_6.High == u_1.High), (x_6.Low == u_1.Low)] (!((x_6.High == u_1.High) && (x_6.Low == u_1.Low))) rfl rfl (by kernel_rfl) (by kernel_rfl) (by kernel_rfl) (.inr ⟨rfl, (by kernel_rfl)⟩)) (by kernel_rfl) rfl (by kernel_rfl) ?_
     refine SD.norm (itsN := [.blk 36 (C_api_UUID u_1)]) (by kernel_rfl) ?_
     refine SD.takes tk D_4 [(10, false)] (knS rfl hg_5 kn0) [8] [] [] [I, I, I, I, I, I, I, I, I] [(4, vi .u64 (quop .u64 u_1.High 4294967296)), (16, vb (!((x_6.High == u_1.High) && (x_6.Low == u_1.Low))))] rfl (by kernel_rfl) (by kernel_rfl) (by kernel_rfl) ?_
     refine SD.done (by kernel_rfl) fun a w h => ?_
     exact ⟨(!((x_6.High == u_1.High) && (x_6.Low == u_1.Low))), hp, h.at (js := []) (by kernel_rfl)⟩
 · rintro a w ⟨z_2, hp, h⟩
   refine h.go ?_
   refine SC.if' rfl hp (fun hp => ?_) (fun hp => ?_)
   · refine SC.r tk [(2, vi .u16 0), (3, vb false)] [] [] [] (by kernel_rfl) ?_
     obtain rfl := some_inv' hp
     exact SC.re (js := []) tk (by kernel_rfl)
   · refine SC.skipThen ?_
     refine SC.r tk [(2, vi .u16 (wu16 (quop .u64 u_1.High 4294967296))), (3, vb true)] [] [] [] (by kernel_rfl) ?_
     obtain rfl := some_inv' hp
     exact SC.re (js := []) tk (by kernel_rfl)

theorem ok_wirelessref41_Decode (F : Nat) (b_1 : (List Int)) (r : T_api_UUID × Int) (hp : wirelessref41_Decode F b_1 = some r) : Spec Try.prog 56 [vs 0] [.rd 1 R8 b_1] (.u [.inr [ci .u64 r.1.High, ci .u64 r.1.Low], .inl (ci .i64 r.2)]) [.gone] := by
 refine Spec.enter Try.func56 rfl Try.ntmps56 rfl rfl fun fx => ?_
 refine SC.seq ?_
 refine SC.reg ?_
 refine SL.eff (e_alloc (E := 36) tk [ci .u64 0, ci .u64 0] (by kernel_rfl)) rfl (by kernel_rfl) ?_
 refine SL.sim tk 1 [(0, vs 0), (2, vp 1 0)] [] [] [] (by kernel_rfl) ?_
 refine SL.nilThen ?_
 refine SC.seq ?_
 refine SC.r tk [(0, vs 0), (2, vp 1 0), (9, vb ((len b_1) == 2))] [] [] [] (by kernel_rfl) ?_
 refine SC.if' rfl hp (fun hp => ?_) (fun hp => ?_)
 · refine SC.seq ?_
   refine SC.reg ?_
   refine SL.sim tk 1 [(2, vp 1 0), (10, vs 0)] [] [] [] (by kernel_rfl) ?_
   obtain ⟨x_2, e_x_2, hp⟩ := bind_inv hp
   refine SL.eff (e_c Try.call77 (ok_wirelessref23_Num F b_1 0 2 _ e_x_2) [.g 0] [vs 0, vi .i64 0, vi .i64 2] (vi .u64 x_2) (by kernel_rfl) (.inl rfl)) rfl (by kernel_rfl) ?_
   refine SL.sim tk 1 [(2, vp 1 0), (12, vi .u16 (wu16 x_2))] [] [] [] (by kernel_rfl) ?_
   obtain ⟨x_3, e_x_3, hp⟩ := bind_inv hp
   refine SL.eff (e_c Try.call34 (ok_wirelessref41_Short F (wu16 x_2) _ e_x_3) [] [vi .u16 (wu16 x_2)] (.g (C_api_UUID x_3)) (by kernel_rfl) (.inl rfl)) rfl (by kernel_rfl) ?_
   refine SL.norm (itsN := [.rd 1 R8 b_1, .blk 36 [ci .u64 0, ci .u64 0]]) (by kernel_rfl) ?_
   refine SL.sim tk 2 [(2, vp 1 0), (3, vi .i64 0)] [(1, 36, (C_api_UUID x_3))] [] [] (by kernel_rfl) ?_
   refine SL.nilThen ?_
   obtain rfl := some_inv' hp
   exact SC.re (js := [.g 0]) tk (by kernel_rfl)
 · refine SC.skipThen ?_
   refine SC.seq ?_
   refine SC.r tk [(0, vs 0), (2, vp 1 0), (16, vb (decide ((len b_1) < 16)))] [] [] [] (by kernel_rfl) ?_
   refine SC.if' rfl hp (fun hp => ?_) (fun hp => ?_)
   · refine SC.r tk [(2, vp 1 0), (3, vi .i64 3)] [(1, 36, [ci .u64 0, ci .u64 0])] [] [] (by kernel_rfl) ?_
     obtain rfl := some_inv' hp
     exact SC.re (js := [.g 0]) tk (by kernel_rfl)
   · refine SC.skipThen ?_
     refine SC.seq ?_
     refine SC.r tk [(0, vs 0), (2, vp 1 0), (20, vb (decide ((len b_1) > 16)))] [] [] [] (by kernel_rfl) ?_
     refine SC.if' rfl hp (fun hp => ?_) (fun hp => ?_)
     · refine SC.r tk [(2, vp 1 0), (3, vi .i64 2)] [(1, 36, [ci .u64 0, ci .u64 0])] [] [] (by kernel_rfl) ?_
       obtain rfl := some_inv' hp
       exact SC.re (js := [.g 0]) tk (by kernel_rfl)
     · refine SC.skipThen ?_
       refine SC.seq ?_
       refine SC.reg ?_
       refine SL.sim tk 1 [(0, vs 0), (2, vp 1 0), (22, vs 0)] [] [] [] (by kernel_rfl) ?_
       obtain ⟨x_4, e_x_4, hp⟩ := bind_inv hp
       refine SL.eff (e_c Try.call77 (ok_wirelessref23_Num F b_1 0 8 _ e_x_4) [.g 0] [vs 0, vi .i64 0, vi .i64 8] (vi .u64 x_4) (by kernel_rfl) (.inl rfl)) rfl (by kernel_rfl) ?_
       refine SL.sim tk 1 [(2, vp 1 0), (23, vi .u64 x_4), (24, vs 0)] [] [] [] (by kernel_rfl) ?_
       obtain ⟨x_5, e_x_5, hp⟩ := bind_inv hp
       refine SL.eff (e_c Try.call77 (ok_wirelessref23_Num F b_1 8 8 _ e_x_5) [.g 0] [vs 0, vi .i64 8, vi .i64 8] (vi .u64 x_5) (by kernel_rfl) (.inl rfl)) rfl (by kernel_rfl) ?_
       refine SL.norm (itsN := [.rd 1 R8 b_1, .blk 36 [ci .u64 0, ci .u64 0]]) (by kernel_rfl) ?_
       refine SL.sim tk 1 [(2, vp 1 0), (26, .g [ci .u64 x_5, ci .u64 x_4])] [] [] [] (by kernel_rfl) ?_
       refine SL.eff (e_alloc (E := 36) tk [ci .u64 0, ci .u64 0] (by kernel_rfl)) rfl (by kernel_rfl) ?_
       refine SL.sim tk 1 [(2, vp 1 0), (4, vp 2 0)] [(2, 36, [ci .u64 x_5, ci .u64 x_4])] [] [] (by kernel_rfl) ?_
       refine SL.nilThen ?_
       refine SC.seq ?_
       refine SC.seq ?_
       refine SC.reg ?_
       refine SL.sim tk 1 [(2, vp 1 0), (4, vp 2 0), (28, .g [ci .u64 x_5, ci .u64 x_4])] [] [] [] (by kernel_rfl) ?_
       obtain ⟨x_6, e_x_6, hp⟩ := bind_inv hp
       refine SL.eff (e_c Try.call76 (ok_wirelessref41_Number F (T_api_UUID.mk x_5 x_4) _ e_x_6) [] [.g [ci .u64 x_5, ci .u64 x_4]] (.u [.inl (ci .u16 x_6.1), .inl (cb x_6.2)]) (by kernel_rfl) (.inl rfl)) rfl (by kernel_rfl) ?_
       refine SL.norm (itsN := [.rd 1 R8 b_1, .blk 36 [ci .u64 0, ci .u64 0], .blk 36 [ci .u64 x_5, ci .u64 x_4]]) (by kernel_rfl) ?_
       refine SL.sim tk 5 [(2, vp 1 0), (4, vp 2 0), (6, vb x_6.2)] [] [] [] (by kernel_rfl) ?_
       refine SL.nilThen ?_
       refine SC.r tk [(2, vp 1 0), (4, vp 2 0), (32, vb x_6.2)] [] [] [] (by kernel_rfl) ?_
       refine SC.if' rfl hp (fun hp => ?_) (fun hp => ?_)
       · refine SC.r tk [(2, vp 1 0), (3, vi .i64 2)] [(1, 36, [ci .u64 0, ci .u64 0])] [] [] (by kernel_rfl) ?_
         obtain rfl := some_inv' hp
         exact SC.re (js := [.g 0]) tk (by kernel_rfl)
       · refine SC.skipThen ?_
         refine SC.r tk [(2, vp 1 0), (3, vi .i64 0)] [(1, 36, [ci .u64 x_5, ci .u64 x_4])] [] [] (by kernel_rfl) ?_
         obtain rfl := some_inv' hp
         exact SC.re (js := [.g 0]) tk (by kernel_rfl)

theorem ok_wirelessref43_IsChar (F : Nat) (a_1 : T_api_Attribute) (r : Bool) (hp : wirelessref43_IsChar F a_1 = some r) : Spec Try.prog 55 [.g (C_api_Attribute a_1 (.s 0))] [.rd 1 R8 a_1.Value] (vb r) [.gone] := by
 refine Spec.enter Try.func55 rfl Try.ntmps55 rfl rfl fun fx => ?_
 refine SC.seq ?_
 refine SC.reg ?_
 refine SL.eff (e_box (E := 39) (C_api_Attribute a_1 (.s 0)) (by kernel_rfl)) rfl (by kernel_rfl) ?_
 refine SL.sim tk 1 [(1, vp 1 0)] [] [] [] (by kernel_rfl) ?_
 refine SL.nilThen ?_
 refine SC.seq ?_
 refine SC.reg ?_
 refine SL.sim tk 2 [(4, .g (C_api_UUID a_1.f_Type))] [] [] [] (by kernel_rfl) ?_
 obtain ⟨x_2, e_x_2, hp⟩ := bind_inv hp
 refine SL.eff (e_c Try.call71 (ok_wirelessref43_Is F a_1.f_Type 10243 _ e_x_2) [] [.g (C_api_UUID a_1.f_Type), vi .u16 10243] (vb x_2) (by kernel_rfl) (.inl rfl)) rfl (by kernel_rfl) ?_
 refine SL.sim tk 1 [(2, vb x_2)] [] [] [] (by kernel_rfl) ?_
 refine SL.nilThen ?_
 obtain rfl := some_inv' hp
 exact SC.re (js := [.g 0]) tk (by kernel_rfl)

theorem ok_wirelessref43_CharParts (F : Nat) (b_1 : (List Int)) (r : Int × Int × T_api_UUID × Bool) (hp : wirelessref43_CharParts F b_1 = some r) : Spec Try.prog 57 [vs 0] [.rd 1 R8 b_1] (.u [.inl (ci .i64 r.1), .inl (ci .u16 r.2.1), .inr [ci .u64 r.2.2.1.High, ci .u64 r.2.2.1.Low], .inl (cb r.2.2.2)]) [.gone] := by
 refine Spec.enter Try.func57 rfl Try.ntmps57 rfl rfl fun fx => ?_
 refine SC.seq ?_
 refine SC.reg ?_
 refine SL.sim tk 2 [(0, vs 0)] [] [] [] (by kernel_rfl) ?_
 refine SL.eff (e_alloc (E := 36) tk [ci .u64 0, ci .u64 0] (by kernel_rfl)) rfl (by kernel_rfl) ?_
 refine SL.sim tk 1 [(0, vs 0), (4, vp 1 0)] [] [] [] (by kernel_rfl) ?_
 refine SL.nilThen ?_
 refine SC.seq ?_
 refine SC.r tk [(0, vs 0), (4, vp 1 0), (10, vb (decide ((len b_1) < 3)))] [] [] [] (by kernel_rfl) ?_
 refine SC.if' rfl hp (fun hp => ?_) (fun hp => ?_)
 · refine SC.r tk [(2, vi .i64 0), (3, vi .u16 0), (4, vp 1 0), (5, vb false)] [(1, 36, [ci .u64 0, ci .u64 0])] [] [] (by kernel_rfl) ?_
   obtain rfl := some_inv' hp
   exact SC.re (js := [.g 0]) tk (by kernel_rfl)
 · refine SC.skipThen ?_
   refine SC.seq ?_
   refine SC.reg ?_
   refine SL.sim tk 1 [(0, vs 0), (4, vp 1 0), (13, vs 0)] [] [] [] (by kernel_rfl) ?_
   obtain ⟨l_2, e_l_2, hp⟩ := bind_inv hp
   refine SL.eff (e_sub (sz := 1) (E := 5) (R := R8) (by_ := 1) (l := b_1) tk rfl (.inl ⟨0, rfl, (by kernel_rfl)⟩) rfl rfl e_l_2 (by kernel_rfl)) rfl (by kernel_rfl) ?_
   obtain ⟨x_3, e_x_3, hp⟩ := bind_inv hp
   refine SL.eff (e_c Try.call56 (ok_wirelessref41_Decode F l_2 _ e_x_3) [.g 2] [vs 2] (.u [.inr (C_api_UUID x_3.1), .inl (ci .i64 x_3.2)]) (by kernel_rfl) (.inl rfl)) rfl (by kernel_rfl) ?_
   refine SL.norm (itsN := [.rd 1 R8 b_1, .blk 36 [ci .u64 0, ci .u64 0], .rd 1 R8 l_2]) (by kernel_rfl) ?_
   refine SL.sim tk 3 [(0, vs 0), (4, vp 1 0), (16, .g (C_api_UUID x_3.1)), (17, vi .i64 x_3.2)] [] [] [] (by kernel_rfl) ?_
   refine SL.eff (e_alloc (E := 36) tk [ci .u64 0, ci .u64 0] (by kernel_rfl)) rfl (by kernel_rfl) ?_
   refine SL.sim tk 2 [(0, vs 0), (4, vp 1 0), (6, vp 3 0), (7, vi .i64 x_3.2)] [(3, 36, (C_api_UUID x_3.1))] [] [] (by kernel_rfl) ?_
   refine SL.nilThen ?_
   refine SC.cut (fun a w => ∃ (x_4 : Int) (x_5 : Int), wirelessref43_CharParts_j1 F x_3 x_4 x_5 = some r ∧ A 28 1 fx [(2, vi .i64 x_4), (3, vi .u16 x_5), (4, vp 1 0), (5, vb (x_3.2 == 0))] [.gone, .blk 36 (C_api_UUID x_3.1)] a w) ?_ ?_
   · obtain ⟨x_6, e_x_6, hp⟩ := bind_inv hp
     refine SC.pre (pre_ix (i := 0) (iv := 0) (sz := 1) (R := R8) (l := b_1) (by kernel_rfl) rfl e_x_6) ?_
     refine SC.draw MO [true, false, true, true, true] (by kernel_rfl) fun kap_7 D_8 => ?_
     refine SD.takes tk D_8 [] kn0 [0, 1, 2, 3, 4, 7, 8, 9] [.el 4] [0] [I, I, I, I, I, O, O, I, I, I, O, O, O, O] [(4, vp 1 0), (21, vi .i64 (w64 x_6)), (22, vs 0), (25, .g (C_api_UUID x_3.1)), (27, vb (x_3.2 == 0))] rfl (by kernel_rfl) (by kernel_rfl) (by kernel_rfl) ?_
     obtain ⟨x_9, e_x_9, hp⟩ := bind_inv hp
     refine SD.all1 (i := 5) (by kernel_rfl) ?_
     refine SW.eff D_8 (i := 5) (bs' := [I, I, I, I, I, I, O, I, I, I, O, O, O, O]) rfl (.inl rfl) rfl (e_c Try.call77 (ok_wirelessref23_Num F b_1 1 2 _ e_x_9) [.g 0] [vs 0, vi .i64 1, vi .i64 2] (vi .u64 x_9) (by kernel_rfl) (.inl rfl)) (by kernel_rfl) rfl (by kernel_rfl) ?_
     refine SD.norm (itsN := [.rd 1 R8 b_1, .blk 36 [ci .u64 0, ci .u64 0], .rd 1 R8 l_2, .blk 36 (C_api_UUID x_3.1), .elt (some (0, 0)) false [ci .u8 x_6]]) (by kernel_rfl) ?_
     refine SD.takes tk D_8 [] kn0 [6, 10, 11] [] [] [I, I, I, I, I, I, I, I, I, I, I, I, O, O] [(2, vi .i64 (w64 x_6)), (3, vi .u16 (wu16 x_9)), (4, vp 1 0), (25, .g (C_api_UUID x_3.1)), (27, vb (x_3.2 == 0))] rfl (by kernel_rfl) (by kernel_rfl) (by kernel_rfl) ?_
     refine SD.all1 (i := 12) (by kernel_rfl) ?_
     refine SW.store D_8 tk (i := 12) (q := 1) (T := 36) (cs := (C_api_UUID x_3.1)) (bs' := [I, I, I, I, I, I, I, I, I, I, I, I, I, O]) rfl (by kernel_rfl) rfl rfl (by kernel_rfl) ?_
     refine SD.takes tk D_8 [] kn0 [13] [] [] [I, I, I, I, I, I, I, I, I, I, I, I, I, I] [(2, vi .i64 (w64 x_6)), (3, vi .u16 (wu16 x_9)), (4, vp 1 0), (5, vb (x_3.2 == 0))] rfl (by kernel_rfl) (by kernel_rfl) (by kernel_rfl) ?_
     refine SD.done (by kernel_rfl) fun a w h => ?_
     exact ⟨w64 x_6, wu16 x_9, hp, h.at (js := [.g 0, .g 1]) (by kernel_rfl)⟩
   · rintro a w ⟨x_4, x_5, hp, h⟩
     refine h.go ?_
     obtain rfl := some_inv' hp
     exact SC.re (js := [.g 0]) tk (by kernel_rfl)

theorem ok_wirelessref43_kept (F : Nat) (t_1 : T_api_UUID) (r : Bool) (hp : wirelessref43_kept F t_1 = some r) : Spec Try.prog 67 [.g (C_api_UUID t_1)] [] (vb r) [] := by
 refine Spec.enter Try.func67 rfl Try.ntmps67 rfl rfl fun fx => ?_
 refine SC.seq ?_
 refine SC.reg ?_
 refine SL.eff (e_box (E := 36) (C_api_UUID t_1) (by kernel_rfl)) rfl (by kernel_rfl) ?_
 refine SL.sim tk 1 [(1, vp 0 0)] [] [] [] (by kernel_rfl) ?_
 refine SL.nilThen ?_
 refine SC.seq ?_
 refine SC.reg ?_
 refine SL.sim tk 1 [(1, vp 0 0), (3, .g (C_api_UUID t_1))] [] [] [] (by kernel_rfl) ?_
 obtain ⟨x_2, e_x_2, hp⟩ := bind_inv hp
 refine SL.eff (e_c Try.call63 (ok_wirelessref43_declares F t_1 _ e_x_2) [] [.g (C_api_UUID t_1)] (vb x_2) (by kernel_rfl) (.inl rfl)) rfl (by kernel_rfl) ?_
 refine SL.sim tk 1 [(1, vp 0 0), (5, vb x_2)] [] [] [] (by kernel_rfl) ?_
 obtain ⟨z_4, hz, hpr⟩ := bind_inv hp
 clear hp
 refine SL.cutAt 3 (fun a w => A 9 0 fx [(8, vb z_4)] [] a w) ?_ ?_
 · have hp := hz
   rcases Bool.eq_false_or_eq_true (x_2) with hg_3 | hg_3
   · replace hp := if_t hp hg_3
     refine SL.no rfl rfl hg_3 rfl ?_
     refine SL.no rfl rfl hg_3 rfl ?_
     refine SL.pickt rfl hg_3 rfl rfl ?_
     refine SL.nilJ fun a w h => ?_
     obtain rfl := some_inv' hp
     exact h.at (js := []) (by kernel_rfl)
   · replace hp := if_f hp hg_3
     refine SL.yes rfl rfl hg_3 ?_
     refine SL.sim tk 1 [(5, vb x_2), (6, .g (C_api_UUID t_1))] [] [] [] (by kernel_rfl) ?_
     refine SL.yes rfl rfl hg_3 ?_
     obtain ⟨x_6, e_x_6, hp⟩ := bind_inv hp
     refine SL.eff (e_c Try.call71 (ok_wirelessref43_Is F t_1 10498 _ e_x_6) [] [.g (C_api_UUID t_1), vi .u16 10498] (vb x_6) (by kernel_rfl) (.inl rfl)) rfl (by kernel_rfl) ?_
     refine SL.norm (itsN := [.blk 36 (C_api_UUID t_1)]) (by kernel_rfl) ?_
     refine SL.pickf rfl hg_3 rfl rfl ?_
     refine SL.nilJ fun a w h => ?_
     obtain rfl := some_inv' hp
     exact h.at (js := []) (by kernel_rfl)
 · intro a w h
   have hp := hpr; clear hpr hz
   refine h.goL ?_
   refine SL.sim tk 1 [(2, vb z_4)] [] [] [] (by kernel_rfl) ?_
   refine SL.nilThen ?_
   obtain rfl := some_inv' hp
   exact SC.re (js := []) tk (by kernel_rfl)

theorem ok_wirelessref43_charWrong (F : Nat) (db_1 : (List T_api_Attribute)) (i_2 : Int) (r : Bool) (hp : wirelessref43_charWrong F db_1 i_2 = some r) : Spec Try.prog 70 [vs 0, vi .i64 i_2] [.rd 5 R_T_api_Attribute db_1] (vb r) [.gone] := by
 refine Spec.enter Try.func70 rfl Try.ntmps70 rfl rfl fun fx => ?_
 refine SC.r tk [(0, vs 0), (1, vi .i64 i_2)] [] [] [] (by kernel_rfl) ?_
 refine SC.seq ?_
 refine SC.reg ?_
 obtain ⟨x_3, e_x_3, hp⟩ := bind_inv hp
 refine SL.pre (pre_ix (i := 0) (iv := i_2) (sz := 5) (R := R_T_api_Attribute) (l := db_1) (by kernel_rfl) rfl e_x_3) ?_
 refine SL.sim tk 5 [(0, vs 0), (1, vi .i64 i_2), (14, vs 2)] [] [.el 1] [i_2] (by kernel_rfl) ?_
 obtain ⟨x_4, e_x_4, hp⟩ := bind_inv hp
 refine SL.eff (e_c Try.call57 (ok_wirelessref43_CharParts F x_3.Value _ e_x_4) [.g 2] [vs 2] (.u [.inl (ci .i64 x_4.1), .inl (ci .u16 x_4.2.1), .inr (C_api_UUID x_4.2.2.1), .inl (cb x_4.2.2.2)]) (by kernel_rfl) (.inl rfl)) rfl (by kernel_rfl) ?_
 refine SL.sim tk 5 [(0, vs 0), (1, vi .i64 i_2), (16, vi .i64 x_4.1), (17, vi .u16 x_4.2.1), (18, .g (C_api_UUID x_4.2.2.1)), (19, vb x_4.2.2.2)] [] [] [] (by kernel_rfl) ?_
 refine SL.eff (e_alloc (E := 36) tk [ci .u64 0, ci .u64 0] (by kernel_rfl)) rfl (by kernel_rfl) ?_
 refine SL.norm (itsN := [.rd 5 R_T_api_Attribute db_1, .elt (some (0, i_2)) false (C_api_Attribute x_3 (.s 2)), .rd 1 R8 x_3.Value, .blk 36 [ci .u64 0, ci .u64 0]]) (by kernel_rfl) ?_
 refine SL.sim tk 4 [(0, vs 0), (1, vi .i64 i_2), (6, vi .u16 x_4.2.1), (7, vp 3 0), (8, vb x_4.2.2.2)] [(3, 36, (C_api_UUID x_4.2.2.1))] [] [] (by kernel_rfl) ?_
 refine SL.nilThen ?_
 refine SC.seq ?_
 refine SC.seq ?_
 refine SC.reg ?_
 refine SL.sim tk 3 [(0, vs 0), (1, vi .i64 i_2), (6, vi .u16 x_4.2.1), (7, vp 3 0), (22, vb (!x_4.2.2.2))] [] [] [] (by kernel_rfl) ?_
 obtain ⟨z_6, hz, hpr⟩ := bind_inv hp
 clear hp
 refine SL.cutAt 3 (fun a w => A 51 1 fx [(0, vs 0), (1, vi .i64 i_2), (6, vi .u16 x_4.2.1), (7, vp 1 0), (25, vb z_6)] [.rd 5 R_T_api_Attribute db_1, .blk 36 (C_api_UUID x_4.2.2.1)] a w) ?_ ?_
 · have hp := hz
   rcases Bool.eq_false_or_eq_true ((!x_4.2.2.2)) with hg_5 | hg_5
   · replace hp := if_t hp hg_5
     refine SL.no rfl rfl hg_5 rfl ?_
     refine SL.no rfl rfl hg_5 rfl ?_
     refine SL.pickt rfl hg_5 rfl rfl ?_
     refine SL.nilJ fun a w h => ?_
     obtain rfl := some_inv' hp
     exact h.at (js := [.g 0, .g 3]) (by kernel_rfl)
   · replace hp := if_f hp hg_5
     refine SL.yes rfl rfl hg_5 ?_
     refine SL.sim tk 1 [(0, vs 0), (1, vi .i64 i_2), (6, vi .u16 x_4.2.1), (7, vp 3 0), (22, vb (!x_4.2.2.2)), (23, .g (C_api_UUID x_4.2.2.1))] [] [] [] (by kernel_rfl) ?_
     refine SL.yes rfl rfl hg_5 ?_
     obtain ⟨x_14, e_x_14, hp⟩ := bind_inv hp
     refine SL.eff (e_c Try.call67 (ok_wirelessref43_kept F x_4.2.2.1 _ e_x_14) [] [.g (C_api_UUID x_4.2.2.1)] (vb x_14) (by kernel_rfl) (.inl rfl)) rfl (by kernel_rfl) ?_
     refine SL.pickf rfl hg_5 rfl rfl ?_
     refine SL.nilJ fun a w h => ?_
     obtain rfl := some_inv' hp
     exact h.at (js := [.g 0, .g 3]) (by kernel_rfl)
 · intro a w h
   have hp := hpr; clear hpr hz
   refine h.goL ?_
   refine SL.sim tk 7 [(0, vs 0), (1, vi .i64 i_2), (6, vi .u16 x_4.2.1), (7, vp 1 0), (32, vb (z_6 || (decide ((w64 (i_2 + 1)) ≥ (len db_1)))))] [] [] [] (by kernel_rfl) ?_
   refine SL.nilThen ?_
   refine SC.if' rfl hp (fun hp => ?_) (fun hp => ?_)
   · refine SC.r tk [(4, vb true)] [] [] [] (by kernel_rfl) ?_
     obtain rfl := some_inv' hp
     exact SC.re (js := [.g 0]) tk (by kernel_rfl)
   · refine SC.skipThen ?_
     refine SC.cut (fun a w => ∃ (z_7 : Bool), wirelessref43_charWrong_j1 F z_7 = some r ∧ A 51 1 fx [(4, vb z_7)] [.gone] a w) ?_ ?_
     · obtain ⟨x_8, e_x_8, hp⟩ := bind_inv hp
       refine SC.pre (pre_ix (i := 0) (iv := w64 (i_2 + 1)) (sz := 5) (R := R_T_api_Attribute) (l := db_1) (by kernel_rfl) rfl e_x_8) ?_
       refine SC.draw MO [true, true, true, true] (by kernel_rfl) fun kap_9 D_10 => ?_
       refine SD.takes tk D_10 [] kn0 [0, 1, 2, 3, 4, 5, 6, 7, 8] [.el 2] [w64 (i_2 + 1)] [I, I, I, I, I, I, I, I, I, O, O, O, O, O, O, O, O, O, O] [(0, vs 0), (1, vi .i64 i_2), (7, vp 1 0), (41, vb (x_8.Handle != x_4.2.1))] rfl (by kernel_rfl) (by kernel_rfl) (by kernel_rfl) ?_
       rcases Bool.eq_false_or_eq_true ((x_8.Handle != x_4.2.1)) with hg_11 | hg_11
       · replace hp := if_t hp hg_11
         refine SD.takes tk D_10 [(41, true)] (knS rfl hg_11 kn0) [9, 10, 11, 12, 13, 14, 15, 16, 17, 18] [] [] [I, I, I, I, I, I, I, I, I, I, I, I, I, I, I, I, I, I, I] [(4, vb true)] rfl (by kernel_rfl) (by kernel_rfl) (by kernel_rfl) ?_
         refine SD.done (by kernel_rfl) fun a w h => ?_
         exact ⟨true, hp, h.at (js := [.g 0]) (by kernel_rfl)⟩
       · replace hp := if_f hp hg_11
         refine SD.takes tk D_10 [(41, false)] (knS rfl hg_11 kn0) [9, 10, 11, 15] [] [] [I, I, I, I, I, I, I, I, I, I, I, I, O, O, O, I, O, O, O] [(41, vb (x_8.Handle != x_4.2.1)), (42, vs 0), (44, vi .i64 (w64 (i_2 + 1))), (48, .g (C_api_UUID x_4.2.2.1))] rfl (by kernel_rfl) (by kernel_rfl) (by kernel_rfl) ?_
         obtain ⟨x_12, e_x_12, hp⟩ := bind_inv hp
         refine SD.pre (pre_ix (i := 0) (iv := w64 (i_2 + 1)) (sz := 5) (R := R_T_api_Attribute) (l := db_1) (by kernel_rfl) rfl e_x_12) ?_
         refine SD.all1 (i := 12) (by kernel_rfl) ?_
         refine SW.eff D_10 (i := 12) (v := vp 4 0) (bs' := [I, I, I, I, I, I, I, I, I, I, I, I, I, O, O, I, O, O, O]) rfl (.inr ⟨_, _, _, _, rfl, rfl, rfl, hg_11⟩) rfl (e_valE tk (.el 4) [w64 (i_2 + 1)] (by kernel_rfl)) (by kernel_rfl) rfl (by kernel_rfl) ?_
         refine SD.all1 (i := 13) (by kernel_rfl) ?_
         refine SW.eff D_10 (i := 13) (v := vp 4 1) (bs' := [I, I, I, I, I, I, I, I, I, I, I, I, I, I, O, I, O, O, O]) rfl (.inr ⟨_, _, _, _, rfl, rfl, rfl, hg_11⟩) rfl (e_val tk (by kernel_rfl)) (by kernel_rfl) rfl (by kernel_rfl) ?_
         refine SD.norm (itsN := [.rd 5 R_T_api_Attribute db_1, .blk 36 (C_api_UUID x_4.2.2.1), .elt (some (0, w64 (i_2 + 1))) false (C_api_Attribute x_8 (.s 3)), .rd 1 R8 x_8.Value, .elt (some (0, w64 (i_2 + 1))) false (C_api_Attribute x_12 (.s 5)), .rd 1 R8 x_12.Value]) (by kernel_rfl) ?_
         refine SD.all1 (i := 14) (by kernel_rfl) ?_
         refine SW.eff D_10 (i := 14) (v := .g (C_api_UUID x_12.f_Type)) (bs' := [I, I, I, I, I, I, I, I, I, I, I, I, I, I, I, I, O, O, O]) rfl (.inr ⟨_, _, _, _, rfl, rfl, rfl, hg_11⟩) rfl (e_val tk (by kernel_rfl)) (by kernel_rfl) rfl (by kernel_rfl) ?_
         refine SD.all1 (i := 16) (by kernel_rfl) ?_
         refine SW.eff D_10 (i := 16) (bs' := [I, I, I, I, I, I, I, I, I, I, I, I, I, I, I, I, I, O, O]) rfl (.inr ⟨_, _, _, _, rfl, rfl, rfl, hg_11⟩) rfl (e_eqs tk (cs := (C_api_UUID x_12.f_Type)) (ds := (C_api_UUID x_4.2.2.1)) [(x_12.f_Type.High == x_4.2.2.1.High), (x_12.f_Type.Low == x_4.2.2.1.Low)] (!((x_12.f_Type.High == x_4.2.2.1.High) && (x_12.f_Type.Low == x_4.2.2.1.Low))) rfl rfl (by kernel_rfl) (by kernel_rfl) (by kernel_rfl) (.inr ⟨rfl, (by kernel_rfl)⟩)) (by kernel_rfl) rfl (by kernel_rfl) ?_
         refine SD.norm (itsN := [.rd 5 R_T_api_Attribute db_1, .blk 36 (C_api_UUID x_4.2.2.1), .elt (some (0, w64 (i_2 + 1))) false (C_api_Attribute x_8 (.s 3)), .rd 1 R8 x_8.Value, .elt (some (0, w64 (i_2 + 1))) false (C_api_Attribute x_12 (.s 5)), .rd 1 R8 x_12.Value]) (by kernel_rfl) ?_
         refine SD.takes tk D_10 [(41, false)] (knS rfl hg_11 kn0) [17, 18] [] [] [I, I, I, I, I, I, I, I, I, I, I, I, I, I, I, I, I, I, I] [(4, vb (!((x_12.f_Type.High == x_4.2.2.1.High) && (x_12.f_Type.Low == x_4.2.2.1.Low))))] rfl (by kernel_rfl) (by kernel_rfl) (by kernel_rfl) ?_
         refine SD.done (by kernel_rfl) fun a w h => ?_
         exact ⟨(!((x_12.f_Type.High == x_4.2.2.1.High) && (x_12.f_Type.Low == x_4.2.2.1.Low))), hp, h.at (js := [.g 0]) (by kernel_rfl)⟩
     · rintro a w ⟨z_7, hp, h⟩
       refine h.go ?_
       obtain rfl := some_inv' hp
       exact SC.re (js := [.g 0]) tk (by kernel_rfl)

theorem ok_wirelessref43_charOf (F : Nat) (db_1 : (List T_api_Attribute)) (i_2 : Int) (r : Int) (hp : wirelessref43_charOf F db_1 i_2 = some r) : Spec Try.prog 86 [vs 0, vi .i64 i_2] [.rd 5 R_T_api_Attribute db_1] (vi .i64 r) [.gone] := by
 refine Spec.enter Try.func86 rfl Try.ntmps86 rfl rfl fun fx => ?_
 refine SC.r tk [(0, vs 0), (1, vi .i64 i_2)] [] [] [] (by kernel_rfl) ?_
 refine SC.cut (fun a w => wirelessref43_charOf_j1 F = some r ∧ A 22 1 fx [] [.gone] a w) ?_ ?_
 · refine SC.r tk [(0, vs 0), (5, vi .i64 i_2)] [] [] [] (by kernel_rfl) ?_
   refine SC.block ?_
   obtain ⟨o1, hi1, ho1⟩ := bind_inv hp
   clear hp
   refine SC.loop (fun n a w => ∃ (x_3 : Int), iter (fun s => wirelessref43_charOf_l1 F db_1 s) n (x_3) = some o1 ∧ A 22 1 fx [(0, vs 0), (5, vi .i64 x_3)] [.rd 5 R_T_api_Attribute db_1] a w) F (fun a w h => ⟨i_2, hi1, h.at (js := [.g 0]) (by kernel_rfl)⟩) ?_
   rintro n1 a w ⟨x_3, hi1, h⟩
   obtain ⟨n1, q1, rfl, hp, hs1⟩ := iter_inv hi1
   replace hp : wirelessref43_charOf_l1 F db_1 x_3 = some q1 := hp
   clear hi1
   refine h.go ?_
   refine SC.seq ?_
   refine SC.r tk [(0, vs 0), (5, vi .i64 x_3), (8, vb (decide (x_3 ≥ 0)))] [] [] [] (by kernel_rfl) ?_
   refine SC.if' rfl hp (fun hp => ?_) (fun hp => ?_)
   · refine SC.skipThen ?_
     refine SC.seq ?_
     refine SC.block ?_
     refine SC.seq ?_
     refine SC.seq ?_
     refine SC.reg ?_
     obtain ⟨x_4, e_x_4, hp⟩ := bind_inv hp
     refine SL.pre (pre_ix (i := 0) (iv := x_3) (sz := 5) (R := R_T_api_Attribute) (l := db_1) (by kernel_rfl) rfl e_x_4) ?_
     refine SL.sim tk 4 [(0, vs 0), (5, vi .i64 x_3), (14, .g (C_api_Attribute x_4 (.s 2)))] [] [.el 1] [x_3] (by kernel_rfl) ?_
     obtain ⟨x_5, e_x_5, hp⟩ := bind_inv hp
     refine SL.eff (e_c Try.call55 (ok_wirelessref43_IsChar F x_4 _ e_x_5) [.g 2] [.g (C_api_Attribute x_4 (.s 2))] (vb x_5) (by kernel_rfl) (.inl rfl)) rfl (by kernel_rfl) ?_
     refine SL.nilThen ?_
     refine SC.if' rfl hp (fun hp => ?_) (fun hp => ?_)
     · refine SC.r tk [(4, vi .i64 x_3)] [] [] [] (by kernel_rfl) ?_
       have ho := done_inv hp hs1
       replace hp := ho1
       try rw [ho] at hp
       obtain rfl := some_inv' hp
       exact SC.re (js := [.g 0]) tk (by kernel_rfl)
     · refine SC.skipThen ?_
       refine SC.seq ?_
       refine SC.reg ?_
       obtain ⟨x_6, e_x_6, hp⟩ := bind_inv hp
       refine SL.pre (pre_ix (i := 0) (iv := x_3) (sz := 5) (R := R_T_api_Attribute) (l := db_1) (by kernel_rfl) rfl e_x_6) ?_
       refine SL.sim tk 4 [(0, vs 0), (5, vi .i64 x_3), (20, .g (C_api_Attribute x_6 (.s 4)))] [] [.el 3] [x_3] (by kernel_rfl) ?_
       obtain ⟨x_7, e_x_7, hp⟩ := bind_inv hp
       refine SL.eff (e_c Try.call51 (ok_wirelessref43_IsService F x_6 _ e_x_7) [.g 4] [.g (C_api_Attribute x_6 (.s 4))] (vb x_7) (by kernel_rfl) (.inl rfl)) rfl (by kernel_rfl) ?_
       refine SL.norm (itsN := [.rd 5 R_T_api_Attribute db_1, .elt (some (0, x_3)) false (C_api_Attribute x_4 (.s 2)), .rd 1 R8 x_4.Value, .elt (some (0, x_3)) false (C_api_Attribute x_6 (.s 4)), .rd 1 R8 x_6.Value]) (by kernel_rfl) ?_
       refine SL.nilThen ?_
       refine SC.if' rfl hp (fun hp => ?_) (fun hp => ?_)
       · refine SC.r tk [(4, vi .i64 (-1))] [] [] [] (by kernel_rfl) ?_
         have ho := done_inv hp hs1
         replace hp := ho1
         try rw [ho] at hp
         obtain rfl := some_inv' hp
         exact SC.re (js := [.g 0]) tk (by kernel_rfl)
       · refine SC.skipThen ?_
         refine SC.reg ?_
         refine SL.sim tk 3 [(0, vs 0), (5, vi .i64 (w64 (x_3 - 1)))] [] [] [] (by kernel_rfl) ?_
         refine SL.nilJ fun a w h => ?_
         exact ⟨n1, Nat.lt_succ_self _, w64 (x_3 - 1), next_inv hp hs1, h.at (js := [.g 0]) (by kernel_rfl)⟩
   · refine SC.exitJ rfl fun a w h => ?_
     have ho := done_inv hp hs1
     replace hp := ho1
     try rw [ho] at hp
     exact ⟨hp, h.at (js := [.g 0]) (by kernel_rfl)⟩
 · rintro a w ⟨hp, h⟩
   refine h.go ?_
   refine SC.r tk [(4, vi .i64 (-1))] [] [] [] (by kernel_rfl) ?_
   obtain rfl := some_inv' hp
   exact SC.re (js := [.g 0]) tk (by kernel_rfl)

theorem ok_wirelessref43_configWrong (F : Nat) (db_1 : (List T_api_Attribute)) (i_2 : Int) (r : Bool) (hp : wirelessref43_configWrong F db_1 i_2 = some r) : Spec Try.prog 72 [vs 0, vi .i64 i_2] [.rd 5 R_T_api_Attribute db_1] (vb r) [.gone] := by
 refine Spec.enter Try.func72 rfl Try.ntmps72 rfl rfl fun fx => ?_
 refine SC.r tk [(0, vs 0), (1, vi .i64 i_2)] [] [] [] (by kernel_rfl) ?_
 refine SC.seq ?_
 refine SC.reg ?_
 refine SL.sim tk 2 [(0, vs 0), (1, vi .i64 i_2), (7, vs 0), (8, vi .i64 i_2)] [] [] [] (by kernel_rfl) ?_
 obtain ⟨x_3, e_x_3, hp⟩ := bind_inv hp
 refine SL.eff (e_c Try.call86 (ok_wirelessref43_charOf F db_1 i_2 _ e_x_3) [.g 0] [vs 0, vi .i64 i_2] (vi .i64 x_3) (by kernel_rfl) (.inl rfl)) rfl (by kernel_rfl) ?_
 refine SL.sim tk 1 [(0, vs 0), (1, vi .i64 i_2), (5, vi .i64 x_3)] [] [] [] (by kernel_rfl) ?_
 refine SL.nilThen ?_
 refine SC.seq ?_
 obtain ⟨x_4, e_x_4, hp⟩ := bind_inv hp
 refine SC.pre (pre_ix (i := 0) (iv := i_2) (sz := 5) (R := R_T_api_Attribute) (l := db_1) (by kernel_rfl) rfl e_x_4) ?_
 refine SC.r tk [(0, vs 0), (1, vi .i64 i_2), (5, vi .i64 x_3), (20, vb (((len x_4.Value) != 2) || (decide (x_3 < 0))))] [] [.el 1] [i_2] (by kernel_rfl) ?_
 refine SC.if' rfl hp (fun hp => ?_) (fun hp => ?_)
 · refine SC.r tk [(4, vb true)] [] [] [] (by kernel_rfl) ?_
   obtain rfl := some_inv' hp
   exact SC.re (js := [.g 0]) tk (by kernel_rfl)
 · refine SC.skipThen ?_
   refine SC.cut (fun a w => wirelessref43_configWrong_j1 F = some r ∧ A 33 1 fx [] [.gone] a w) ?_ ?_
   · refine SC.r tk [(0, vs 0), (1, vi .i64 i_2), (6, vi .i64 x_3)] [] [] [] (by kernel_rfl) ?_
     refine SC.block ?_
     obtain ⟨o1, hi1, ho1⟩ := bind_inv hp
     clear hp
     refine SC.loop (fun n a w => ∃ (x_5 : Int), iter (fun s => wirelessref43_configWrong_l1 F db_1 i_2 s) n (x_5) = some o1 ∧ A 33 1 fx [(0, vs 0), (1, vi .i64 i_2), (6, vi .i64 x_5)] [.rd 5 R_T_api_Attribute db_1] a w) F (fun a w h => ⟨x_3, hi1, h.at (js := [.g 0]) (by kernel_rfl)⟩) ?_
     rintro n1 a w ⟨x_5, hi1, h⟩
     obtain ⟨n1, q1, rfl, hp, hs1⟩ := iter_inv hi1
     replace hp : wirelessref43_configWrong_l1 F db_1 i_2 x_5 = some q1 := hp
     clear hi1
     refine h.go ?_
     refine SC.seq ?_
     refine SC.r tk [(0, vs 0), (1, vi .i64 i_2), (6, vi .i64 x_5), (24, vb (decide (x_5 < i_2)))] [] [] [] (by kernel_rfl) ?_
     refine SC.if' rfl hp (fun hp => ?_) (fun hp => ?_)
     · refine SC.skipThen ?_
       refine SC.seq ?_
       refine SC.block ?_
       refine SC.seq ?_
       refine SC.reg ?_
       obtain ⟨x_6, e_x_6, hp⟩ := bind_inv hp
       refine SL.pre (pre_ix (i := 0) (iv := x_5) (sz := 5) (R := R_T_api_Attribute) (l := db_1) (by kernel_rfl) rfl e_x_6) ?_
       refine SL.sim tk 5 [(0, vs 0), (1, vi .i64 i_2), (6, vi .i64 x_5), (31, .g (C_api_UUID x_6.f_Type))] [] [.el 1] [x_5] (by kernel_rfl) ?_
       obtain ⟨x_7, e_x_7, hp⟩ := bind_inv hp
       refine SL.eff (e_c Try.call71 (ok_wirelessref43_Is F x_6.f_Type 10498 _ e_x_7) [] [.g (C_api_UUID x_6.f_Type), vi .u16 10498] (vb x_7) (by kernel_rfl) (.inl rfl)) rfl (by kernel_rfl) ?_
       refine SL.nilThen ?_
       refine SC.if' rfl hp (fun hp => ?_) (fun hp => ?_)
       · refine SC.r tk [(4, vb true)] [] [] [] (by kernel_rfl) ?_
         have ho := done_inv hp hs1
         replace hp := ho1
         try rw [ho] at hp
         obtain rfl := some_inv' hp
         exact SC.re (js := [.g 0]) tk (by kernel_rfl)
       · refine SC.skipThen ?_
         refine SC.reg ?_
         refine SL.sim tk 3 [(0, vs 0), (1, vi .i64 i_2), (6, vi .i64 (w64 (x_5 + 1)))] [] [] [] (by kernel_rfl) ?_
         refine SL.nilJ fun a w h => ?_
         exact ⟨n1, Nat.lt_succ_self _, w64 (x_5 + 1), next_inv hp hs1, h.at (js := [.g 0]) (by kernel_rfl)⟩
     · refine SC.exitJ rfl fun a w h => ?_
       have ho := done_inv hp hs1
       replace hp := ho1
       try rw [ho] at hp
       exact ⟨hp, h.at (js := [.g 0]) (by kernel_rfl)⟩
   · rintro a w ⟨hp, h⟩
     refine h.go ?_
     refine SC.r tk [(4, vb false)] [] [] [] (by kernel_rfl) ?_
     obtain rfl := some_inv' hp
     exact SC.re (js := [.g 0]) tk (by kernel_rfl)

theorem ok_wirelessref43_wrong (F : Nat) (db_1 : (List T_api_Attribute)) (i_2 : Int) (r : Bool) (hp : wirelessref43_wrong F db_1 i_2 = some r) : Spec Try.prog 38 [vs 0, vi .i64 i_2] [.rd 5 R_T_api_Attribute db_1] (vb r) [.gone] := by
 refine Spec.enter Try.func38 rfl Try.ntmps38 rfl rfl fun fx => ?_
 refine SC.r tk [(0, vs 0), (1, vi .i64 i_2)] [] [] [] (by kernel_rfl) ?_
 refine SC.seq ?_
 refine SC.reg ?_
 obtain ⟨x_3, e_x_3, hp⟩ := bind_inv hp
 refine SL.pre (pre_ix (i := 0) (iv := i_2) (sz := 5) (R := R_T_api_Attribute) (l := db_1) (by kernel_rfl) rfl e_x_3) ?_
 refine SL.sim tk 4 [(0, vs 0), (1, vi .i64 i_2), (11, .g (C_api_Attribute x_3 (.s 2)))] [] [.el 1] [i_2] (by kernel_rfl) ?_
 refine SL.eff (e_alloc (E := 39) tk [ci .u16 0, ci .u64 0, ci .u64 0, ci .i64 0, nl] (by kernel_rfl)) rfl (by kernel_rfl) ?_
 refine SL.sim tk 1 [(0, vs 0), (1, vi .i64 i_2), (5, vp 3 0)] [(3, 39, (C_api_Attribute x_3 (.s 2)))] [] [] (by kernel_rfl) ?_
 refine SL.nilThen ?_
 refine SC.seq ?_
 refine SC.seq ?_
 refine SC.reg ?_
 refine SL.sim tk 3 [(0, vs 0), (1, vi .i64 i_2), (5, vp 3 0), (14, vb (i_2 == 0))] [] [] [] (by kernel_rfl) ?_
 obtain ⟨z_5, hz, hpr⟩ := bind_inv hp
 clear hp
 refine SL.cutAt 4 (fun a w => A 57 1 fx [(0, vs 0), (1, vi .i64 i_2), (5, vp 1 0), (18, vb z_5)] [.rd 5 R_T_api_Attribute db_1, .blk 39 (C_api_Attribute x_3 (.s 2)), .rd 1 R8 x_3.Value] a w) ?_ ?_
 · have hp := hz
   rcases Bool.eq_false_or_eq_true ((i_2 == 0)) with hg_4 | hg_4
   · replace hp := if_t hp hg_4
     refine SL.yes rfl rfl hg_4 ?_
     refine SL.sim tk 1 [(0, vs 0), (1, vi .i64 i_2), (5, vp 3 0), (14, vb (i_2 == 0)), (15, .g (C_api_Attribute x_3 (.s 2)))] [] [] [] (by kernel_rfl) ?_
     refine SL.yes rfl rfl hg_4 ?_
     obtain ⟨x_25, e_x_25, hp⟩ := bind_inv hp
     refine SL.eff (e_c Try.call51 (ok_wirelessref43_IsService F x_3 _ e_x_25) [.g 2] [.g (C_api_Attribute x_3 (.s 2))] (vb x_25) (by kernel_rfl) (.inl rfl)) rfl (by kernel_rfl) ?_
     refine SL.norm (itsN := [.rd 5 R_T_api_Attribute db_1, .elt (some (0, i_2)) false (C_api_Attribute x_3 (.s 2)), .rd 1 R8 x_3.Value, .blk 39 (C_api_Attribute x_3 (.s 2))]) (by kernel_rfl) ?_
     refine SL.yes rfl rfl hg_4 ?_
     refine SL.sim tk 1 [(0, vs 0), (1, vi .i64 i_2), (5, vp 3 0), (14, vb (i_2 == 0)), (17, vb (!x_25))] [] [] [] (by kernel_rfl) ?_
     refine SL.pickt rfl hg_4 rfl rfl ?_
     refine SL.nilJ fun a w h => ?_
     obtain rfl := some_inv' hp
     exact h.at (js := [.g 0, .g 3, .g 2]) (by kernel_rfl)
   · replace hp := if_f hp hg_4
     refine SL.no rfl rfl hg_4 rfl ?_
     refine SL.no rfl rfl hg_4 rfl ?_
     refine SL.no rfl rfl hg_4 rfl ?_
     refine SL.pickf rfl hg_4 rfl rfl ?_
     refine SL.nilJ fun a w h => ?_
     obtain rfl := some_inv' hp
     exact h.at (js := [.g 0, .g 3, .g 2]) (by kernel_rfl)
 · intro a w h
   have hp := hpr; clear hpr hz
   refine h.goL ?_
   refine SL.sim tk 1 [(0, vs 0), (1, vi .i64 i_2), (5, vp 1 0), (19, vb z_5)] [] [] [] (by kernel_rfl) ?_
   obtain ⟨z_7, hz, hpr⟩ := bind_inv hp
   clear hp
   refine SL.cutAt 10 (fun a w => A 57 1 fx [(0, vs 0), (1, vi .i64 i_2), (5, vp 1 0), (29, vb z_7)] [.rd 5 R_T_api_Attribute db_1, .blk 39 (C_api_Attribute x_3 (.s 2)), .rd 1 R8 x_3.Value] a w) ?_ ?_
   · have hp := hz
     rcases Bool.eq_false_or_eq_true (z_5) with hg_6 | hg_6
     · replace hp := if_t hp hg_6
       refine SL.no rfl rfl hg_6 rfl ?_
       refine SL.no rfl rfl hg_6 rfl ?_
       refine SL.no rfl rfl hg_6 rfl ?_
       refine SL.no rfl rfl hg_6 rfl ?_
       refine SL.noU rfl rfl rfl ?_
       refine SL.noU rfl rfl rfl ?_
       refine SL.noU rfl rfl rfl ?_
       refine SL.noU rfl rfl rfl ?_
       refine SL.no rfl rfl hg_6 rfl ?_
       refine SL.pickt rfl hg_6 rfl rfl ?_
       refine SL.nilJ fun a w h => ?_
       obtain rfl := some_inv' hp
       exact h.at (js := [.g 0, .g 1, .g 2]) (by kernel_rfl)
     · replace hp := if_f hp hg_6
       refine SL.yes rfl rfl hg_6 ?_
       refine SL.sim tk 1 [(0, vs 0), (1, vi .i64 i_2), (5, vp 1 0), (19, vb z_5), (20, vp 1 1)] [] [] [] (by kernel_rfl) ?_
       refine SL.yes rfl rfl hg_6 ?_
       refine SL.sim tk 1 [(0, vs 0), (1, vi .i64 i_2), (5, vp 1 0), (19, vb z_5), (21, .g (C_api_UUID x_3.f_Type))] [] [] [] (by kernel_rfl) ?_
       refine SL.yes rfl rfl hg_6 ?_
       obtain ⟨x_22, e_x_22, hp⟩ := bind_inv hp
       refine SL.eff (e_c Try.call63 (ok_wirelessref43_declares F x_3.f_Type _ e_x_22) [] [.g (C_api_UUID x_3.f_Type)] (vb x_22) (by kernel_rfl) (.inl rfl)) rfl (by kernel_rfl) ?_
       refine SL.yes rfl rfl hg_6 ?_
       refine SL.sim tk 1 [(0, vs 0), (1, vi .i64 i_2), (5, vp 1 0), (19, vb z_5), (23, vb x_22)] [] [] [] (by kernel_rfl) ?_
       rcases Bool.eq_false_or_eq_true (x_22) with hg_23 | hg_23
       · replace hp := if_t hp hg_23
         refine SL.yes rfl rfl hg_23 ?_
         refine SL.sim tk 1 [(0, vs 0), (1, vi .i64 i_2), (5, vp 1 0), (19, vb z_5), (23, vb x_22), (24, vp 1 3)] [] [] [] (by kernel_rfl) ?_
         refine SL.yes rfl rfl hg_23 ?_
         refine SL.sim tk 1 [(0, vs 0), (1, vi .i64 i_2), (5, vp 1 0), (19, vb z_5), (23, vb x_22), (25, vi .i64 x_3.Perms)] [] [] [] (by kernel_rfl) ?_
         refine SL.yes rfl rfl hg_23 ?_
         refine SL.sim tk 1 [(0, vs 0), (1, vi .i64 i_2), (5, vp 1 0), (19, vb z_5), (23, vb x_22), (26, vi .i64 (iand .i64 x_3.Perms 2))] [] [] [] (by kernel_rfl) ?_
         refine SL.yes rfl rfl hg_23 ?_
         refine SL.sim tk 1 [(0, vs 0), (1, vi .i64 i_2), (5, vp 1 0), (19, vb z_5), (23, vb x_22), (27, vb ((iand .i64 x_3.Perms 2) != 0))] [] [] [] (by kernel_rfl) ?_
         refine SL.yes rfl rfl hg_6 ?_
         refine SL.pickt rfl hg_23 rfl rfl ?_
         refine SL.pickf rfl hg_6 rfl rfl ?_
         refine SL.nilJ fun a w h => ?_
         obtain rfl := some_inv' hp
         exact h.at (js := [.g 0, .g 1, .g 2]) (by kernel_rfl)
       · replace hp := if_f hp hg_23
         refine SL.no rfl rfl hg_23 rfl ?_
         refine SL.no rfl rfl hg_23 rfl ?_
         refine SL.no rfl rfl hg_23 rfl ?_
         refine SL.no rfl rfl hg_23 rfl ?_
         refine SL.yes rfl rfl hg_6 ?_
         refine SL.pickf rfl hg_23 rfl rfl ?_
         refine SL.pickf rfl hg_6 rfl rfl ?_
         refine SL.nilJ fun a w h => ?_
         obtain rfl := some_inv' hp
         exact h.at (js := [.g 0, .g 1, .g 2]) (by kernel_rfl)
   · intro a w h
     have hp := hpr; clear hpr hz
     refine h.goL ?_
     refine SL.nilThen ?_
     refine SC.if' rfl hp (fun hp => ?_) (fun hp => ?_)
     · refine SC.r tk [(4, vb true)] [] [] [] (by kernel_rfl) ?_
       obtain rfl := some_inv' hp
       exact SC.re (js := [.g 0]) tk (by kernel_rfl)
     · refine SC.skipThen ?_
       refine SC.seq ?_
       refine SC.seq ?_
       refine SC.reg ?_
       refine SL.sim tk 1 [(0, vs 0), (1, vi .i64 i_2), (5, vp 1 0), (30, .g (C_api_Attribute x_3 (.s 2)))] [] [] [] (by kernel_rfl) ?_
       obtain ⟨x_8, e_x_8, hp⟩ := bind_inv hp
       refine SL.eff (e_c Try.call51 (ok_wirelessref43_IsService F x_3 _ e_x_8) [.g 2] [.g (C_api_Attribute x_3 (.s 2))] (vb x_8) (by kernel_rfl) (.inl rfl)) rfl (by kernel_rfl) ?_
       refine SL.nilThen ?_
       refine SC.if' rfl hp (fun hp => ?_) (fun hp => ?_)
       · refine SC.seq ?_
         refine SC.reg ?_
         refine SL.sim tk 2 [(34, vs 2)] [] [] [] (by kernel_rfl) ?_
         obtain ⟨x_9, e_x_9, hp⟩ := bind_inv hp
         refine SL.eff (e_c Try.call56 (ok_wirelessref41_Decode F x_3.Value _ e_x_9) [.g 2] [vs 2] (.u [.inr (C_api_UUID x_9.1), .inl (ci .i64 x_9.2)]) (by kernel_rfl) (.inl rfl)) rfl (by kernel_rfl) ?_
         refine SL.norm (itsN := [.rd 5 R_T_api_Attribute db_1, .blk 39 (C_api_Attribute x_3 (.s 2)), .rd 1 R8 x_3.Value]) (by kernel_rfl) ?_
         refine SL.sim tk 3 [(36, .g (C_api_UUID x_9.1)), (37, vi .i64 x_9.2)] [] [] [] (by kernel_rfl) ?_
         refine SL.eff (e_alloc (E := 36) tk [ci .u64 0, ci .u64 0] (by kernel_rfl)) rfl (by kernel_rfl) ?_
         refine SL.sim tk 2 [(7, vi .i64 x_9.2)] [(3, 36, (C_api_UUID x_9.1))] [] [] (by kernel_rfl) ?_
         refine SL.nilThen ?_
         refine SC.r tk [(4, vb (x_9.2 != 0))] [] [] [] (by kernel_rfl) ?_
         obtain rfl := some_inv' hp
         exact SC.re (js := [.g 0]) tk (by kernel_rfl)
       · refine SC.skipThen ?_
         refine SC.seq ?_
         refine SC.reg ?_
         refine SL.sim tk 1 [(0, vs 0), (1, vi .i64 i_2), (5, vp 1 0), (40, .g (C_api_Attribute x_3 (.s 2)))] [] [] [] (by kernel_rfl) ?_
         obtain ⟨x_10, e_x_10, hp⟩ := bind_inv hp
         refine SL.eff (e_c Try.call55 (ok_wirelessref43_IsChar F x_3 _ e_x_10) [.g 2] [.g (C_api_Attribute x_3 (.s 2))] (vb x_10) (by kernel_rfl) (.inl rfl)) rfl (by kernel_rfl) ?_
         refine SL.norm (itsN := [.rd 5 R_T_api_Attribute db_1, .blk 39 (C_api_Attribute x_3 (.s 2)), .rd 1 R8 x_3.Value]) (by kernel_rfl) ?_
         refine SL.sim tk 1 [(0, vs 0), (1, vi .i64 i_2), (5, vp 1 0), (42, vb x_10)] [] [] [] (by kernel_rfl) ?_
         obtain ⟨z_12, hz, hpr⟩ := bind_inv hp
         clear hp
         refine SL.cutAt 4 (fun a w => A 57 1 fx [(0, vs 0), (1, vi .i64 i_2), (5, vp 1 0), (46, vb z_12)] [.rd 5 R_T_api_Attribute db_1, .blk 39 (C_api_Attribute x_3 (.s 2)), .rd 1 R8 x_3.Value] a w) ?_ ?_
         · have hp := hz
           rcases Bool.eq_false_or_eq_true (x_10) with hg_11 | hg_11
           · replace hp := if_t hp hg_11
             refine SL.yes rfl rfl hg_11 ?_
             refine SL.sim tk 1 [(0, vs 0), (1, vi .i64 i_2), (5, vp 1 0), (42, vb x_10), (43, vs 0)] [] [] [] (by kernel_rfl) ?_
             refine SL.yes rfl rfl hg_11 ?_
             refine SL.sim tk 1 [(0, vs 0), (1, vi .i64 i_2), (5, vp 1 0), (42, vb x_10), (43, vs 0), (44, vi .i64 i_2)] [] [] [] (by kernel_rfl) ?_
             refine SL.yes rfl rfl hg_11 ?_
             obtain ⟨x_20, e_x_20, hp⟩ := bind_inv hp
             refine SL.eff (e_c Try.call70 (ok_wirelessref43_charWrong F db_1 i_2 _ e_x_20) [.g 0] [vs 0, vi .i64 i_2] (vb x_20) (by kernel_rfl) (.inl rfl)) rfl (by kernel_rfl) ?_
             refine SL.pickt rfl hg_11 rfl rfl ?_
             refine SL.nilJ fun a w h => ?_
             obtain rfl := some_inv' hp
             exact h.at (js := [.g 0, .g 1, .g 2]) (by kernel_rfl)
           · replace hp := if_f hp hg_11
             refine SL.no rfl rfl hg_11 rfl ?_
             refine SL.no rfl rfl hg_11 rfl ?_
             refine SL.no rfl rfl hg_11 rfl ?_
             refine SL.pickf rfl hg_11 rfl rfl ?_
             refine SL.nilJ fun a w h => ?_
             obtain rfl := some_inv' hp
             exact h.at (js := [.g 0, .g 1, .g 2]) (by kernel_rfl)
         · intro a w h
           have hp := hpr; clear hpr hz
           refine h.goL ?_
           refine SL.sim tk 1 [(0, vs 0), (1, vi .i64 i_2), (5, vp 1 0), (47, vb z_12)] [] [] [] (by kernel_rfl) ?_
           obtain ⟨z_14, hz, hpr⟩ := bind_inv hp
           clear hp
           refine SL.cutAt 9 (fun a w => A 57 1 fx [(56, vb z_14)] [.gone] a w) ?_ ?_
           · have hp := hz
             rcases Bool.eq_false_or_eq_true (z_12) with hg_13 | hg_13
             · replace hp := if_t hp hg_13
               refine SL.no rfl rfl hg_13 rfl ?_
               refine SL.no rfl rfl hg_13 rfl ?_
               refine SL.no rfl rfl hg_13 rfl ?_
               refine SL.no rfl rfl hg_13 rfl ?_
               refine SL.noU rfl rfl rfl ?_
               refine SL.noU rfl rfl rfl ?_
               refine SL.noU rfl rfl rfl ?_
               refine SL.no rfl rfl hg_13 rfl ?_
               refine SL.pickt rfl hg_13 rfl rfl ?_
               refine SL.nilJ fun a w h => ?_
               obtain rfl := some_inv' hp
               exact h.at (js := [.g 0]) (by kernel_rfl)
             · replace hp := if_f hp hg_13
               refine SL.yes rfl rfl hg_13 ?_
               refine SL.sim tk 1 [(0, vs 0), (1, vi .i64 i_2), (47, vb z_12), (48, vp 1 1)] [] [] [] (by kernel_rfl) ?_
               refine SL.yes rfl rfl hg_13 ?_
               refine SL.sim tk 1 [(0, vs 0), (1, vi .i64 i_2), (47, vb z_12), (49, .g (C_api_UUID x_3.f_Type))] [] [] [] (by kernel_rfl) ?_
               refine SL.yes rfl rfl hg_13 ?_
               obtain ⟨x_16, e_x_16, hp⟩ := bind_inv hp
               refine SL.eff (e_c Try.call71 (ok_wirelessref43_Is F x_3.f_Type 10498 _ e_x_16) [] [.g (C_api_UUID x_3.f_Type), vi .u16 10498] (vb x_16) (by kernel_rfl) (.inl rfl)) rfl (by kernel_rfl) ?_
               refine SL.yes rfl rfl hg_13 ?_
               refine SL.sim tk 1 [(0, vs 0), (1, vi .i64 i_2), (47, vb z_12), (51, vb x_16)] [] [] [] (by kernel_rfl) ?_
               rcases Bool.eq_false_or_eq_true (x_16) with hg_17 | hg_17
               · replace hp := if_t hp hg_17
                 refine SL.yes rfl rfl hg_17 ?_
                 refine SL.sim tk 1 [(1, vi .i64 i_2), (47, vb z_12), (51, vb x_16), (52, vs 0)] [] [] [] (by kernel_rfl) ?_
                 refine SL.yes rfl rfl hg_17 ?_
                 refine SL.sim tk 1 [(47, vb z_12), (51, vb x_16), (52, vs 0), (53, vi .i64 i_2)] [] [] [] (by kernel_rfl) ?_
                 refine SL.yes rfl rfl hg_17 ?_
                 obtain ⟨x_18, e_x_18, hp⟩ := bind_inv hp
                 refine SL.eff (e_c Try.call72 (ok_wirelessref43_configWrong F db_1 i_2 _ e_x_18) [.g 0] [vs 0, vi .i64 i_2] (vb x_18) (by kernel_rfl) (.inl rfl)) rfl (by kernel_rfl) ?_
                 refine SL.norm (itsN := [.rd 5 R_T_api_Attribute db_1, .blk 39 (C_api_Attribute x_3 (.s 2)), .rd 1 R8 x_3.Value]) (by kernel_rfl) ?_
                 refine SL.yes rfl rfl hg_13 ?_
                 refine SL.pickt rfl hg_17 rfl rfl ?_
                 refine SL.pickf rfl hg_13 rfl rfl ?_
                 refine SL.nilJ fun a w h => ?_
                 obtain rfl := some_inv' hp
                 exact h.at (js := [.g 0]) (by kernel_rfl)
               · replace hp := if_f hp hg_17
                 refine SL.no rfl rfl hg_17 rfl ?_
                 refine SL.no rfl rfl hg_17 rfl ?_
                 refine SL.no rfl rfl hg_17 rfl ?_
                 refine SL.yes rfl rfl hg_13 ?_
                 refine SL.pickf rfl hg_17 rfl rfl ?_
                 refine SL.pickf rfl hg_13 rfl rfl ?_
                 refine SL.nilJ fun a w h => ?_
                 obtain rfl := some_inv' hp
                 exact h.at (js := [.g 0]) (by kernel_rfl)
           · intro a w h
             have hp := hpr; clear hpr hz
             refine h.goL ?_
             refine SL.sim tk 1 [(4, vb z_14)] [] [] [] (by kernel_rfl) ?_
             refine SL.nilThen ?_
             obtain rfl := some_inv' hp
             exact SC.re (js := [.g 0]) tk (by kernel_rfl)

theorem ok_wirelessref43_Check (F : Nat) (db_1 : (List T_api_Attribute)) (r : Int) (hp : wirelessref43_Check F db_1 = some r) : Spec Try.prog 13 [vs 0] [.rd 5 R_T_api_Attribute db_1] (vi .i64 r) [.gone] := by
 refine Spec.enter Try.func13 rfl Try.ntmps13 rfl rfl fun fx => ?_
 refine SC.r tk [(0, vs 0)] [] [] [] (by kernel_rfl) ?_
 refine SC.seq ?_
 refine SC.r tk [(0, vs 0), (7, vb (decide ((len db_1) > 1000)))] [] [] [] (by kernel_rfl) ?_
 refine SC.if' rfl hp (fun hp => ?_) (fun hp => ?_)
 · refine SC.r tk [(2, vi .i64 4)] [] [] [] (by kernel_rfl) ?_
   obtain rfl := some_inv' hp
   exact SC.re (js := [.g 0]) tk (by kernel_rfl)
 · refine SC.skipThen ?_
   refine SC.r tk [(0, vs 0), (3, vi .u16 0)] [] [] [] (by kernel_rfl) ?_
   refine SC.cut (fun a w => wirelessref43_Check_j1 F = some r ∧ A 50 1 fx [] [.gone] a w) ?_ ?_
   · refine SC.r tk [(0, vs 0), (3, vi .u16 0), (4, vi .i64 0)] [] [] [] (by kernel_rfl) ?_
     refine SC.block ?_
     obtain ⟨o1, hi1, ho1⟩ := bind_inv hp
     clear hp
     refine SC.loop (fun n a w => ∃ (x_2 : Int) (x_3 : Int), iter (fun s => wirelessref43_Check_l1 F db_1 s.1 s.2) n (x_2, x_3) = some o1 ∧ A 50 1 fx [(0, vs 0), (3, vi .u16 x_2), (4, vi .i64 x_3)] [.rd 5 R_T_api_Attribute db_1] a w) F (fun a w h => ⟨0, 0, hi1, h.at (js := [.g 0]) (by kernel_rfl)⟩) ?_
     rintro n1 a w ⟨x_2, x_3, hi1, h⟩
     obtain ⟨n1, q1, rfl, hp, hs1⟩ := iter_inv hi1
     replace hp : wirelessref43_Check_l1 F db_1 x_2 x_3 = some q1 := hp
     clear hi1
     refine h.go ?_
     refine SC.seq ?_
     refine SC.r tk [(0, vs 0), (3, vi .u16 x_2), (4, vi .i64 x_3), (11, vb (decide (x_3 < (len db_1))))] [] [] [] (by kernel_rfl) ?_
     refine SC.if' rfl hp (fun hp => ?_) (fun hp => ?_)
     · refine SC.skipThen ?_
       refine SC.seq ?_
       refine SC.block ?_
       refine SC.seq ?_
       obtain ⟨x_4, e_x_4, hp⟩ := bind_inv hp
       refine SC.pre (pre_ix (i := 0) (iv := x_3) (sz := 5) (R := R_T_api_Attribute) (l := db_1) (by kernel_rfl) rfl e_x_4) ?_
       refine SC.r tk [(0, vs 0), (4, vi .i64 x_3), (20, vb (decide (x_4.Handle ≤ x_2)))] [] [.el 1] [x_3] (by kernel_rfl) ?_
       refine SC.if' rfl hp (fun hp => ?_) (fun hp => ?_)
       · refine SC.r tk [(2, vi .i64 13)] [] [] [] (by kernel_rfl) ?_
         have ho := done_inv hp hs1
         replace hp := ho1
         try rw [ho] at hp
         obtain rfl := some_inv' hp
         exact SC.re (js := [.g 0]) tk (by kernel_rfl)
       · refine SC.skipThen ?_
         refine SC.seq ?_
         refine SC.seq ?_
         refine SC.reg ?_
         obtain ⟨x_5, e_x_5, hp⟩ := bind_inv hp
         refine SL.pre (pre_ix (i := 0) (iv := x_3) (sz := 5) (R := R_T_api_Attribute) (l := db_1) (by kernel_rfl) rfl e_x_5) ?_
         refine SL.sim tk 7 [(0, vs 0), (4, vi .i64 x_3), (27, vb (decide (x_5.Perms < 0)))] [] [.el 3] [x_3] (by kernel_rfl) ?_
         obtain ⟨z_7, hz, hpr⟩ := bind_inv hp
         clear hp
         refine SL.cutAt 7 (fun a w => A 50 1 fx [(0, vs 0), (4, vi .i64 x_3), (34, vb z_7)] [.rd 5 R_T_api_Attribute db_1] a w) ?_ ?_
         · have hp := hz
           rcases Bool.eq_false_or_eq_true (decide (x_5.Perms < 0)) with hg_6 | hg_6
           · replace hp := if_t hp hg_6
             refine SL.no rfl rfl hg_6 rfl ?_
             refine SL.no rfl rfl hg_6 rfl ?_
             refine SL.no rfl rfl hg_6 rfl ?_
             refine SL.no rfl rfl hg_6 rfl ?_
             refine SL.no rfl rfl hg_6 rfl ?_
             refine SL.no rfl rfl hg_6 rfl ?_
             refine SL.pickt rfl hg_6 rfl rfl ?_
             refine SL.nilJ fun a w h => ?_
             obtain rfl := some_inv' hp
             exact h.at (js := [.g 0]) (by kernel_rfl)
           · replace hp := if_f hp hg_6
             refine SL.yes rfl rfl hg_6 ?_
             refine SL.sim tk 1 [(0, vs 0), (4, vi .i64 x_3), (27, vb (decide (x_5.Perms < 0))), (28, vs 0)] [] [] [] (by kernel_rfl) ?_
             refine SL.yes rfl rfl hg_6 ?_
             refine SL.sim tk 1 [(0, vs 0), (4, vi .i64 x_3), (27, vb (decide (x_5.Perms < 0))), (28, vs 0), (29, vi .i64 x_3)] [] [] [] (by kernel_rfl) ?_
             refine SL.yes rfl rfl hg_6 ?_
             obtain ⟨x_12, e_x_12, hp⟩ := bind_inv hp
             refine SL.pre (pre_ix (i := 0) (iv := x_3) (sz := 5) (R := R_T_api_Attribute) (l := db_1) (by kernel_rfl) rfl e_x_12) ?_
             refine SL.sim tk 1 [(0, vs 0), (4, vi .i64 x_3), (27, vb (decide (x_5.Perms < 0))), (28, vs 0), (29, vi .i64 x_3), (30, vp 5 0)] [] [.el 5] [x_3] (by kernel_rfl) ?_
             refine SL.yes rfl rfl hg_6 ?_
             refine SL.sim tk 1 [(0, vs 0), (4, vi .i64 x_3), (27, vb (decide (x_5.Perms < 0))), (28, vs 0), (29, vi .i64 x_3), (30, vp 5 0), (31, vp 5 3)] [] [] [] (by kernel_rfl) ?_
             refine SL.yes rfl rfl hg_6 ?_
             refine SL.sim tk 1 [(0, vs 0), (4, vi .i64 x_3), (27, vb (decide (x_5.Perms < 0))), (28, vs 0), (29, vi .i64 x_3), (30, vp 5 0), (31, vp 5 3), (32, vi .i64 x_12.Perms)] [] [] [] (by kernel_rfl) ?_
             refine SL.yes rfl rfl hg_6 ?_
             refine SL.sim tk 1 [(0, vs 0), (4, vi .i64 x_3), (27, vb (decide (x_5.Perms < 0))), (28, vs 0), (29, vi .i64 x_3), (30, vp 5 0), (31, vp 5 3), (32, vi .i64 x_12.Perms), (33, vb (decide (x_12.Perms > 15)))] [] [] [] (by kernel_rfl) ?_
             refine SL.pickf rfl hg_6 rfl rfl ?_
             refine SL.nilJ fun a w h => ?_
             obtain rfl := some_inv' hp
             exact h.at (js := [.g 0]) (by kernel_rfl)
         · intro a w h
           have hp := hpr; clear hpr hz
           refine h.goL ?_
           refine SL.nilThen ?_
           refine SC.if' rfl hp (fun hp => ?_) (fun hp => ?_)
           · refine SC.r tk [(2, vi .i64 5)] [] [] [] (by kernel_rfl) ?_
             have ho := done_inv hp hs1
             replace hp := ho1
             try rw [ho] at hp
             obtain rfl := some_inv' hp
             exact SC.re (js := [.g 0]) tk (by kernel_rfl)
           · refine SC.skipThen ?_
             refine SC.seq ?_
             obtain ⟨x_8, e_x_8, hp⟩ := bind_inv hp
             refine SC.pre (pre_ix (i := 0) (iv := x_3) (sz := 5) (R := R_T_api_Attribute) (l := db_1) (by kernel_rfl) rfl e_x_8) ?_
             refine SC.r tk [(0, vs 0), (4, vi .i64 x_3), (41, vb (decide ((len x_8.Value) > 512)))] [] [.el 1] [x_3] (by kernel_rfl) ?_
             refine SC.if' rfl hp (fun hp => ?_) (fun hp => ?_)
             · refine SC.r tk [(2, vi .i64 4)] [] [] [] (by kernel_rfl) ?_
               have ho := done_inv hp hs1
               replace hp := ho1
               try rw [ho] at hp
               obtain rfl := some_inv' hp
               exact SC.re (js := [.g 0]) tk (by kernel_rfl)
             · refine SC.skipThen ?_
               refine SC.seq ?_
               refine SC.seq ?_
               refine SC.reg ?_
               refine SL.sim tk 2 [(0, vs 0), (4, vi .i64 x_3), (42, vs 0), (43, vi .i64 x_3)] [] [] [] (by kernel_rfl) ?_
               obtain ⟨x_9, e_x_9, hp⟩ := bind_inv hp
               refine SL.eff (e_c Try.call38 (ok_wirelessref43_wrong F db_1 x_3 _ e_x_9) [.g 0] [vs 0, vi .i64 x_3] (vb x_9) (by kernel_rfl) (.inl rfl)) rfl (by kernel_rfl) ?_
               refine SL.nilThen ?_
               refine SC.if' rfl hp (fun hp => ?_) (fun hp => ?_)
               · refine SC.r tk [(2, vi .i64 1)] [] [] [] (by kernel_rfl) ?_
                 have ho := done_inv hp hs1
                 replace hp := ho1
                 try rw [ho] at hp
                 obtain rfl := some_inv' hp
                 exact SC.re (js := [.g 0]) tk (by kernel_rfl)
               · refine SC.skipThen ?_
                 refine SC.reg ?_
                 obtain ⟨x_10, e_x_10, hp⟩ := bind_inv hp
                 refine SL.pre (pre_ix (i := 0) (iv := x_3) (sz := 5) (R := R_T_api_Attribute) (l := db_1) (by kernel_rfl) rfl e_x_10) ?_
                 refine SL.sim tk 6 [(0, vs 0), (3, vi .u16 x_10.Handle), (4, vi .i64 x_3)] [] [.el 3] [x_3] (by kernel_rfl) ?_
                 refine SL.nilThen ?_
                 refine SC.reg ?_
                 refine SL.sim tk 3 [(0, vs 0), (3, vi .u16 x_10.Handle), (4, vi .i64 (w64 (x_3 + 1)))] [] [] [] (by kernel_rfl) ?_
                 refine SL.nilJ fun a w h => ?_
                 exact ⟨n1, Nat.lt_succ_self _, x_10.Handle, w64 (x_3 + 1), next_inv hp hs1, h.at (js := [.g 0]) (by kernel_rfl)⟩
     · refine SC.exitJ rfl fun a w h => ?_
       have ho := done_inv hp hs1
       replace hp := ho1
       try rw [ho] at hp
       exact ⟨hp, h.at (js := [.g 0]) (by kernel_rfl)⟩
   · rintro a w ⟨hp, h⟩
     refine h.go ?_
     refine SC.r tk [(2, vi .i64 0)] [] [] [] (by kernel_rfl) ?_
     obtain rfl := some_inv' hp
     exact SC.re (js := [.g 0]) tk (by kernel_rfl)

theorem ok_wirelesslaw43_fine (F : Nat) (db_1 : (List T_api_Attribute)) (r : Bool) (hp : wirelesslaw43_fine F db_1 = some r) : Spec Try.prog 19 [vs 0] [.rd 5 R_T_api_Attribute db_1] (vb r) [.gone] := by
 refine Spec.enter Try.func19 rfl Try.ntmps19 rfl rfl fun fx => ?_
 refine SC.r tk [(0, vs 0)] [] [] [] (by kernel_rfl) ?_
 refine SC.seq ?_
 refine SC.reg ?_
 refine SL.sim tk 4 [(0, vs 0), (6, vb (decide ((len db_1) ≤ 100)))] [] [] [] (by kernel_rfl) ?_
 obtain ⟨z_3, hz, hpr⟩ := bind_inv hp
 clear hp
 refine SL.cutAt 3 (fun a w => A 15 1 fx [(0, vs 0), (9, vb z_3)] [.rd 5 R_T_api_Attribute db_1] a w) ?_ ?_
 · have hp := hz
   rcases Bool.eq_false_or_eq_true (decide ((len db_1) ≤ 100)) with hg_2 | hg_2
   · replace hp := if_t hp hg_2
     refine SL.yes rfl rfl hg_2 ?_
     refine SL.sim tk 1 [(0, vs 0), (6, vb (decide ((len db_1) ≤ 100))), (7, vs 0)] [] [] [] (by kernel_rfl) ?_
     refine SL.yes rfl rfl hg_2 ?_
     obtain ⟨x_9, e_x_9, hp⟩ := bind_inv hp
     refine SL.eff (e_c Try.call10 (ok_wirelesslaw43_light F db_1 _ e_x_9) [.g 0] [vs 0] (vb x_9) (by kernel_rfl) (.inl rfl)) rfl (by kernel_rfl) ?_
     refine SL.pickt rfl hg_2 rfl rfl ?_
     refine SL.nilJ fun a w h => ?_
     obtain rfl := some_inv' hp
     exact h.at (js := [.g 0]) (by kernel_rfl)
   · replace hp := if_f hp hg_2
     refine SL.no rfl rfl hg_2 rfl ?_
     refine SL.no rfl rfl hg_2 rfl ?_
     refine SL.pickf rfl hg_2 rfl rfl ?_
     refine SL.nilJ fun a w h => ?_
     obtain rfl := some_inv' hp
     exact h.at (js := [.g 0]) (by kernel_rfl)
 · intro a w h
   have hp := hpr; clear hpr hz
   refine h.goL ?_
   refine SL.sim tk 1 [(0, vs 0), (10, vb z_3)] [] [] [] (by kernel_rfl) ?_
   obtain ⟨z_5, hz, hpr⟩ := bind_inv hp
   clear hp
   refine SL.cutAt 4 (fun a w => A 15 1 fx [(14, vb z_5)] [.gone] a w) ?_ ?_
   · have hp := hz
     rcases Bool.eq_false_or_eq_true (z_3) with hg_4 | hg_4
     · replace hp := if_t hp hg_4
       refine SL.yes rfl rfl hg_4 ?_
       refine SL.sim tk 1 [(10, vb z_3), (11, vs 0)] [] [] [] (by kernel_rfl) ?_
       refine SL.yes rfl rfl hg_4 ?_
       obtain ⟨x_7, e_x_7, hp⟩ := bind_inv hp
       refine SL.eff (e_c Try.call13 (ok_wirelessref43_Check F db_1 _ e_x_7) [.g 0] [vs 0] (vi .i64 x_7) (by kernel_rfl) (.inl rfl)) rfl (by kernel_rfl) ?_
       refine SL.yes rfl rfl hg_4 ?_
       refine SL.sim tk 1 [(10, vb z_3), (13, vb (x_7 == 0))] [] [] [] (by kernel_rfl) ?_
       refine SL.pickt rfl hg_4 rfl rfl ?_
       refine SL.nilJ fun a w h => ?_
       obtain rfl := some_inv' hp
       exact h.at (js := [.g 0]) (by kernel_rfl)
     · replace hp := if_f hp hg_4
       refine SL.no rfl rfl hg_4 rfl ?_
       refine SL.no rfl rfl hg_4 rfl ?_
       refine SL.no rfl rfl hg_4 rfl ?_
       refine SL.pickf rfl hg_4 rfl rfl ?_
       refine SL.nilJ fun a w h => ?_
       obtain rfl := some_inv' hp
       exact h.at (js := [.g 0]) (by kernel_rfl)
   · intro a w h
     have hp := hpr; clear hpr hz
     refine h.goL ?_
     refine SL.sim tk 1 [(2, vb z_5)] [] [] [] (by kernel_rfl) ?_
     refine SL.nilThen ?_
     obtain rfl := some_inv' hp
     exact SC.re (js := [.g 0]) tk (by kernel_rfl)

theorem ok_wirelesslaw43_sample (F : Nat) (r : (List T_api_Service)) (hp : wirelesslaw43_sample F = some r) : Spec Try.prog 32 [] [] (vs 0) [.rd 4 R_T_api_Service r] := by
 refine Spec.enter Try.func32 rfl Try.ntmps32 rfl rfl fun fx => ?_
 refine SC.r tk [] [] [] [] (by kernel_rfl) ?_
 refine SC.seq ?_
 refine SC.reg ?_
 obtain ⟨x_1, e_x_1, hp⟩ := bind_inv hp
 refine SL.eff (e_c Try.call34 (ok_wirelessref41_Short F 6145 _ e_x_1) [] [vi .u16 6145] (.g (C_api_UUID x_1)) (by kernel_rfl) (.inl rfl)) rfl (by kernel_rfl) ?_
 obtain ⟨x_2, e_x_2, hp⟩ := bind_inv hp
 refine SL.eff (e_c Try.call34 (ok_wirelessref41_Short F 10757 _ e_x_2) [] [vi .u16 10757] (.g (C_api_UUID x_2)) (by kernel_rfl) (.inl rfl)) rfl (by kernel_rfl) ?_
 refine SL.norm (itsN := []) (by kernel_rfl) ?_
 refine SL.sim tk 1 [(1, .g (C_api_UUID x_1)), (3, .g (C_api_Char (T_api_Char.mk x_2 32 0 [] []) nl nl))] [] [] [] (by kernel_rfl) ?_
 refine SL.eff (e_lit (sz := 6) (E := 48) (R := R_T_api_Char) (by_ := 80) tk [(C_api_Char (T_api_Char.mk x_2 32 0 [] []) nl nl)] [(T_api_Char.mk x_2 32 0 [] [])] (by kernel_rfl) ⟨(clo_T_api_Char (x := (T_api_Char.mk x_2 32 0 [] [])) (Clo.nl _ rfl) (Clo.nl _ rfl)), trivial⟩ rfl (by kernel_rfl) (by kernel_rfl)) rfl (by kernel_rfl) ?_
 refine SL.sim tk 1 [(5, .g [ci .u64 x_1.High, ci .u64 x_1.Low, cb true, .s 0])] [] [] [] (by kernel_rfl) ?_
 refine SL.pre (pre_frz (i := 0) (sz := 6) (E := 48) (R := R_T_api_Char) (l := [(T_api_Char.mk x_2 32 0 [] [])]) (by kernel_rfl)) ?_
 refine SL.eff (e_lit (sz := 4) (E := 46) (R := R_T_api_Service) (by_ := 48) tk [[ci .u64 x_1.High, ci .u64 x_1.Low, cb true, .s 0]] [(T_api_Service.mk x_1 true [(T_api_Char.mk x_2 32 0 [] [])])] (by kernel_rfl) ⟨(clo_T_api_Service (x := (T_api_Service.mk x_1 true [(T_api_Char.mk x_2 32 0 [] [])])) (Clo.sl (by kernel_rfl))), trivial⟩ rfl (by kernel_rfl) (by kernel_rfl)) rfl (by kernel_rfl) ?_
 refine SL.sim tk 1 [(0, vs 1)] [] [] [] (by kernel_rfl) ?_
 refine SL.nilThen ?_
 obtain rfl := some_inv' hp
 exact SC.re (js := [.z 1]) tk (by kernel_rfl)

theorem ok_uuid_bytes (F : Nat) (u_1 : T_api_UUID) (r : (Int × Int × Int × Int × Int × Int × Int × Int × Int × Int × Int × Int × Int × Int × Int × Int)) (hp : uuid_bytes F u_1 = some r) : Spec Try.prog 74 [.g (C_api_UUID u_1)] [] (.g [ci .u8 r.1, ci .u8 r.2.1, ci .u8 r.2.2.1, ci .u8 r.2.2.2.1, ci .u8 r.2.2.2.2.1, ci .u8 r.2.2.2.2.2.1, ci .u8 r.2.2.2.2.2.2.1, ci .u8 r.2.2.2.2.2.2.2.1, ci .u8 r.2.2.2.2.2.2.2.2.1, ci .u8 r.2.2.2.2.2.2.2.2.2.1, ci .u8 r.2.2.2.2.2.2.2.2.2.2.1, ci .u8 r.2.2.2.2.2.2.2.2.2.2.2.1, ci .u8 r.2.2.2.2.2.2.2.2.2.2.2.2.1, ci .u8 r.2.2.2.2.2.2.2.2.2.2.2.2.2.1, ci .u8 r.2.2.2.2.2.2.2.2.2.2.2.2.2.2.1, ci .u8 r.2.2.2.2.2.2.2.2.2.2.2.2.2.2.2]) [] := by
 refine Spec.enter Try.func74 rfl Try.ntmps74 rfl rfl fun fx => ?_
 refine SC.seq ?_
 refine SC.reg ?_
 refine SL.eff (e_box (E := 36) (C_api_UUID u_1) (by kernel_rfl)) rfl (by kernel_rfl) ?_
 refine SL.eff (e_alloc (E := 96) tk [ci .u8 0, ci .u8 0, ci .u8 0, ci .u8 0, ci .u8 0, ci .u8 0, ci .u8 0, ci .u8 0, ci .u8 0, ci .u8 0, ci .u8 0, ci .u8 0, ci .u8 0, ci .u8 0, ci .u8 0, ci .u8 0] (by kernel_rfl)) rfl (by kernel_rfl) ?_
 refine SL.nilThen ?_
 refine SC.seq ?_
 refine SC.reg ?_
 refine SL.eff (e_alloc (E := 96) tk [ci .u8 0, ci .u8 0, ci .u8 0, ci .u8 0, ci .u8 0, ci .u8 0, ci .u8 0, ci .u8 0, ci .u8 0, ci .u8 0, ci .u8 0, ci .u8 0, ci .u8 0, ci .u8 0, ci .u8 0, ci .u8 0] (by kernel_rfl)) rfl (by kernel_rfl) ?_
 refine SL.nilThen ?_
 refine SC.cut (fun a w => uuid_bytes_j1 F u_1 = some r ∧ A 27 0 fx [(2, vp 0 0), (3, vp 1 0)] [.blk 96 [ci .u8 0, ci .u8 0, ci .u8 0, ci .u8 0, ci .u8 0, ci .u8 0, ci .u8 0, ci .u8 0, ci .u8 0, ci .u8 0, ci .u8 0, ci .u8 0, ci .u8 0, ci .u8 0, ci .u8 0, ci .u8 0], .blk 96 [ci .u8 (wu8 (shrp u_1.Low 0)), ci .u8 (wu8 (shrp u_1.Low 8)), ci .u8 (wu8 (shrp u_1.Low 16)), ci .u8 (wu8 (shrp u_1.Low 24)), ci .u8 (wu8 (shrp u_1.Low 32)), ci .u8 (wu8 (shrp u_1.Low 40)), ci .u8 (wu8 (shrp u_1.Low 48)), ci .u8 (wu8 (shrp u_1.Low 56)), ci .u8 (wu8 (shrp u_1.High 0)), ci .u8 (wu8 (shrp u_1.High 8)), ci .u8 (wu8 (shrp u_1.High 16)), ci .u8 (wu8 (shrp u_1.High 24)), ci .u8 (wu8 (shrp u_1.High 32)), ci .u8 (wu8 (shrp u_1.High 40)), ci .u8 (wu8 (shrp u_1.High 48)), ci .u8 (wu8 (shrp u_1.High 56))]] a w) ?_ ?_
 · refine SC.r tk [(1, vp 0 0), (2, vp 1 0), (3, vp 2 0), (5, vi .i64 0)] [] [] [] (by kernel_rfl) ?_
   refine SC.block ?_
   refine SC.unr 9 ?_
   refine Rd.lay 1 (fun a w => uuid_bytes_u2_8 F u_1 = some r ∧ A 27 0 fx [(1, vp 0 0), (2, vp 1 0), (3, vp 2 0), (5, vi .i64 8)] [.blk 36 (C_api_UUID u_1), .blk 96 [ci .u8 0, ci .u8 0, ci .u8 0, ci .u8 0, ci .u8 0, ci .u8 0, ci .u8 0, ci .u8 0, ci .u8 0, ci .u8 0, ci .u8 0, ci .u8 0, ci .u8 0, ci .u8 0, ci .u8 0, ci .u8 0], .blk 96 [ci .u8 (wu8 (shrp u_1.Low 0)), ci .u8 (wu8 (shrp u_1.Low 8)), ci .u8 (wu8 (shrp u_1.Low 16)), ci .u8 (wu8 (shrp u_1.Low 24)), ci .u8 (wu8 (shrp u_1.Low 32)), ci .u8 (wu8 (shrp u_1.Low 40)), ci .u8 (wu8 (shrp u_1.Low 48)), ci .u8 (wu8 (shrp u_1.Low 56)), ci .u8 (wu8 (shrp u_1.High 0)), ci .u8 (wu8 (shrp u_1.High 8)), ci .u8 (wu8 (shrp u_1.High 16)), ci .u8 (wu8 (shrp u_1.High 24)), ci .u8 (wu8 (shrp u_1.High 32)), ci .u8 (wu8 (shrp u_1.High 40)), ci .u8 (wu8 (shrp u_1.High 48)), ci .u8 (wu8 (shrp u_1.High 56))]] a w) ?_ (fun u_2_8 => ?_)
   · rintro a w ⟨hp, h⟩
     refine h.rd ?_
     refine SC.r tk [(1, vp 0 0), (2, vp 1 0), (3, vp 2 0), (5, vi .i64 8), (6, vb false)] [] [] [] (by kernel_rfl) ?_
     refine SC.seq ?_
     refine SC.iff rfl ?_
     refine SC.exitJ rfl fun a w h => ?_
     exact ⟨hp, h.at (js := [.g 1, .g 2]) (by kernel_rfl)⟩
   · refine Rd.lay 2 (fun a w => uuid_bytes_u2_7 F u_1 = some r ∧ A 27 0 fx [(1, vp 0 0), (2, vp 1 0), (3, vp 2 0), (5, vi .i64 7)] [.blk 36 (C_api_UUID u_1), .blk 96 [ci .u8 0, ci .u8 0, ci .u8 0, ci .u8 0, ci .u8 0, ci .u8 0, ci .u8 0, ci .u8 0, ci .u8 0, ci .u8 0, ci .u8 0, ci .u8 0, ci .u8 0, ci .u8 0, ci .u8 0, ci .u8 0], .blk 96 [ci .u8 (wu8 (shrp u_1.Low 0)), ci .u8 (wu8 (shrp u_1.Low 8)), ci .u8 (wu8 (shrp u_1.Low 16)), ci .u8 (wu8 (shrp u_1.Low 24)), ci .u8 (wu8 (shrp u_1.Low 32)), ci .u8 (wu8 (shrp u_1.Low 40)), ci .u8 (wu8 (shrp u_1.Low 48)), ci .u8 0, ci .u8 (wu8 (shrp u_1.High 0)), ci .u8 (wu8 (shrp u_1.High 8)), ci .u8 (wu8 (shrp u_1.High 16)), ci .u8 (wu8 (shrp u_1.High 24)), ci .u8 (wu8 (shrp u_1.High 32)), ci .u8 (wu8 (shrp u_1.High 40)), ci .u8 (wu8 (shrp u_1.High 48)), ci .u8 0]] a w) ?_ (fun u_2_7 => ?_)
     · rintro a w ⟨hp, h⟩
       refine h.rd ?_
       refine SC.r tk [(1, vp 0 0), (2, vp 1 0), (3, vp 2 0), (5, vi .i64 7), (6, vb true)] [] [] [] (by kernel_rfl) ?_
       refine SC.seq ?_
       refine SC.ift rfl ?_
       refine SC.skipThen ?_
       refine SC.seq ?_
       refine SC.block ?_
       refine SC.r tk [(1, vp 0 0), (2, vp 1 0), (3, vp 2 0), (4, vi .i64 7), (5, vi .i64 7)] [] [] [] (by kernel_rfl) ?_
       refine SC.draw MO [true, true, false] (by kernel_rfl) fun kap_16 D_17 => ?_
       refine SD.takes tk D_17 [] kn0 [0, 1, 2, 3, 4, 5, 6, 7, 8, 9, 10, 11, 12, 13, 14] [.bin .shr .u64 u_1.Low 56 (shrp u_1.Low 56) (by kernel_rfl), .bin .shr .u64 u_1.High 56 (shrp u_1.High 56) (by kernel_rfl)] [u_1.Low, 56, u_1.High, 56] [I, I, I, I, I, I, I, I, I, I, I, I, I, I, I, O, O, O, O] [(1, vp 0 0), (2, vp 1 0), (3, vp 2 0), (5, vi .i64 7), (8, vi .i64 7), (10, vi .i64 15), (16, vi .u8 (wu8 (shrp u_1.Low 56))), (22, vi .u8 (wu8 (shrp u_1.High 56)))] rfl (by kernel_rfl) (by kernel_rfl) (by kernel_rfl) ?_
       refine SD.all1 (i := 15) (by kernel_rfl) ?_
       refine SW.eff D_17 (i := 15) (bs' := [I, I, I, I, I, I, I, I, I, I, I, I, I, I, I, I, O, O, O]) rfl (.inl rfl) rfl (e_ixa (off := 7) (T := 96) (cs := [ci .u8 (wu8 (shrp u_1.Low 0)), ci .u8 (wu8 (shrp u_1.Low 8)), ci .u8 (wu8 (shrp u_1.Low 16)), ci .u8 (wu8 (shrp u_1.Low 24)), ci .u8 (wu8 (shrp u_1.Low 32)), ci .u8 (wu8 (shrp u_1.Low 40)), ci .u8 (wu8 (shrp u_1.Low 48)), ci .u8 0, ci .u8 (wu8 (shrp u_1.High 0)), ci .u8 (wu8 (shrp u_1.High 8)), ci .u8 (wu8 (shrp u_1.High 16)), ci .u8 (wu8 (shrp u_1.High 24)), ci .u8 (wu8 (shrp u_1.High 32)), ci .u8 (wu8 (shrp u_1.High 40)), ci .u8 (wu8 (shrp u_1.High 48)), ci .u8 0]) tk rfl rfl (by kernel_rfl) (by kernel_rfl)) (by kernel_rfl) rfl (by kernel_rfl) ?_
       refine SD.all1 (i := 16) (by kernel_rfl) ?_
       refine SW.store D_17 tk (i := 16) (q := 2) (T := 96) (cs := [ci .u8 (wu8 (shrp u_1.Low 0)), ci .u8 (wu8 (shrp u_1.Low 8)), ci .u8 (wu8 (shrp u_1.Low 16)), ci .u8 (wu8 (shrp u_1.Low 24)), ci .u8 (wu8 (shrp u_1.Low 32)), ci .u8 (wu8 (shrp u_1.Low 40)), ci .u8 (wu8 (shrp u_1.Low 48)), ci .u8 (wu8 (shrp u_1.Low 56)), ci .u8 (wu8 (shrp u_1.High 0)), ci .u8 (wu8 (shrp u_1.High 8)), ci .u8 (wu8 (shrp u_1.High 16)), ci .u8 (wu8 (shrp u_1.High 24)), ci .u8 (wu8 (shrp u_1.High 32)), ci .u8 (wu8 (shrp u_1.High 40)), ci .u8 (wu8 (shrp u_1.High 48)), ci .u8 0]) (bs' := [I, I, I, I, I, I, I, I, I, I, I, I, I, I, I, I, I, O, O]) rfl (by kernel_rfl) rfl rfl (by kernel_rfl) ?_
       refine SD.norm (itsN := [.blk 36 (C_api_UUID u_1), .blk 96 [ci .u8 0, ci .u8 0, ci .u8 0, ci .u8 0, ci .u8 0, ci .u8 0, ci .u8 0, ci .u8 0, ci .u8 0, ci .u8 0, ci .u8 0, ci .u8 0, ci .u8 0, ci .u8 0, ci .u8 0, ci .u8 0], .blk 96 [ci .u8 (wu8 (shrp u_1.Low 0)), ci .u8 (wu8 (shrp u_1.Low 8)), ci .u8 (wu8 (shrp u_1.Low 16)), ci .u8 (wu8 (shrp u_1.Low 24)), ci .u8 (wu8 (shrp u_1.Low 32)), ci .u8 (wu8 (shrp u_1.Low 40)), ci .u8 (wu8 (shrp u_1.Low 48)), ci .u8 (wu8 (shrp u_1.Low 56)), ci .u8 (wu8 (shrp u_1.High 0)), ci .u8 (wu8 (shrp u_1.High 8)), ci .u8 (wu8 (shrp u_1.High 16)), ci .u8 (wu8 (shrp u_1.High 24)), ci .u8 (wu8 (shrp u_1.High 32)), ci .u8 (wu8 (shrp u_1.High 40)), ci .u8 (wu8 (shrp u_1.High 48)), ci .u8 0]]) (by kernel_rfl) ?_
       refine SD.all1 (i := 17) (by kernel_rfl) ?_
       refine SW.eff D_17 (i := 17) (bs' := [I, I, I, I, I, I, I, I, I, I, I, I, I, I, I, I, I, I, O]) rfl (.inl rfl) rfl (e_ixa (off := 15) (T := 96) (cs := [ci .u8 (wu8 (shrp u_1.Low 0)), ci .u8 (wu8 (shrp u_1.Low 8)), ci .u8 (wu8 (shrp u_1.Low 16)), ci .u8 (wu8 (shrp u_1.Low 24)), ci .u8 (wu8 (shrp u_1.Low 32)), ci .u8 (wu8 (shrp u_1.Low 40)), ci .u8 (wu8 (shrp u_1.Low 48)), ci .u8 (wu8 (shrp u_1.Low 56)), ci .u8 (wu8 (shrp u_1.High 0)), ci .u8 (wu8 (shrp u_1.High 8)), ci .u8 (wu8 (shrp u_1.High 16)), ci .u8 (wu8 (shrp u_1.High 24)), ci .u8 (wu8 (shrp u_1.High 32)), ci .u8 (wu8 (shrp u_1.High 40)), ci .u8 (wu8 (shrp u_1.High 48)), ci .u8 0]) tk rfl rfl (by kernel_rfl) (by kernel_rfl)) (by kernel_rfl) rfl (by kernel_rfl) ?_
       refine SD.all1 (i := 18) (by kernel_rfl) ?_
       refine SW.store D_17 tk (i := 18) (q := 2) (T := 96) (cs := [ci .u8 (wu8 (shrp u_1.Low 0)), ci .u8 (wu8 (shrp u_1.Low 8)), ci .u8 (wu8 (shrp u_1.Low 16)), ci .u8 (wu8 (shrp u_1.Low 24)), ci .u8 (wu8 (shrp u_1.Low 32)), ci .u8 (wu8 (shrp u_1.Low 40)), ci .u8 (wu8 (shrp u_1.Low 48)), ci .u8 (wu8 (shrp u_1.Low 56)), ci .u8 (wu8 (shrp u_1.High 0)), ci .u8 (wu8 (shrp u_1.High 8)), ci .u8 (wu8 (shrp u_1.High 16)), ci .u8 (wu8 (shrp u_1.High 24)), ci .u8 (wu8 (shrp u_1.High 32)), ci .u8 (wu8 (shrp u_1.High 40)), ci .u8 (wu8 (shrp u_1.High 48)), ci .u8 (wu8 (shrp u_1.High 56))]) (bs' := [I, I, I, I, I, I, I, I, I, I, I, I, I, I, I, I, I, I, I]) rfl (by kernel_rfl) rfl rfl (by kernel_rfl) ?_
       refine SD.norm (itsN := [.blk 36 (C_api_UUID u_1), .blk 96 [ci .u8 0, ci .u8 0, ci .u8 0, ci .u8 0, ci .u8 0, ci .u8 0, ci .u8 0, ci .u8 0, ci .u8 0, ci .u8 0, ci .u8 0, ci .u8 0, ci .u8 0, ci .u8 0, ci .u8 0, ci .u8 0], .blk 96 [ci .u8 (wu8 (shrp u_1.Low 0)), ci .u8 (wu8 (shrp u_1.Low 8)), ci .u8 (wu8 (shrp u_1.Low 16)), ci .u8 (wu8 (shrp u_1.Low 24)), ci .u8 (wu8 (shrp u_1.Low 32)), ci .u8 (wu8 (shrp u_1.Low 40)), ci .u8 (wu8 (shrp u_1.Low 48)), ci .u8 (wu8 (shrp u_1.Low 56)), ci .u8 (wu8 (shrp u_1.High 0)), ci .u8 (wu8 (shrp u_1.High 8)), ci .u8 (wu8 (shrp u_1.High 16)), ci .u8 (wu8 (shrp u_1.High 24)), ci .u8 (wu8 (shrp u_1.High 32)), ci .u8 (wu8 (shrp u_1.High 40)), ci .u8 (wu8 (shrp u_1.High 48)), ci .u8 (wu8 (shrp u_1.High 56))]]) (by kernel_rfl) ?_
       refine SD.doneThen (by kernel_rfl) ?_
       refine SC.reg ?_
       refine SL.sim tk 2 [(1, vp 0 0), (2, vp 1 0), (3, vp 2 0), (5, vi .i64 8)] [] [] [] (by kernel_rfl) ?_
       refine SL.nilJ fun a w h => ?_
       exact u_2_8 a w ⟨hp, h.at (js := [.g 0, .g 1, .g 2]) (by kernel_rfl)⟩
     · refine Rd.lay 3 (fun a w => uuid_bytes_u2_6 F u_1 = some r ∧ A 27 0 fx [(1, vp 0 0), (2, vp 1 0), (3, vp 2 0), (5, vi .i64 6)] [.blk 36 (C_api_UUID u_1), .blk 96 [ci .u8 0, ci .u8 0, ci .u8 0, ci .u8 0, ci .u8 0, ci .u8 0, ci .u8 0, ci .u8 0, ci .u8 0, ci .u8 0, ci .u8 0, ci .u8 0, ci .u8 0, ci .u8 0, ci .u8 0, ci .u8 0], .blk 96 [ci .u8 (wu8 (shrp u_1.Low 0)), ci .u8 (wu8 (shrp u_1.Low 8)), ci .u8 (wu8 (shrp u_1.Low 16)), ci .u8 (wu8 (shrp u_1.Low 24)), ci .u8 (wu8 (shrp u_1.Low 32)), ci .u8 (wu8 (shrp u_1.Low 40)), ci .u8 0, ci .u8 0, ci .u8 (wu8 (shrp u_1.High 0)), ci .u8 (wu8 (shrp u_1.High 8)), ci .u8 (wu8 (shrp u_1.High 16)), ci .u8 (wu8 (shrp u_1.High 24)), ci .u8 (wu8 (shrp u_1.High 32)), ci .u8 (wu8 (shrp u_1.High 40)), ci .u8 0, ci .u8 0]] a w) ?_ (fun u_2_6 => ?_)
       · rintro a w ⟨hp, h⟩
         refine h.rd ?_
         refine SC.r tk [(1, vp 0 0), (2, vp 1 0), (3, vp 2 0), (5, vi .i64 6), (6, vb true)] [] [] [] (by kernel_rfl) ?_
         refine SC.seq ?_
         refine SC.ift rfl ?_
         refine SC.skipThen ?_
         refine SC.seq ?_
         refine SC.block ?_
         refine SC.r tk [(1, vp 0 0), (2, vp 1 0), (3, vp 2 0), (4, vi .i64 6), (5, vi .i64 6)] [] [] [] (by kernel_rfl) ?_
         refine SC.draw MO [true, true, false] (by kernel_rfl) fun kap_14 D_15 => ?_
         refine SD.takes tk D_15 [] kn0 [0, 1, 2, 3, 4, 5, 6, 7, 8, 9, 10, 11, 12, 13, 14] [.bin .shr .u64 u_1.Low 48 (shrp u_1.Low 48) (by kernel_rfl), .bin .shr .u64 u_1.High 48 (shrp u_1.High 48) (by kernel_rfl)] [u_1.Low, 48, u_1.High, 48] [I, I, I, I, I, I, I, I, I, I, I, I, I, I, I, O, O, O, O] [(1, vp 0 0), (2, vp 1 0), (3, vp 2 0), (5, vi .i64 6), (8, vi .i64 6), (10, vi .i64 14), (16, vi .u8 (wu8 (shrp u_1.Low 48))), (22, vi .u8 (wu8 (shrp u_1.High 48)))] rfl (by kernel_rfl) (by kernel_rfl) (by kernel_rfl) ?_
         refine SD.all1 (i := 15) (by kernel_rfl) ?_
         refine SW.eff D_15 (i := 15) (bs' := [I, I, I, I, I, I, I, I, I, I, I, I, I, I, I, I, O, O, O]) rfl (.inl rfl) rfl (e_ixa (off := 6) (T := 96) (cs := [ci .u8 (wu8 (shrp u_1.Low 0)), ci .u8 (wu8 (shrp u_1.Low 8)), ci .u8 (wu8 (shrp u_1.Low 16)), ci .u8 (wu8 (shrp u_1.Low 24)), ci .u8 (wu8 (shrp u_1.Low 32)), ci .u8 (wu8 (shrp u_1.Low 40)), ci .u8 0, ci .u8 0, ci .u8 (wu8 (shrp u_1.High 0)), ci .u8 (wu8 (shrp u_1.High 8)), ci .u8 (wu8 (shrp u_1.High 16)), ci .u8 (wu8 (shrp u_1.High 24)), ci .u8 (wu8 (shrp u_1.High 32)), ci .u8 (wu8 (shrp u_1.High 40)), ci .u8 0, ci .u8 0]) tk rfl rfl (by kernel_rfl) (by kernel_rfl)) (by kernel_rfl) rfl (by kernel_rfl) ?_
         refine SD.all1 (i := 16) (by kernel_rfl) ?_
         refine SW.store D_15 tk (i := 16) (q := 2) (T := 96) (cs := [ci .u8 (wu8 (shrp u_1.Low 0)), ci .u8 (wu8 (shrp u_1.Low 8)), ci .u8 (wu8 (shrp u_1.Low 16)), ci .u8 (wu8 (shrp u_1.Low 24)), ci .u8 (wu8 (shrp u_1.Low 32)), ci .u8 (wu8 (shrp u_1.Low 40)), ci .u8 (wu8 (shrp u_1.Low 48)), ci .u8 0, ci .u8 (wu8 (shrp u_1.High 0)), ci .u8 (wu8 (shrp u_1.High 8)), ci .u8 (wu8 (shrp u_1.High 16)), ci .u8 (wu8 (shrp u_1.High 24)), ci .u8 (wu8 (shrp u_1.High 32)), ci .u8 (wu8 (shrp u_1.High 40)), ci .u8 0, ci .u8 0]) (bs' := [I, I, I, I, I, I, I, I, I, I, I, I, I, I, I, I, I, O, O]) rfl (by kernel_rfl) rfl rfl (by kernel_rfl) ?_
         refine SD.norm (itsN := [.blk 36 (C_api_UUID u_1), .blk 96 [ci .u8 0, ci .u8 0, ci .u8 0, ci .u8 0, ci .u8 0, ci .u8 0, ci .u8 0, ci .u8 0, ci .u8 0, ci .u8 0, ci .u8 0, ci .u8 0, ci .u8 0, ci .u8 0, ci .u8 0, ci .u8 0], .blk 96 [ci .u8 (wu8 (shrp u_1.Low 0)), ci .u8 (wu8 (shrp u_1.Low 8)), ci .u8 (wu8 (shrp u_1.Low 16)), ci .u8 (wu8 (shrp u_1.Low 24)), ci .u8 (wu8 (shrp u_1.Low 32)), ci .u8 (wu8 (shrp u_1.Low 40)), ci .u8 (wu8 (shrp u_1.Low 48)), ci .u8 0, ci .u8 (wu8 (shrp u_1.High 0)), ci .u8 (wu8 (shrp u_1.High 8)), ci .u8 (wu8 (shrp u_1.High 16)), ci .u8 (wu8 (shrp u_1.High 24)), ci .u8 (wu8 (shrp u_1.High 32)), ci .u8 (wu8 (shrp u_1.High 40)), ci .u8 0, ci .u8 0]]) (by kernel_rfl) ?_
         refine SD.all1 (i := 17) (by kernel_rfl) ?_
         refine SW.eff D_15 (i := 17) (bs' := [I, I, I, I, I, I, I, I, I, I, I, I, I, I, I, I, I, I, O]) rfl (.inl rfl) rfl (e_ixa (off := 14) (T := 96) (cs := [ci .u8 (wu8 (shrp u_1.Low 0)), ci .u8 (wu8 (shrp u_1.Low 8)), ci .u8 (wu8 (shrp u_1.Low 16)), ci .u8 (wu8 (shrp u_1.Low 24)), ci .u8 (wu8 (shrp u_1.Low 32)), ci .u8 (wu8 (shrp u_1.Low 40)), ci .u8 (wu8 (shrp u_1.Low 48)), ci .u8 0, ci .u8 (wu8 (shrp u_1.High 0)), ci .u8 (wu8 (shrp u_1.High 8)), ci .u8 (wu8 (shrp u_1.High 16)), ci .u8 (wu8 (shrp u_1.High 24)), ci .u8 (wu8 (shrp u_1.High 32)), ci .u8 (wu8 (shrp u_1.High 40)), ci .u8 0, ci .u8 0]) tk rfl rfl (by kernel_rfl) (by kernel_rfl)) (by kernel_rfl) rfl (by kernel_rfl) ?_
         refine SD.all1 (i := 18) (by kernel_rfl) ?_
         refine SW.store D_15 tk (i := 18) (q := 2) (T := 96) (cs := [ci .u8 (wu8 (shrp u_1.Low 0)), ci .u8 (wu8 (shrp u_1.Low 8)), ci .u8 (wu8 (shrp u_1.Low 16)), ci .u8 (wu8 (shrp u_1.Low 24)), ci .u8 (wu8 (shrp u_1.Low 32)), ci .u8 (wu8 (shrp u_1.Low 40)), ci .u8 (wu8 (shrp u_1.Low 48)), ci .u8 0, ci .u8 (wu8 (shrp u_1.High 0)), ci .u8 (wu8 (shrp u_1.High 8)), ci .u8 (wu8 (shrp u_1.High 16)), ci .u8 (wu8 (shrp u_1.High 24)), ci .u8 (wu8 (shrp u_1.High 32)), ci .u8 (wu8 (shrp u_1.High 40)), ci .u8 (wu8 (shrp u_1.High 48)), ci .u8 0]) (bs' := [I, I, I, I, I, I, I, I, I, I, I, I, I, I, I, I, I, I, I]) rfl (by kernel_rfl) rfl rfl (by kernel_rfl) ?_
         refine SD.norm (itsN := [.blk 36 (C_api_UUID u_1), .blk 96 [ci .u8 0, ci .u8 0, ci .u8 0, ci .u8 0, ci .u8 0, ci .u8 0, ci .u8 0, ci .u8 0, ci .u8 0, ci .u8 0, ci .u8 0, ci .u8 0, ci .u8 0, ci .u8 0, ci .u8 0, ci .u8 0], .blk 96 [ci .u8 (wu8 (shrp u_1.Low 0)), ci .u8 (wu8 (shrp u_1.Low 8)), ci .u8 (wu8 (shrp u_1.Low 16)), ci .u8 (wu8 (shrp u_1.Low 24)), ci .u8 (wu8 (shrp u_1.Low 32)), ci .u8 (wu8 (shrp u_1.Low 40)), ci .u8 (wu8 (shrp u_1.Low 48)), ci .u8 0, ci .u8 (wu8 (shrp u_1.High 0)), ci .u8 (wu8 (shrp u_1.High 8)), ci .u8 (wu8 (shrp u_1.High 16)), ci .u8 (wu8 (shrp u_1.High 24)), ci .u8 (wu8 (shrp u_1.High 32)), ci .u8 (wu8 (shrp u_1.High 40)), ci .u8 (wu8 (shrp u_1.High 48)), ci .u8 0]]) (by kernel_rfl) ?_
         refine SD.doneThen (by kernel_rfl) ?_
         refine SC.reg ?_
         refine SL.sim tk 2 [(1, vp 0 0), (2, vp 1 0), (3, vp 2 0), (5, vi .i64 7)] [] [] [] (by kernel_rfl) ?_
         refine SL.nilJ fun a w h => ?_
         exact u_2_7 a w ⟨hp, h.at (js := [.g 0, .g 1, .g 2]) (by kernel_rfl)⟩
       · refine Rd.lay 4 (fun a w => uuid_bytes_u2_5 F u_1 = some r ∧ A 27 0 fx [(1, vp 0 0), (2, vp 1 0), (3, vp 2 0), (5, vi .i64 5)] [.blk 36 (C_api_UUID u_1), .blk 96 [ci .u8 0, ci .u8 0, ci .u8 0, ci .u8 0, ci .u8 0, ci .u8 0, ci .u8 0, ci .u8 0, ci .u8 0, ci .u8 0, ci .u8 0, ci .u8 0, ci .u8 0, ci .u8 0, ci .u8 0, ci .u8 0], .blk 96 [ci .u8 (wu8 (shrp u_1.Low 0)), ci .u8 (wu8 (shrp u_1.Low 8)), ci .u8 (wu8 (shrp u_1.Low 16)), ci .u8 (wu8 (shrp u_1.Low 24)), ci .u8 (wu8 (shrp u_1.Low 32)), ci .u8 0, ci .u8 0, ci .u8 0, ci .u8 (wu8 (shrp u_1.High 0)), ci .u8 (wu8 (shrp u_1.High 8)), ci .u8 (wu8 (shrp u_1.High 16)), ci .u8 (wu8 (shrp u_1.High 24)), ci .u8 (wu8 (shrp u_1.High 32)), ci .u8 0, ci .u8 0, ci .u8 0]] a w) ?_ (fun u_2_5 => ?_)
         · rintro a w ⟨hp, h⟩
           refine h.rd ?_
           refine SC.r tk [(1, vp 0 0), (2, vp 1 0), (3, vp 2 0), (5, vi .i64 5), (6, vb true)] [] [] [] (by kernel_rfl) ?_
           refine SC.seq ?_
           refine SC.ift rfl ?_
           refine SC.skipThen ?_
           refine SC.seq ?_
           refine SC.block ?_
           refine SC.r tk [(1, vp 0 0), (2, vp 1 0), (3, vp 2 0), (4, vi .i64 5), (5, vi .i64 5)] [] [] [] (by kernel_rfl) ?_
           refine SC.draw MO [true, true, false] (by kernel_rfl) fun kap_12 D_13 => ?_
           refine SD.takes tk D_13 [] kn0 [0, 1, 2, 3, 4, 5, 6, 7, 8, 9, 10, 11, 12, 13, 14] [.bin .shr .u64 u_1.Low 40 (shrp u_1.Low 40) (by kernel_rfl), .bin .shr .u64 u_1.High 40 (shrp u_1.High 40) (by kernel_rfl)] [u_1.Low, 40, u_1.High, 40] [I, I, I, I, I, I, I, I, I, I, I, I, I, I, I, O, O, O, O] [(1, vp 0 0), (2, vp 1 0), (3, vp 2 0), (5, vi .i64 5), (8, vi .i64 5), (10, vi .i64 13), (16, vi .u8 (wu8 (shrp u_1.Low 40))), (22, vi .u8 (wu8 (shrp u_1.High 40)))] rfl (by kernel_rfl) (by kernel_rfl) (by kernel_rfl) ?_
           refine SD.all1 (i := 15) (by kernel_rfl) ?_
           refine SW.eff D_13 (i := 15) (bs' := [I, I, I, I, I, I, I, I, I, I, I, I, I, I, I, I, O, O, O]) rfl (.inl rfl) rfl (e_ixa (off := 5) (T := 96) (cs := [ci .u8 (wu8 (shrp u_1.Low 0)), ci .u8 (wu8 (shrp u_1.Low 8)), ci .u8 (wu8 (shrp u_1.Low 16)), ci .u8 (wu8 (shrp u_1.Low 24)), ci .u8 (wu8 (shrp u_1.Low 32)), ci .u8 0, ci .u8 0, ci .u8 0, ci .u8 (wu8 (shrp u_1.High 0)), ci .u8 (wu8 (shrp u_1.High 8)), ci .u8 (wu8 (shrp u_1.High 16)), ci .u8 (wu8 (shrp u_1.High 24)), ci .u8 (wu8 (shrp u_1.High 32)), ci .u8 0, ci .u8 0, ci .u8 0]) tk rfl rfl (by kernel_rfl) (by kernel_rfl)) (by kernel_rfl) rfl (by kernel_rfl) ?_
           refine SD.all1 (i := 16) (by kernel_rfl) ?_
           refine SW.store D_13 tk (i := 16) (q := 2) (T := 96) (cs := [ci .u8 (wu8 (shrp u_1.Low 0)), ci .u8 (wu8 (shrp u_1.Low 8)), ci .u8 (wu8 (shrp u_1.Low 16)), ci .u8 (wu8 (shrp u_1.Low 24)), ci .u8 (wu8 (shrp u_1.Low 32)), ci .u8 (wu8 (shrp u_1.Low 40)), ci .u8 0, ci .u8 0, ci .u8 (wu8 (shrp u_1.High 0)), ci .u8 (wu8 (shrp u_1.High 8)), ci .u8 (wu8 (shrp u_1.High 16)), ci .u8 (wu8 (shrp u_1.High 24)), ci .u8 (wu8 (shrp u_1.High 32)), ci .u8 0, ci .u8 0, ci .u8 0]) (bs' := [I, I, I, I, I, I, I, I, I, I, I, I, I, I, I, I, I, O, O]) rfl (by kernel_rfl) rfl rfl (by kernel_rfl) ?_
           refine SD.norm (itsN := [.blk 36 (C_api_UUID u_1), .blk 96 [ci .u8 0, ci .u8 0, ci .u8 0, ci .u8 0, ci .u8 0, ci .u8 0, ci .u8 0, ci .u8 0, ci .u8 0, ci .u8 0, ci .u8 0, ci .u8 0, ci .u8 0, ci .u8 0, ci .u8 0, ci .u8 0], .blk 96 [ci .u8 (wu8 (shrp u_1.Low 0)), ci .u8 (wu8 (shrp u_1.Low 8)), ci .u8 (wu8 (shrp u_1.Low 16)), ci .u8 (wu8 (shrp u_1.Low 24)), ci .u8 (wu8 (shrp u_1.Low 32)), ci .u8 (wu8 (shrp u_1.Low 40)), ci .u8 0, ci .u8 0, ci .u8 (wu8 (shrp u_1.High 0)), ci .u8 (wu8 (shrp u_1.High 8)), ci .u8 (wu8 (shrp u_1.High 16)), ci .u8 (wu8 (shrp u_1.High 24)), ci .u8 (wu8 (shrp u_1.High 32)), ci .u8 0, ci .u8 0, ci .u8 0]]) (by kernel_rfl) ?_
           refine SD.all1 (i := 17) (by kernel_rfl) ?_
           refine SW.eff D_13 (i := 17) (bs' := [I, I, I, I, I, I, I, I, I, I, I, I, I, I, I, I, I, I, O]) rfl (.inl rfl) rfl (e_ixa (off := 13) (T := 96) (cs := [ci .u8 (wu8 (shrp u_1.Low 0)), ci .u8 (wu8 (shrp u_1.Low 8)), ci .u8 (wu8 (shrp u_1.Low 16)), ci .u8 (wu8 (shrp u_1.Low 24)), ci .u8 (wu8 (shrp u_1.Low 32)), ci .u8 (wu8 (shrp u_1.Low 40)), ci .u8 0, ci .u8 0, ci .u8 (wu8 (shrp u_1.High 0)), ci .u8 (wu8 (shrp u_1.High 8)), ci .u8 (wu8 (shrp u_1.High 16)), ci .u8 (wu8 (shrp u_1.High 24)), ci .u8 (wu8 (shrp u_1.High 32)), ci .u8 0, ci .u8 0, ci .u8 0]) tk rfl rfl (by kernel_rfl) (by kernel_rfl)) (by kernel_rfl) rfl (by kernel_rfl) ?_
           refine SD.all1 (i := 18) (by kernel_rfl) ?_
           refine SW.store D_13 tk (i := 18) (q := 2) (T := 96) (cs := [ci .u8 (wu8 (shrp u_1.Low 0)), ci .u8 (wu8 (shrp u_1.Low 8)), ci .u8 (wu8 (shrp u_1.Low 16)), ci .u8 (wu8 (shrp u_1.Low 24)), ci .u8 (wu8 (shrp u_1.Low 32)), ci .u8 (wu8 (shrp u_1.Low 40)), ci .u8 0, ci .u8 0, ci .u8 (wu8 (shrp u_1.High 0)), ci .u8 (wu8 (shrp u_1.High 8)), ci .u8 (wu8 (shrp u_1.High 16)), ci .u8 (wu8 (shrp u_1.High 24)), ci .u8 (wu8 (shrp u_1.High 32)), ci .u8 (wu8 (shrp u_1.High 40)), ci .u8 0, ci .u8 0]) (bs' := [I, I, I, I, I, I, I, I, I, I, I, I, I, I, I, I, I, I, I]) rfl (by kernel_rfl) rfl rfl (by kernel_rfl) ?_
           refine SD.norm (itsN := [.blk 36 (C_api_UUID u_1), .blk 96 [ci .u8 0, ci .u8 0, ci .u8 0, ci .u8 0, ci .u8 0, ci .u8 0, ci .u8 0, ci .u8 0, ci .u8 0, ci .u8 0, ci .u8 0, ci .u8 0, ci .u8 0, ci .u8 0, ci .u8 0, ci .u8 0], .blk 96 [ci .u8 (wu8 (shrp u_1.Low 0)), ci .u8 (wu8 (shrp u_1.Low 8)), ci .u8 (wu8 (shrp u_1.Low 16)), ci .u8 (wu8 (shrp u_1.Low 24)), ci .u8 (wu8 (shrp u_1.Low 32)), ci .u8 (wu8 (shrp u_1.Low 40)), ci .u8 0, ci .u8 0, ci .u8 (wu8 (shrp u_1.High 0)), ci .u8 (wu8 (shrp u_1.High 8)), ci .u8 (wu8 (shrp u_1.High 16)), ci .u8 (wu8 (shrp u_1.High 24)), ci .u8 (wu8 (shrp u_1.High 32)), ci .u8 (wu8 (shrp u_1.High 40)), ci .u8 0, ci .u8 0]]) (by kernel_rfl) ?_
           refine SD.doneThen (by kernel_rfl) ?_
           refine SC.reg ?_
           refine SL.sim tk 2 [(1, vp 0 0), (2, vp 1 0), (3, vp 2 0), (5, vi .i64 6)] [] [] [] (by kernel_rfl) ?_
           refine SL.nilJ fun a w h => ?_
           exact u_2_6 a w ⟨hp, h.at (js := [.g 0, .g 1, .g 2]) (by kernel_rfl)⟩
         · refine Rd.lay 5 (fun a w => uuid_bytes_u2_4 F u_1 = some r ∧ A 27 0 fx [(1, vp 0 0), (2, vp 1 0), (3, vp 2 0), (5, vi .i64 4)] [.blk 36 (C_api_UUID u_1), .blk 96 [ci .u8 0, ci .u8 0, ci .u8 0, ci .u8 0, ci .u8 0, ci .u8 0, ci .u8 0, ci .u8 0, ci .u8 0, ci .u8 0, ci .u8 0, ci .u8 0, ci .u8 0, ci .u8 0, ci .u8 0, ci .u8 0], .blk 96 [ci .u8 (wu8 (shrp u_1.Low 0)), ci .u8 (wu8 (shrp u_1.Low 8)), ci .u8 (wu8 (shrp u_1.Low 16)), ci .u8 (wu8 (shrp u_1.Low 24)), ci .u8 0, ci .u8 0, ci .u8 0, ci .u8 0, ci .u8 (wu8 (shrp u_1.High 0)), ci .u8 (wu8 (shrp u_1.High 8)), ci .u8 (wu8 (shrp u_1.High 16)), ci .u8 (wu8 (shrp u_1.High 24)), ci .u8 0, ci .u8 0, ci .u8 0, ci .u8 0]] a w) ?_ (fun u_2_4 => ?_)
           · rintro a w ⟨hp, h⟩
             refine h.rd ?_
             refine SC.r tk [(1, vp 0 0), (2, vp 1 0), (3, vp 2 0), (5, vi .i64 4), (6, vb true)] [] [] [] (by kernel_rfl) ?_
             refine SC.seq ?_
             refine SC.ift rfl ?_
             refine SC.skipThen ?_
             refine SC.seq ?_
             refine SC.block ?_
             refine SC.r tk [(1, vp 0 0), (2, vp 1 0), (3, vp 2 0), (4, vi .i64 4), (5, vi .i64 4)] [] [] [] (by kernel_rfl) ?_
             refine SC.draw MO [true, true, false] (by kernel_rfl) fun kap_10 D_11 => ?_
             refine SD.takes tk D_11 [] kn0 [0, 1, 2, 3, 4, 5, 6, 7, 8, 9, 10, 11, 12, 13, 14] [.bin .shr .u64 u_1.Low 32 (shrp u_1.Low 32) (by kernel_rfl), .bin .shr .u64 u_1.High 32 (shrp u_1.High 32) (by kernel_rfl)] [u_1.Low, 32, u_1.High, 32] [I, I, I, I, I, I, I, I, I, I, I, I, I, I, I, O, O, O, O] [(1, vp 0 0), (2, vp 1 0), (3, vp 2 0), (5, vi .i64 4), (8, vi .i64 4), (10, vi .i64 12), (16, vi .u8 (wu8 (shrp u_1.Low 32))), (22, vi .u8 (wu8 (shrp u_1.High 32)))] rfl (by kernel_rfl) (by kernel_rfl) (by kernel_rfl) ?_
             refine SD.all1 (i := 15) (by kernel_rfl) ?_
             refine SW.eff D_11 (i := 15) (bs' := [I, I, I, I, I, I, I, I, I, I, I, I, I, I, I, I, O, O, O]) rfl (.inl rfl) rfl (e_ixa (off := 4) (T := 96) (cs := [ci .u8 (wu8 (shrp u_1.Low 0)), ci .u8 (wu8 (shrp u_1.Low 8)), ci .u8 (wu8 (shrp u_1.Low 16)), ci .u8 (wu8 (shrp u_1.Low 24)), ci .u8 0, ci .u8 0, ci .u8 0, ci .u8 0, ci .u8 (wu8 (shrp u_1.High 0)), ci .u8 (wu8 (shrp u_1.High 8)), ci .u8 (wu8 (shrp u_1.High 16)), ci .u8 (wu8 (shrp u_1.High 24)), ci .u8 0, ci .u8 0, ci .u8 0, ci .u8 0]) tk rfl rfl (by kernel_rfl) (by kernel_rfl)) (by kernel_rfl) rfl (by kernel_rfl) ?_
             refine SD.all1 (i := 16) (by kernel_rfl) ?_
             refine SW.store D_11 tk (i := 16) (q := 2) (T := 96) (cs := [ci .u8 (wu8 (shrp u_1.Low 0)), ci .u8 (wu8 (shrp u_1.Low 8)), ci .u8 (wu8 (shrp u_1.Low 16)), ci .u8 (wu8 (shrp u_1.Low 24)), ci .u8 (wu8 (shrp u_1.Low 32)), ci .u8 0, ci .u8 0, ci .u8 0, ci .u8 (wu8 (shrp u_1.High 0)), ci .u8 (wu8 (shrp u_1.High 8)), ci .u8 (wu8 (shrp u_1.High 16)), ci .u8 (wu8 (shrp u_1.High 24)), ci .u8 0, ci .u8 0, ci .u8 0, ci .u8 0]) (bs' := [I, I, I, I, I, I, I, I, I, I, I, I, I, I, I, I, I, O, O]) rfl (by kernel_rfl) rfl rfl (by kernel_rfl) ?_
             refine SD.norm (itsN := [.blk 36 (C_api_UUID u_1), .blk 96 [ci .u8 0, ci .u8 0, ci .u8 0, ci .u8 0, ci .u8 0, ci .u8 0, ci .u8 0, ci .u8 0, ci .u8 0, ci .u8 0, ci .u8 0, ci .u8 0, ci .u8 0, ci .u8 0, ci .u8 0, ci .u8 0], .blk 96 [ci .u8 (wu8 (shrp u_1.Low 0)), ci .u8 (wu8 (shrp u_1.Low 8)), ci .u8 (wu8 (shrp u_1.Low 16)), ci .u8 (wu8 (shrp u_1.Low 24)), ci .u8 (wu8 (shrp u_1.Low 32)), ci .u8 0, ci .u8 0, ci .u8 0, ci .u8 (wu8 (shrp u_1.High 0)), ci .u8 (wu8 (shrp u_1.High 8)), ci .u8 (wu8 (shrp u_1.High 16)), ci .u8 (wu8 (shrp u_1.High 24)), ci .u8 0, ci .u8 0, ci .u8 0, ci .u8 0]]) (by kernel_rfl) ?_
             refine SD.all1 (i := 17) (by kernel_rfl) ?_
             refine SW.eff D_11 (i := 17) (bs' := [I, I, I, I, I, I, I, I, I, I, I, I, I, I, I, I, I, I, O]) rfl (.inl rfl) rfl (e_ixa (off := 12) (T := 96) (cs := [ci .u8 (wu8 (shrp u_1.Low 0)), ci .u8 (wu8 (shrp u_1.Low 8)), ci .u8 (wu8 (shrp u_1.Low 16)), ci .u8 (wu8 (shrp u_1.Low 24)), ci .u8 (wu8 (shrp u_1.Low 32)), ci .u8 0, ci .u8 0, ci .u8 0, ci .u8 (wu8 (shrp u_1.High 0)), ci .u8 (wu8 (shrp u_1.High 8)), ci .u8 (wu8 (shrp u_1.High 16)), ci .u8 (wu8 (shrp u_1.High 24)), ci .u8 0, ci .u8 0, ci .u8 0, ci .u8 0]) tk rfl rfl (by kernel_rfl) (by kernel_rfl)) (by kernel_rfl) rfl (by kernel_rfl) ?_
             refine SD.all1 (i := 18) (by kernel_rfl) ?_
             refine SW.store D_11 tk (i := 18) (q := 2) (T := 96) (cs := [ci .u8 (wu8 (shrp u_1.Low 0)), ci .u8 (wu8 (shrp u_1.Low 8)), ci .u8 (wu8 (shrp u_1.Low 16)), ci .u8 (wu8 (shrp u_1.Low 24)), ci .u8 (wu8 (shrp u_1.Low 32)), ci .u8 0, ci .u8 0, ci .u8 0, ci .u8 (wu8 (shrp u_1.High 0)), ci .u8 (wu8 (shrp u_1.High 8)), ci .u8 (wu8 (shrp u_1.High 16)), ci .u8 (wu8 (shrp u_1.High 24)), ci .u8 (wu8 (shrp u_1.High 32)), ci .u8 0, ci .u8 0, ci .u8 0]) (bs' := [I, I, I, I, I, I, I, I, I, I, I, I, I, I, I, I, I, I, I]) rfl (by kernel_rfl) rfl rfl (by kernel_rfl) ?_
             refine SD.norm (itsN := [.blk 36 (C_api_UUID u_1), .blk 96 [ci .u8 0, ci .u8 0, ci .u8 0, ci .u8 0, ci .u8 0, ci .u8 0, ci .u8 0, ci .u8 0, ci .u8 0, ci .u8 0, ci .u8 0, ci .u8 0, ci .u8 0, ci .u8 0, ci .u8 0, ci .u8 0], .blk 96 [ci .u8 (wu8 (shrp u_1.Low 0)), ci .u8 (wu8 (shrp u_1.Low 8)), ci .u8 (wu8 (shrp u_1.Low 16)), ci .u8 (wu8 (shrp u_1.Low 24)), ci .u8 (wu8 (shrp u_1.Low 32)), ci .u8 0, ci .u8 0, ci .u8 0, ci .u8 (wu8 (shrp u_1.High 0)), ci .u8 (wu8 (shrp u_1.High 8)), ci .u8 (wu8 (shrp u_1.High 16)), ci .u8 (wu8 (shrp u_1.High 24)), ci .u8 (wu8 (shrp u_1.High 32)), ci .u8 0, ci .u8 0, ci .u8 0]]) (by kernel_rfl) ?_
             refine SD.doneThen (by kernel_rfl) ?_
             refine SC.reg ?_
             refine SL.sim tk 2 [(1, vp 0 0), (2, vp 1 0), (3, vp 2 0), (5, vi .i64 5)] [] [] [] (by kernel_rfl) ?_
             refine SL.nilJ fun a w h => ?_
             exact u_2_5 a w ⟨hp, h.at (js := [.g 0, .g 1, .g 2]) (by kernel_rfl)⟩
           · refine Rd.lay 6 (fun a w => uuid_bytes_u2_3 F u_1 = some r ∧ A 27 0 fx [(1, vp 0 0), (2, vp 1 0), (3, vp 2 0), (5, vi .i64 3)] [.blk 36 (C_api_UUID u_1), .blk 96 [ci .u8 0, ci .u8 0, ci .u8 0, ci .u8 0, ci .u8 0, ci .u8 0, ci .u8 0, ci .u8 0, ci .u8 0, ci .u8 0, ci .u8 0, ci .u8 0, ci .u8 0, ci .u8 0, ci .u8 0, ci .u8 0], .blk 96 [ci .u8 (wu8 (shrp u_1.Low 0)), ci .u8 (wu8 (shrp u_1.Low 8)), ci .u8 (wu8 (shrp u_1.Low 16)), ci .u8 0, ci .u8 0, ci .u8 0, ci .u8 0, ci .u8 0, ci .u8 (wu8 (shrp u_1.High 0)), ci .u8 (wu8 (shrp u_1.High 8)), ci .u8 (wu8 (shrp u_1.High 16)), ci .u8 0, ci .u8 0, ci .u8 0, ci .u8 0, ci .u8 0]] a w) ?_ (fun u_2_3 => ?_)
             · rintro a w ⟨hp, h⟩
               refine h.rd ?_
               refine SC.r tk [(1, vp 0 0), (2, vp 1 0), (3, vp 2 0), (5, vi .i64 3), (6, vb true)] [] [] [] (by kernel_rfl) ?_
               refine SC.seq ?_
               refine SC.ift rfl ?_
               refine SC.skipThen ?_
               refine SC.seq ?_
               refine SC.block ?_
               refine SC.r tk [(1, vp 0 0), (2, vp 1 0), (3, vp 2 0), (4, vi .i64 3), (5, vi .i64 3)] [] [] [] (by kernel_rfl) ?_
               refine SC.draw MO [true, true, false] (by kernel_rfl) fun kap_8 D_9 => ?_
               refine SD.takes tk D_9 [] kn0 [0, 1, 2, 3, 4, 5, 6, 7, 8, 9, 10, 11, 12, 13, 14] [.bin .shr .u64 u_1.Low 24 (shrp u_1.Low 24) (by kernel_rfl), .bin .shr .u64 u_1.High 24 (shrp u_1.High 24) (by kernel_rfl)] [u_1.Low, 24, u_1.High, 24] [I, I, I, I, I, I, I, I, I, I, I, I, I, I, I, O, O, O, O] [(1, vp 0 0), (2, vp 1 0), (3, vp 2 0), (5, vi .i64 3), (8, vi .i64 3), (10, vi .i64 11), (16, vi .u8 (wu8 (shrp u_1.Low 24))), (22, vi .u8 (wu8 (shrp u_1.High 24)))] rfl (by kernel_rfl) (by kernel_rfl) (by kernel_rfl) ?_
               refine SD.all1 (i := 15) (by kernel_rfl) ?_
               refine SW.eff D_9 (i := 15) (bs' := [I, I, I, I, I, I, I, I, I, I, I, I, I, I, I, I, O, O, O]) rfl (.inl rfl) rfl (e_ixa (off := 3) (T := 96) (cs := [ci .u8 (wu8 (shrp u_1.Low 0)), ci .u8 (wu8 (shrp u_1.Low 8)), ci .u8 (wu8 (shrp u_1.Low 16)), ci .u8 0, ci .u8 0, ci .u8 0, ci .u8 0, ci .u8 0, ci .u8 (wu8 (shrp u_1.High 0)), ci .u8 (wu8 (shrp u_1.High 8)), ci .u8 (wu8 (shrp u_1.High 16)), ci .u8 0, ci .u8 0, ci .u8 0, ci .u8 0, ci .u8 0]) tk rfl rfl (by kernel_rfl) (by kernel_rfl)) (by kernel_rfl) rfl (by kernel_rfl) ?_
               refine SD.all1 (i := 16) (by kernel_rfl) ?_
               refine SW.store D_9 tk (i := 16) (q := 2) (T := 96) (cs := [ci .u8 (wu8 (shrp u_1.Low 0)), ci .u8 (wu8 (shrp u_1.Low 8)), ci .u8 (wu8 (shrp u_1.Low 16)), ci .u8 (wu8 (shrp u_1.Low 24)), ci .u8 0, ci .u8 0, ci .u8 0, ci .u8 0, ci .u8 (wu8 (shrp u_1.High 0)), ci .u8 (wu8 (shrp u_1.High 8)), ci .u8 (wu8 (shrp u_1.High 16)), ci .u8 0, ci .u8 0, ci .u8 0, ci .u8 0, ci .u8 0]) (bs' := [I, I, I, I, I, I, I, I, I, I, I, I, I, I, I, I, I, O, O]) rfl (by kernel_rfl) rfl rfl (by kernel_rfl) ?_
               refine SD.norm (itsN := [.blk 36 (C_api_UUID u_1), .blk 96 [ci .u8 0, ci .u8 0, ci .u8 0, ci .u8 0, ci .u8 0, ci .u8 0, ci .u8 0, ci .u8 0, ci .u8 0, ci .u8 0, ci .u8 0, ci .u8 0, ci .u8 0, ci .u8 0, ci .u8 0, ci .u8 0], .blk 96 [ci .u8 (wu8 (shrp u_1.Low 0)), ci .u8 (wu8 (shrp u_1.Low 8)), ci .u8 (wu8 (shrp u_1.Low 16)), ci .u8 (wu8 (shrp u_1.Low 24)), ci .u8 0, ci .u8 0, ci .u8 0, ci .u8 0, ci .u8 (wu8 (shrp u_1.High 0)), ci .u8 (wu8 (shrp u_1.High 8)), ci .u8 (wu8 (shrp u_1.High 16)), ci .u8 0, ci .u8 0, ci .u8 0, ci .u8 0, ci .u8 0]]) (by kernel_rfl) ?_
               refine SD.all1 (i := 17) (by kernel_rfl) ?_
               refine SW.eff D_9 (i := 17) (bs' := [I, I, I, I, I, I, I, I, I, I, I, I, I, I, I, I, I, I, O]) rfl (.inl rfl) rfl (e_ixa (off := 11) (T := 96) (cs := [ci .u8 (wu8 (shrp u_1.Low 0)), ci .u8 (wu8 (shrp u_1.Low 8)), ci .u8 (wu8 (shrp u_1.Low 16)), ci .u8 (wu8 (shrp u_1.Low 24)), ci .u8 0, ci .u8 0, ci .u8 0, ci .u8 0, ci .u8 (wu8 (shrp u_1.High 0)), ci .u8 (wu8 (shrp u_1.High 8)), ci .u8 (wu8 (shrp u_1.High 16)), ci .u8 0, ci .u8 0, ci .u8 0, ci .u8 0, ci .u8 0]) tk rfl rfl (by kernel_rfl) (by kernel_rfl)) (by kernel_rfl) rfl (by kernel_rfl) ?_
               refine SD.all1 (i := 18) (by kernel_rfl) ?_
               refine SW.store D_9 tk (i := 18) (q := 2) (T := 96) (cs := [ci .u8 (wu8 (shrp u_1.Low 0)), ci .u8 (wu8 (shrp u_1.Low 8)), ci .u8 (wu8 (shrp u_1.Low 16)), ci .u8 (wu8 (shrp u_1.Low 24)), ci .u8 0, ci .u8 0, ci .u8 0, ci .u8 0, ci .u8 (wu8 (shrp u_1.High 0)), ci .u8 (wu8 (shrp u_1.High 8)), ci .u8 (wu8 (shrp u_1.High 16)), ci .u8 (wu8 (shrp u_1.High 24)), ci .u8 0, ci .u8 0, ci .u8 0, ci .u8 0]) (bs' := [I, I, I, I, I, I, I, I, I, I, I, I, I, I, I, I, I, I, I]) rfl (by kernel_rfl) rfl rfl (by kernel_rfl) ?_
               refine SD.norm (itsN := [.blk 36 (C_api_UUID u_1), .blk 96 [ci .u8 0, ci .u8 0, ci .u8 0, ci .u8 0, ci .u8 0, ci .u8 0, ci .u8 0, ci .u8 0, ci .u8 0, ci .u8 0, ci .u8 0, ci .u8 0, ci .u8 0, ci .u8 0, ci .u8 0, ci .u8 0], .blk 96 [ci .u8 (wu8 (shrp u_1.Low 0)), ci .u8 (wu8 (shrp u_1.Low 8)), ci .u8 (wu8 (shrp u_1.Low 16)), ci .u8 (wu8 (shrp u_1.Low 24)), ci .u8 0, ci .u8 0, ci .u8 0, ci .u8 0, ci .u8 (wu8 (shrp u_1.High 0)), ci .u8 (wu8 (shrp u_1.High 8)), ci .u8 (wu8 (shrp u_1.High 16)), ci .u8 (wu8 (shrp u_1.High 24)), ci .u8 0, ci .u8 0, ci .u8 0, ci .u8 0]]) (by kernel_rfl) ?_
               refine SD.doneThen (by kernel_rfl) ?_
               refine SC.reg ?_
               refine SL.sim tk 2 [(1, vp 0 0), (2, vp 1 0), (3, vp 2 0), (5, vi .i64 4)] [] [] [] (by kernel_rfl) ?_
               refine SL.nilJ fun a w h => ?_
               exact u_2_4 a w ⟨hp, h.at (js := [.g 0, .g 1, .g 2]) (by kernel_rfl)⟩
             · refine Rd.lay 7 (fun a w => uuid_bytes_u2_2 F u_1 = some r ∧ A 27 0 fx [(1, vp 0 0), (2, vp 1 0), (3, vp 2 0), (5, vi .i64 2)] [.blk 36 (C_api_UUID u_1), .blk 96 [ci .u8 0, ci .u8 0, ci .u8 0, ci .u8 0, ci .u8 0, ci .u8 0, ci .u8 0, ci .u8 0, ci .u8 0, ci .u8 0, ci .u8 0, ci .u8 0, ci .u8 0, ci .u8 0, ci .u8 0, ci .u8 0], .blk 96 [ci .u8 (wu8 (shrp u_1.Low 0)), ci .u8 (wu8 (shrp u_1.Low 8)), ci .u8 0, ci .u8 0, ci .u8 0, ci .u8 0, ci .u8 0, ci .u8 0, ci .u8 (wu8 (shrp u_1.High 0)), ci .u8 (wu8 (shrp u_1.High 8)), ci .u8 0, ci .u8 0, ci .u8 0, ci .u8 0, ci .u8 0, ci .u8 0]] a w) ?_ (fun u_2_2 => ?_)
               · rintro a w ⟨hp, h⟩
                 refine h.rd ?_
                 refine SC.r tk [(1, vp 0 0), (2, vp 1 0), (3, vp 2 0), (5, vi .i64 2), (6, vb true)] [] [] [] (by kernel_rfl) ?_
                 refine SC.seq ?_
                 refine SC.ift rfl ?_
                 refine SC.skipThen ?_
                 refine SC.seq ?_
                 refine SC.block ?_
                 refine SC.r tk [(1, vp 0 0), (2, vp 1 0), (3, vp 2 0), (4, vi .i64 2), (5, vi .i64 2)] [] [] [] (by kernel_rfl) ?_
                 refine SC.draw MO [true, true, false] (by kernel_rfl) fun kap_6 D_7 => ?_
                 refine SD.takes tk D_7 [] kn0 [0, 1, 2, 3, 4, 5, 6, 7, 8, 9, 10, 11, 12, 13, 14] [.bin .shr .u64 u_1.Low 16 (shrp u_1.Low 16) (by kernel_rfl), .bin .shr .u64 u_1.High 16 (shrp u_1.High 16) (by kernel_rfl)] [u_1.Low, 16, u_1.High, 16] [I, I, I, I, I, I, I, I, I, I, I, I, I, I, I, O, O, O, O] [(1, vp 0 0), (2, vp 1 0), (3, vp 2 0), (5, vi .i64 2), (8, vi .i64 2), (10, vi .i64 10), (16, vi .u8 (wu8 (shrp u_1.Low 16))), (22, vi .u8 (wu8 (shrp u_1.High 16)))] rfl (by kernel_rfl) (by kernel_rfl) (by kernel_rfl) ?_
                 refine SD.all1 (i := 15) (by kernel_rfl) ?_
                 refine SW.eff D_7 (i := 15) (bs' := [I, I, I, I, I, I, I, I, I, I, I, I, I, I, I, I, O, O, O]) rfl (.inl rfl) rfl (e_ixa (off := 2) (T := 96) (cs := [ci .u8 (wu8 (shrp u_1.Low 0)), ci .u8 (wu8 (shrp u_1.Low 8)), ci .u8 0, ci .u8 0, ci .u8 0, ci .u8 0, ci .u8 0, ci .u8 0, ci .u8 (wu8 (shrp u_1.High 0)), ci .u8 (wu8 (shrp u_1.High 8)), ci .u8 0, ci .u8 0, ci .u8 0, ci .u8 0, ci .u8 0, ci .u8 0]) tk rfl rfl (by kernel_rfl) (by kernel_rfl)) (by kernel_rfl) rfl (by kernel_rfl) ?_
                 refine SD.all1 (i := 16) (by kernel_rfl) ?_
                 refine SW.store D_7 tk (i := 16) (q := 2) (T := 96) (cs := [ci .u8 (wu8 (shrp u_1.Low 0)), ci .u8 (wu8 (shrp u_1.Low 8)), ci .u8 (wu8 (shrp u_1.Low 16)), ci .u8 0, ci .u8 0, ci .u8 0, ci .u8 0, ci .u8 0, ci .u8 (wu8 (shrp u_1.High 0)), ci .u8 (wu8 (shrp u_1.High 8)), ci .u8 0, ci .u8 0, ci .u8 0, ci .u8 0, ci .u8 0, ci .u8 0]) (bs' := [I, I, I, I, I, I, I, I, I, I, I, I, I, I, I, I, I, O, O]) rfl (by kernel_rfl) rfl rfl (by kernel_rfl) ?_
                 refine SD.norm (itsN := [.blk 36 (C_api_UUID u_1), .blk 96 [ci .u8 0, ci .u8 0, ci .u8 0, ci .u8 0, ci .u8 0, ci .u8 0, ci .u8 0, ci .u8 0, ci .u8 0, ci .u8 0, ci .u8 0, ci .u8 0, ci .u8 0, ci .u8 0, ci .u8 0, ci .u8 0], .blk 96 [ci .u8 (wu8 (shrp u_1.Low 0)), ci .u8 (wu8 (shrp u_1.Low 8)), ci .u8 (wu8 (shrp u_1.Low 16)), ci .u8 0, ci .u8 0, ci .u8 0, ci .u8 0, ci .u8 0, ci .u8 (wu8 (shrp u_1.High 0)), ci .u8 (wu8 (shrp u_1.High 8)), ci .u8 0, ci .u8 0, ci .u8 0, ci .u8 0, ci .u8 0, ci .u8 0]]) (by kernel_rfl) ?_
                 refine SD.all1 (i := 17) (by kernel_rfl) ?_
                 refine SW.eff D_7 (i := 17) (bs' := [I, I, I, I, I, I, I, I, I, I, I, I, I, I, I, I, I, I, O]) rfl (.inl rfl) rfl (e_ixa (off := 10) (T := 96) (cs := [ci .u8 (wu8 (shrp u_1.Low 0)), ci .u8 (wu8 (shrp u_1.Low 8)), ci .u8 (wu8 (shrp u_1.Low 16)), ci .u8 0, ci .u8 0, ci .u8 0, ci .u8 0, ci .u8 0, ci .u8 (wu8 (shrp u_1.High 0)), ci .u8 (wu8 (shrp u_1.High 8)), ci .u8 0, ci .u8 0, ci .u8 0, ci .u8 0, ci .u8 0, ci .u8 0]) tk rfl rfl (by kernel_rfl) (by kernel_rfl)) (by kernel_rfl) rfl (by kernel_rfl) ?_
                 refine SD.all1 (i := 18) (by kernel_rfl) ?_
                 refine SW.store D_7 tk (i := 18) (q := 2) (T := 96) (cs := [ci .u8 (wu8 (shrp u_1.Low 0)), ci .u8 (wu8 (shrp u_1.Low 8)), ci .u8 (wu8 (shrp u_1.Low 16)), ci .u8 0, ci .u8 0, ci .u8 0, ci .u8 0, ci .u8 0, ci .u8 (wu8 (shrp u_1.High 0)), ci .u8 (wu8 (shrp u_1.High 8)), ci .u8 (wu8 (shrp u_1.High 16)), ci .u8 0, ci .u8 0, ci .u8 0, ci .u8 0, ci .u8 0]) (bs' := [I, I, I, I, I, I, I, I, I, I, I, I, I, I, I, I, I, I, I]) rfl (by kernel_rfl) rfl rfl (by kernel_rfl) ?_
                 refine SD.norm (itsN := [.blk 36 (C_api_UUID u_1), .blk 96 [ci .u8 0, ci .u8 0, ci .u8 0, ci .u8 0, ci .u8 0, ci .u8 0, ci .u8 0, ci .u8 0, ci .u8 0, ci .u8 0, ci .u8 0, ci .u8 0, ci .u8 0, ci .u8 0, ci .u8 0, ci .u8 0], .blk 96 [ci .u8 (wu8 (shrp u_1.Low 0)), ci .u8 (wu8 (shrp u_1.Low 8)), ci .u8 (wu8 (shrp u_1.Low 16)), ci .u8 0, ci .u8 0, ci .u8 0, ci .u8 0, ci .u8 0, ci .u8 (wu8 (shrp u_1.High 0)), ci .u8 (wu8 (shrp u_1.High 8)), ci .u8 (wu8 (shrp u_1.High 16)), ci .u8 0, ci .u8 0, ci .u8 0, ci .u8 0, ci .u8 0]]) (by kernel_rfl) ?_
                 refine SD.doneThen (by kernel_rfl) ?_
                 refine SC.reg ?_
                 refine SL.sim tk 2 [(1, vp 0 0), (2, vp 1 0), (3, vp 2 0), (5, vi .i64 3)] [] [] [] (by kernel_rfl) ?_
                 refine SL.nilJ fun a w h => ?_
                 exact u_2_3 a w ⟨hp, h.at (js := [.g 0, .g 1, .g 2]) (by kernel_rfl)⟩
               · refine Rd.lay 8 (fun a w => uuid_bytes_u2_1 F u_1 = some r ∧ A 27 0 fx [(1, vp 0 0), (2, vp 1 0), (3, vp 2 0), (5, vi .i64 1)] [.blk 36 (C_api_UUID u_1), .blk 96 [ci .u8 0, ci .u8 0, ci .u8 0, ci .u8 0, ci .u8 0, ci .u8 0, ci .u8 0, ci .u8 0, ci .u8 0, ci .u8 0, ci .u8 0, ci .u8 0, ci .u8 0, ci .u8 0, ci .u8 0, ci .u8 0], .blk 96 [ci .u8 (wu8 (shrp u_1.Low 0)), ci .u8 0, ci .u8 0, ci .u8 0, ci .u8 0, ci .u8 0, ci .u8 0, ci .u8 0, ci .u8 (wu8 (shrp u_1.High 0)), ci .u8 0, ci .u8 0, ci .u8 0, ci .u8 0, ci .u8 0, ci .u8 0, ci .u8 0]] a w) ?_ (fun u_2_1 => ?_)
                 · rintro a w ⟨hp, h⟩
                   refine h.rd ?_
                   refine SC.r tk [(1, vp 0 0), (2, vp 1 0), (3, vp 2 0), (5, vi .i64 1), (6, vb true)] [] [] [] (by kernel_rfl) ?_
                   refine SC.seq ?_
                   refine SC.ift rfl ?_
                   refine SC.skipThen ?_
                   refine SC.seq ?_
                   refine SC.block ?_
                   refine SC.r tk [(1, vp 0 0), (2, vp 1 0), (3, vp 2 0), (4, vi .i64 1), (5, vi .i64 1)] [] [] [] (by kernel_rfl) ?_
                   refine SC.draw MO [true, true, false] (by kernel_rfl) fun kap_4 D_5 => ?_
                   refine SD.takes tk D_5 [] kn0 [0, 1, 2, 3, 4, 5, 6, 7, 8, 9, 10, 11, 12, 13, 14] [.bin .shr .u64 u_1.Low 8 (shrp u_1.Low 8) (by kernel_rfl), .bin .shr .u64 u_1.High 8 (shrp u_1.High 8) (by kernel_rfl)] [u_1.Low, 8, u_1.High, 8] [I, I, I, I, I, I, I, I, I, I, I, I, I, I, I, O, O, O, O] [(1, vp 0 0), (2, vp 1 0), (3, vp 2 0), (5, vi .i64 1), (8, vi .i64 1), (10, vi .i64 9), (16, vi .u8 (wu8 (shrp u_1.Low 8))), (22, vi .u8 (wu8 (shrp u_1.High 8)))] rfl (by kernel_rfl) (by kernel_rfl) (by kernel_rfl) ?_
                   refine SD.all1 (i := 15) (by kernel_rfl) ?_
                   refine SW.eff D_5 (i := 15) (bs' := [I, I, I, I, I, I, I, I, I, I, I, I, I, I, I, I, O, O, O]) rfl (.inl rfl) rfl (e_ixa (off := 1) (T := 96) (cs := [ci .u8 (wu8 (shrp u_1.Low 0)), ci .u8 0, ci .u8 0, ci .u8 0, ci .u8 0, ci .u8 0, ci .u8 0, ci .u8 0, ci .u8 (wu8 (shrp u_1.High 0)), ci .u8 0, ci .u8 0, ci .u8 0, ci .u8 0, ci .u8 0, ci .u8 0, ci .u8 0]) tk rfl rfl (by kernel_rfl) (by kernel_rfl)) (by kernel_rfl) rfl (by kernel_rfl) ?_
                   refine SD.all1 (i := 16) (by kernel_rfl) ?_
                   refine SW.store D_5 tk (i := 16) (q := 2) (T := 96) (cs := [ci .u8 (wu8 (shrp u_1.Low 0)), ci .u8 (wu8 (shrp u_1.Low 8)), ci .u8 0, ci .u8 0, ci .u8 0, ci .u8 0, ci .u8 0, ci .u8 0, ci .u8 (wu8 (shrp u_1.High 0)), ci .u8 0, ci .u8 0, ci .u8 0, ci .u8 0, ci .u8 0, ci .u8 0, ci .u8 0]) (bs' := [I, I, I, I, I, I, I, I, I, I, I, I, I, I, I, I, I, O, O]) rfl (by kernel_rfl) rfl rfl (by kernel_rfl) ?_
                   refine SD.norm (itsN := [.blk 36 (C_api_UUID u_1), .blk 96 [ci .u8 0, ci .u8 0, ci .u8 0, ci .u8 0, ci .u8 0, ci .u8 0, ci .u8 0, ci .u8 0, ci .u8 0, ci .u8 0, ci .u8 0, ci .u8 0, ci .u8 0, ci .u8 0, ci .u8 0, ci .u8 0], .blk 96 [ci .u8 (wu8 (shrp u_1.Low 0)), ci .u8 (wu8 (shrp u_1.Low 8)), ci .u8 0, ci .u8 0, ci .u8 0, ci .u8 0, ci .u8 0, ci .u8 0, ci .u8 (wu8 (shrp u_1.High 0)), ci .u8 0, ci .u8 0, ci .u8 0, ci .u8 0, ci .u8 0, ci .u8 0, ci .u8 0]]) (by kernel_rfl) ?_
                   refine SD.all1 (i := 17) (by kernel_rfl) ?_
                   refine SW.eff D_5 (i := 17) (bs' := [I, I, I, I, I, I, I, I, I, I, I, I, I, I, I, I, I, I, O]) rfl (.inl rfl) rfl (e_ixa (off := 9) (T := 96) (cs := [ci .u8 (wu8 (shrp u_1.Low 0)), ci .u8 (wu8 (shrp u_1.Low 8)), ci .u8 0, ci .u8 0, ci .u8 0, ci .u8 0, ci .u8 0, ci .u8 0, ci .u8 (wu8 (shrp u_1.High 0)), ci .u8 0, ci .u8 0, ci .u8 0, ci .u8 0, ci .u8 0, ci .u8 0, ci .u8 0]) tk rfl rfl (by kernel_rfl) (by kernel_rfl)) (by kernel_rfl) rfl (by kernel_rfl) ?_
                   refine SD.all1 (i := 18) (by kernel_rfl) ?_
                   refine SW.store D_5 tk (i := 18) (q := 2) (T := 96) (cs := [ci .u8 (wu8 (shrp u_1.Low 0)), ci .u8 (wu8 (shrp u_1.Low 8)), ci .u8 0, ci .u8 0, ci .u8 0, ci .u8 0, ci .u8 0, ci .u8 0, ci .u8 (wu8 (shrp u_1.High 0)), ci .u8 (wu8 (shrp u_1.High 8)), ci .u8 0, ci .u8 0, ci .u8 0, ci .u8 0, ci .u8 0, ci .u8 0]) (bs' := [I, I, I, I, I, I, I, I, I, I, I, I, I, I, I, I, I, I, I]) rfl (by kernel_rfl) rfl rfl (by kernel_rfl) ?_
                   refine SD.norm (itsN := [.blk 36 (C_api_UUID u_1), .blk 96 [ci .u8 0, ci .u8 0, ci .u8 0, ci .u8 0, ci .u8 0, ci .u8 0, ci .u8 0, ci .u8 0, ci .u8 0, ci .u8 0, ci .u8 0, ci .u8 0, ci .u8 0, ci .u8 0, ci .u8 0, ci .u8 0], .blk 96 [ci .u8 (wu8 (shrp u_1.Low 0)), ci .u8 (wu8 (shrp u_1.Low 8)), ci .u8 0, ci .u8 0, ci .u8 0, ci .u8 0, ci .u8 0, ci .u8 0, ci .u8 (wu8 (shrp u_1.High 0)), ci .u8 (wu8 (shrp u_1.High 8)), ci .u8 0, ci .u8 0, ci .u8 0, ci .u8 0, ci .u8 0, ci .u8 0]]) (by kernel_rfl) ?_
                   refine SD.doneThen (by kernel_rfl) ?_
                   refine SC.reg ?_
                   refine SL.sim tk 2 [(1, vp 0 0), (2, vp 1 0), (3, vp 2 0), (5, vi .i64 2)] [] [] [] (by kernel_rfl) ?_
                   refine SL.nilJ fun a w h => ?_
                   exact u_2_2 a w ⟨hp, h.at (js := [.g 0, .g 1, .g 2]) (by kernel_rfl)⟩
                 · rintro a w h
                   refine (show A 27 0 fx [(1, vp 0 0), (2, vp 1 0), (3, vp 2 0), (5, vi .i64 0)] [.blk 36 (C_api_UUID u_1), .blk 96 [ci .u8 0, ci .u8 0, ci .u8 0, ci .u8 0, ci .u8 0, ci .u8 0, ci .u8 0, ci .u8 0, ci .u8 0, ci .u8 0, ci .u8 0, ci .u8 0, ci .u8 0, ci .u8 0, ci .u8 0, ci .u8 0], .blk 96 [ci .u8 0, ci .u8 0, ci .u8 0, ci .u8 0, ci .u8 0, ci .u8 0, ci .u8 0, ci .u8 0, ci .u8 0, ci .u8 0, ci .u8 0, ci .u8 0, ci .u8 0, ci .u8 0, ci .u8 0, ci .u8 0]] a w from h.at (js := [.g 0, .g 1, .g 2]) (by kernel_rfl)).rd ?_
                   refine SC.r tk [(1, vp 0 0), (2, vp 1 0), (3, vp 2 0), (5, vi .i64 0), (6, vb true)] [] [] [] (by kernel_rfl) ?_
                   refine SC.seq ?_
                   refine SC.ift rfl ?_
                   refine SC.skipThen ?_
                   refine SC.seq ?_
                   refine SC.block ?_
                   refine SC.r tk [(1, vp 0 0), (2, vp 1 0), (3, vp 2 0), (4, vi .i64 0), (5, vi .i64 0)] [] [] [] (by kernel_rfl) ?_
                   refine SC.draw MO [true, true, false] (by kernel_rfl) fun kap_2 D_3 => ?_
                   refine SD.takes tk D_3 [] kn0 [0, 1, 2, 3, 4, 5, 6, 7, 8, 9, 10, 11, 12, 13, 14] [.bin .shr .u64 u_1.Low 0 (shrp u_1.Low 0) (by kernel_rfl), .bin .shr .u64 u_1.High 0 (shrp u_1.High 0) (by kernel_rfl)] [u_1.Low, 0, u_1.High, 0] [I, I, I, I, I, I, I, I, I, I, I, I, I, I, I, O, O, O, O] [(1, vp 0 0), (2, vp 1 0), (3, vp 2 0), (5, vi .i64 0), (8, vi .i64 0), (10, vi .i64 8), (16, vi .u8 (wu8 (shrp u_1.Low 0))), (22, vi .u8 (wu8 (shrp u_1.High 0)))] rfl (by kernel_rfl) (by kernel_rfl) (by kernel_rfl) ?_
                   refine SD.all1 (i := 15) (by kernel_rfl) ?_
                   refine SW.eff D_3 (i := 15) (bs' := [I, I, I, I, I, I, I, I, I, I, I, I, I, I, I, I, O, O, O]) rfl (.inl rfl) rfl (e_ixa (off := 0) (T := 96) (cs := [ci .u8 0, ci .u8 0, ci .u8 0, ci .u8 0, ci .u8 0, ci .u8 0, ci .u8 0, ci .u8 0, ci .u8 0, ci .u8 0, ci .u8 0, ci .u8 0, ci .u8 0, ci .u8 0, ci .u8 0, ci .u8 0]) tk rfl rfl (by kernel_rfl) (by kernel_rfl)) (by kernel_rfl) rfl (by kernel_rfl) ?_
                   refine SD.all1 (i := 16) (by kernel_rfl) ?_
                   refine SW.store D_3 tk (i := 16) (q := 2) (T := 96) (cs := [ci .u8 (wu8 (shrp u_1.Low 0)), ci .u8 0, ci .u8 0, ci .u8 0, ci .u8 0, ci .u8 0, ci .u8 0, ci .u8 0, ci .u8 0, ci .u8 0, ci .u8 0, ci .u8 0, ci .u8 0, ci .u8 0, ci .u8 0, ci .u8 0]) (bs' := [I, I, I, I, I, I, I, I, I, I, I, I, I, I, I, I, I, O, O]) rfl (by kernel_rfl) rfl rfl (by kernel_rfl) ?_
                   refine SD.norm (itsN := [.blk 36 (C_api_UUID u_1), .blk 96 [ci .u8 0, ci .u8 0, ci .u8 0, ci .u8 0, ci .u8 0, ci .u8 0, ci .u8 0, ci .u8 0, ci .u8 0, ci .u8 0, ci .u8 0, ci .u8 0, ci .u8 0, ci .u8 0, ci .u8 0, ci .u8 0], .blk 96 [ci .u8 (wu8 (shrp u_1.Low 0)), ci .u8 0, ci .u8 0, ci .u8 0, ci .u8 0, ci .u8 0, ci .u8 0, ci .u8 0, ci .u8 0, ci .u8 0, ci .u8 0, ci .u8 0, ci .u8 0, ci .u8 0, ci .u8 0, ci .u8 0]]) (by kernel_rfl) ?_
                   refine SD.all1 (i := 17) (by kernel_rfl) ?_
                   refine SW.eff D_3 (i := 17) (bs' := [I, I, I, I, I, I, I, I, I, I, I, I, I, I, I, I, I, I, O]) rfl (.inl rfl) rfl (e_ixa (off := 8) (T := 96) (cs := [ci .u8 (wu8 (shrp u_1.Low 0)), ci .u8 0, ci .u8 0, ci .u8 0, ci .u8 0, ci .u8 0, ci .u8 0, ci .u8 0, ci .u8 0, ci .u8 0, ci .u8 0, ci .u8 0, ci .u8 0, ci .u8 0, ci .u8 0, ci .u8 0]) tk rfl rfl (by kernel_rfl) (by kernel_rfl)) (by kernel_rfl) rfl (by kernel_rfl) ?_
                   refine SD.all1 (i := 18) (by kernel_rfl) ?_
                   refine SW.store D_3 tk (i := 18) (q := 2) (T := 96) (cs := [ci .u8 (wu8 (shrp u_1.Low 0)), ci .u8 0, ci .u8 0, ci .u8 0, ci .u8 0, ci .u8 0, ci .u8 0, ci .u8 0, ci .u8 (wu8 (shrp u_1.High 0)), ci .u8 0, ci .u8 0, ci .u8 0, ci .u8 0, ci .u8 0, ci .u8 0, ci .u8 0]) (bs' := [I, I, I, I, I, I, I, I, I, I, I, I, I, I, I, I, I, I, I]) rfl (by kernel_rfl) rfl rfl (by kernel_rfl) ?_
                   refine SD.norm (itsN := [.blk 36 (C_api_UUID u_1), .blk 96 [ci .u8 0, ci .u8 0, ci .u8 0, ci .u8 0, ci .u8 0, ci .u8 0, ci .u8 0, ci .u8 0, ci .u8 0, ci .u8 0, ci .u8 0, ci .u8 0, ci .u8 0, ci .u8 0, ci .u8 0, ci .u8 0], .blk 96 [ci .u8 (wu8 (shrp u_1.Low 0)), ci .u8 0, ci .u8 0, ci .u8 0, ci .u8 0, ci .u8 0, ci .u8 0, ci .u8 0, ci .u8 (wu8 (shrp u_1.High 0)), ci .u8 0, ci .u8 0, ci .u8 0, ci .u8 0, ci .u8 0, ci .u8 0, ci .u8 0]]) (by kernel_rfl) ?_
                   refine SD.doneThen (by kernel_rfl) ?_
                   refine SC.reg ?_
                   refine SL.sim tk 2 [(1, vp 0 0), (2, vp 1 0), (3, vp 2 0), (5, vi .i64 1)] [] [] [] (by kernel_rfl) ?_
                   refine SL.nilJ fun a w h => ?_
                   exact u_2_1 a w ⟨hp, h.at (js := [.g 0, .g 1, .g 2]) (by kernel_rfl)⟩
 · rintro a w ⟨hp, h⟩
   refine h.go ?_
   refine SC.r tk [(2, vp 0 0)] [(0, 96, [ci .u8 (wu8 (shrp u_1.Low 0)), ci .u8 (wu8 (shrp u_1.Low 8)), ci .u8 (wu8 (shrp u_1.Low 16)), ci .u8 (wu8 (shrp u_1.Low 24)), ci .u8 (wu8 (shrp u_1.Low 32)), ci .u8 (wu8 (shrp u_1.Low 40)), ci .u8 (wu8 (shrp u_1.Low 48)), ci .u8 (wu8 (shrp u_1.Low 56)), ci .u8 (wu8 (shrp u_1.High 0)), ci .u8 (wu8 (shrp u_1.High 8)), ci .u8 (wu8 (shrp u_1.High 16)), ci .u8 (wu8 (shrp u_1.High 24)), ci .u8 (wu8 (shrp u_1.High 32)), ci .u8 (wu8 (shrp u_1.High 40)), ci .u8 (wu8 (shrp u_1.High 48)), ci .u8 (wu8 (shrp u_1.High 56))])] [] [] (by kernel_rfl) ?_
   obtain rfl := some_inv' hp
   exact SC.re (js := []) tk (by kernel_rfl)

theorem ok_uuid_Number (F : Nat) (u_1 : T_api_UUID) (r : Int × Bool) (hp : uuid_Number F u_1 = some r) : Spec Try.prog 68 [.g (C_api_UUID u_1)] [] (.u [.inl (ci .u16 r.1), .inl (cb r.2)]) [] := by
 refine Spec.enter Try.func68 rfl Try.ntmps68 rfl rfl fun fx => ?_
 refine SC.seq ?_
 refine SC.reg ?_
 refine SL.eff (e_box (E := 36) (C_api_UUID u_1) (by kernel_rfl)) rfl (by kernel_rfl) ?_
 refine SL.sim tk 2 [(1, vp 0 0)] [] [] [] (by kernel_rfl) ?_
 refine SL.nilThen ?_
 refine SC.seq ?_
 refine SC.reg ?_
 refine SL.sim tk 1 [(6, .g (C_api_UUID u_1))] [] [] [] (by kernel_rfl) ?_
 obtain ⟨x_2, e_x_2, hp⟩ := bind_inv hp
 refine SL.eff (e_c Try.call74 (ok_uuid_bytes F u_1 _ e_x_2) [] [.g (C_api_UUID u_1)] (.g [ci .u8 x_2.1, ci .u8 x_2.2.1, ci .u8 x_2.2.2.1, ci .u8 x_2.2.2.2.1, ci .u8 x_2.2.2.2.2.1, ci .u8 x_2.2.2.2.2.2.1, ci .u8 x_2.2.2.2.2.2.2.1, ci .u8 x_2.2.2.2.2.2.2.2.1, ci .u8 x_2.2.2.2.2.2.2.2.2.1, ci .u8 x_2.2.2.2.2.2.2.2.2.2.1, ci .u8 x_2.2.2.2.2.2.2.2.2.2.2.1, ci .u8 x_2.2.2.2.2.2.2.2.2.2.2.2.1, ci .u8 x_2.2.2.2.2.2.2.2.2.2.2.2.2.1, ci .u8 x_2.2.2.2.2.2.2.2.2.2.2.2.2.2.1, ci .u8 x_2.2.2.2.2.2.2.2.2.2.2.2.2.2.2.1, ci .u8 x_2.2.2.2.2.2.2.2.2.2.2.2.2.2.2.2]) (by kernel_rfl) (.inl rfl)) rfl (by kernel_rfl) ?_
 refine SL.eff (e_alloc (E := 96) tk [ci .u8 0, ci .u8 0, ci .u8 0, ci .u8 0, ci .u8 0, ci .u8 0, ci .u8 0, ci .u8 0, ci .u8 0, ci .u8 0, ci .u8 0, ci .u8 0, ci .u8 0, ci .u8 0, ci .u8 0, ci .u8 0] (by kernel_rfl)) rfl (by kernel_rfl) ?_
 refine SL.norm (itsN := [.blk 36 (C_api_UUID u_1), .blk 96 [ci .u8 0, ci .u8 0, ci .u8 0, ci .u8 0, ci .u8 0, ci .u8 0, ci .u8 0, ci .u8 0, ci .u8 0, ci .u8 0, ci .u8 0, ci .u8 0, ci .u8 0, ci .u8 0, ci .u8 0, ci .u8 0]]) (by kernel_rfl) ?_
 refine SL.sim tk 1 [(4, vp 1 0)] [(1, 96, [ci .u8 x_2.1, ci .u8 x_2.2.1, ci .u8 x_2.2.2.1, ci .u8 x_2.2.2.2.1, ci .u8 x_2.2.2.2.2.1, ci .u8 x_2.2.2.2.2.2.1, ci .u8 x_2.2.2.2.2.2.2.1, ci .u8 x_2.2.2.2.2.2.2.2.1, ci .u8 x_2.2.2.2.2.2.2.2.2.1, ci .u8 x_2.2.2.2.2.2.2.2.2.2.1, ci .u8 x_2.2.2.2.2.2.2.2.2.2.2.1, ci .u8 x_2.2.2.2.2.2.2.2.2.2.2.2.1, ci .u8 x_2.2.2.2.2.2.2.2.2.2.2.2.2.1, ci .u8 x_2.2.2.2.2.2.2.2.2.2.2.2.2.2.1, ci .u8 x_2.2.2.2.2.2.2.2.2.2.2.2.2.2.2.1, ci .u8 x_2.2.2.2.2.2.2.2.2.2.2.2.2.2.2.2])] [] [] (by kernel_rfl) ?_
 refine SL.nilThen ?_
 refine SC.seq ?_
 refine SC.reg ?_
 refine SL.eff (e_ixa (off := 12) (T := 96) (cs := [ci .u8 x_2.1, ci .u8 x_2.2.1, ci .u8 x_2.2.2.1, ci .u8 x_2.2.2.2.1, ci .u8 x_2.2.2.2.2.1, ci .u8 x_2.2.2.2.2.2.1, ci .u8 x_2.2.2.2.2.2.2.1, ci .u8 x_2.2.2.2.2.2.2.2.1, ci .u8 x_2.2.2.2.2.2.2.2.2.1, ci .u8 x_2.2.2.2.2.2.2.2.2.2.1, ci .u8 x_2.2.2.2.2.2.2.2.2.2.2.1, ci .u8 x_2.2.2.2.2.2.2.2.2.2.2.2.1, ci .u8 x_2.2.2.2.2.2.2.2.2.2.2.2.2.1, ci .u8 x_2.2.2.2.2.2.2.2.2.2.2.2.2.2.1, ci .u8 x_2.2.2.2.2.2.2.2.2.2.2.2.2.2.2.1, ci .u8 x_2.2.2.2.2.2.2.2.2.2.2.2.2.2.2.2]) tk rfl rfl (by kernel_rfl) (by kernel_rfl)) rfl (by kernel_rfl) ?_
 refine SL.sim tk 2 [(4, vp 1 0), (10, vi .u16 (wu16 x_2.2.2.2.2.2.2.2.2.2.2.2.2.1))] [] [] [] (by kernel_rfl) ?_
 refine SL.eff (e_ixa (off := 13) (T := 96) (cs := [ci .u8 x_2.1, ci .u8 x_2.2.1, ci .u8 x_2.2.2.1, ci .u8 x_2.2.2.2.1, ci .u8 x_2.2.2.2.2.1, ci .u8 x_2.2.2.2.2.2.1, ci .u8 x_2.2.2.2.2.2.2.1, ci .u8 x_2.2.2.2.2.2.2.2.1, ci .u8 x_2.2.2.2.2.2.2.2.2.1, ci .u8 x_2.2.2.2.2.2.2.2.2.2.1, ci .u8 x_2.2.2.2.2.2.2.2.2.2.2.1, ci .u8 x_2.2.2.2.2.2.2.2.2.2.2.2.1, ci .u8 x_2.2.2.2.2.2.2.2.2.2.2.2.2.1, ci .u8 x_2.2.2.2.2.2.2.2.2.2.2.2.2.2.1, ci .u8 x_2.2.2.2.2.2.2.2.2.2.2.2.2.2.2.1, ci .u8 x_2.2.2.2.2.2.2.2.2.2.2.2.2.2.2.2]) tk rfl rfl (by kernel_rfl) (by kernel_rfl)) rfl (by kernel_rfl) ?_
 refine SL.sim tk 5 [(4, vp 1 0), (5, vi .u16 (ior .u16 (wu16 x_2.2.2.2.2.2.2.2.2.2.2.2.2.1) (shlp .u16 (wu16 x_2.2.2.2.2.2.2.2.2.2.2.2.2.2.1) 8)))] [] [.bin .shl .u16 (wu16 x_2.2.2.2.2.2.2.2.2.2.2.2.2.2.1) 8 (shlp .u16 (wu16 x_2.2.2.2.2.2.2.2.2.2.2.2.2.2.1) 8) (by kernel_rfl)] [wu16 x_2.2.2.2.2.2.2.2.2.2.2.2.2.2.1, 8] (by kernel_rfl) ?_
 refine SL.nilThen ?_
 refine SC.seq ?_
 refine SC.reg ?_
 refine SL.eff (e_ixa (off := 12) (T := 96) (cs := [ci .u8 x_2.1, ci .u8 x_2.2.1, ci .u8 x_2.2.2.1, ci .u8 x_2.2.2.2.1, ci .u8 x_2.2.2.2.2.1, ci .u8 x_2.2.2.2.2.2.1, ci .u8 x_2.2.2.2.2.2.2.1, ci .u8 x_2.2.2.2.2.2.2.2.1, ci .u8 x_2.2.2.2.2.2.2.2.2.1, ci .u8 x_2.2.2.2.2.2.2.2.2.2.1, ci .u8 x_2.2.2.2.2.2.2.2.2.2.2.1, ci .u8 x_2.2.2.2.2.2.2.2.2.2.2.2.1, ci .u8 x_2.2.2.2.2.2.2.2.2.2.2.2.2.1, ci .u8 x_2.2.2.2.2.2.2.2.2.2.2.2.2.2.1, ci .u8 x_2.2.2.2.2.2.2.2.2.2.2.2.2.2.2.1, ci .u8 x_2.2.2.2.2.2.2.2.2.2.2.2.2.2.2.2]) tk rfl rfl (by kernel_rfl) (by kernel_rfl)) rfl (by kernel_rfl) ?_
 refine SL.norm (itsN := [.blk 36 (C_api_UUID u_1), .blk 96 [ci .u8 x_2.1, ci .u8 x_2.2.1, ci .u8 x_2.2.2.1, ci .u8 x_2.2.2.2.1, ci .u8 x_2.2.2.2.2.1, ci .u8 x_2.2.2.2.2.2.1, ci .u8 x_2.2.2.2.2.2.2.1, ci .u8 x_2.2.2.2.2.2.2.2.1, ci .u8 x_2.2.2.2.2.2.2.2.2.1, ci .u8 x_2.2.2.2.2.2.2.2.2.2.1, ci .u8 x_2.2.2.2.2.2.2.2.2.2.2.1, ci .u8 x_2.2.2.2.2.2.2.2.2.2.2.2.1, ci .u8 x_2.2.2.2.2.2.2.2.2.2.2.2.2.1, ci .u8 x_2.2.2.2.2.2.2.2.2.2.2.2.2.2.1, ci .u8 x_2.2.2.2.2.2.2.2.2.2.2.2.2.2.2.1, ci .u8 x_2.2.2.2.2.2.2.2.2.2.2.2.2.2.2.2]]) (by kernel_rfl) ?_
 refine SL.sim tk 1 [(4, vp 1 0), (5, vi .u16 (ior .u16 (wu16 x_2.2.2.2.2.2.2.2.2.2.2.2.2.1) (shlp .u16 (wu16 x_2.2.2.2.2.2.2.2.2.2.2.2.2.2.1) 8)))] [(1, 96, [ci .u8 x_2.1, ci .u8 x_2.2.1, ci .u8 x_2.2.2.1, ci .u8 x_2.2.2.2.1, ci .u8 x_2.2.2.2.2.1, ci .u8 x_2.2.2.2.2.2.1, ci .u8 x_2.2.2.2.2.2.2.1, ci .u8 x_2.2.2.2.2.2.2.2.1, ci .u8 x_2.2.2.2.2.2.2.2.2.1, ci .u8 x_2.2.2.2.2.2.2.2.2.2.1, ci .u8 x_2.2.2.2.2.2.2.2.2.2.2.1, ci .u8 x_2.2.2.2.2.2.2.2.2.2.2.2.1, ci .u8 0, ci .u8 x_2.2.2.2.2.2.2.2.2.2.2.2.2.2.1, ci .u8 x_2.2.2.2.2.2.2.2.2.2.2.2.2.2.2.1, ci .u8 x_2.2.2.2.2.2.2.2.2.2.2.2.2.2.2.2])] [] [] (by kernel_rfl) ?_
 refine SL.eff (e_ixa (off := 13) (T := 96) (cs := [ci .u8 x_2.1, ci .u8 x_2.2.1, ci .u8 x_2.2.2.1, ci .u8 x_2.2.2.2.1, ci .u8 x_2.2.2.2.2.1, ci .u8 x_2.2.2.2.2.2.1, ci .u8 x_2.2.2.2.2.2.2.1, ci .u8 x_2.2.2.2.2.2.2.2.1, ci .u8 x_2.2.2.2.2.2.2.2.2.1, ci .u8 x_2.2.2.2.2.2.2.2.2.2.1, ci .u8 x_2.2.2.2.2.2.2.2.2.2.2.1, ci .u8 x_2.2.2.2.2.2.2.2.2.2.2.2.1, ci .u8 0, ci .u8 x_2.2.2.2.2.2.2.2.2.2.2.2.2.2.1, ci .u8 x_2.2.2.2.2.2.2.2.2.2.2.2.2.2.2.1, ci .u8 x_2.2.2.2.2.2.2.2.2.2.2.2.2.2.2.2]) tk rfl rfl (by kernel_rfl) (by kernel_rfl)) rfl (by kernel_rfl) ?_
 refine SL.sim tk 1 [(4, vp 1 0), (5, vi .u16 (ior .u16 (wu16 x_2.2.2.2.2.2.2.2.2.2.2.2.2.1) (shlp .u16 (wu16 x_2.2.2.2.2.2.2.2.2.2.2.2.2.2.1) 8)))] [(1, 96, [ci .u8 x_2.1, ci .u8 x_2.2.1, ci .u8 x_2.2.2.1, ci .u8 x_2.2.2.2.1, ci .u8 x_2.2.2.2.2.1, ci .u8 x_2.2.2.2.2.2.1, ci .u8 x_2.2.2.2.2.2.2.1, ci .u8 x_2.2.2.2.2.2.2.2.1, ci .u8 x_2.2.2.2.2.2.2.2.2.1, ci .u8 x_2.2.2.2.2.2.2.2.2.2.1, ci .u8 x_2.2.2.2.2.2.2.2.2.2.2.1, ci .u8 x_2.2.2.2.2.2.2.2.2.2.2.2.1, ci .u8 0, ci .u8 0, ci .u8 x_2.2.2.2.2.2.2.2.2.2.2.2.2.2.2.1, ci .u8 x_2.2.2.2.2.2.2.2.2.2.2.2.2.2.2.2])] [] [] (by kernel_rfl) ?_
 refine SL.nilThen ?_
 refine SC.seq ?_
 refine SC.cut (fun a w => ∃ (z_3 : Bool), uuid_Number_j1 F x_2 z_3 = some r ∧ A 23 0 fx [(5, vi .u16 (ior .u16 (wu16 x_2.2.2.2.2.2.2.2.2.2.2.2.2.1) (shlp .u16 (wu16 x_2.2.2.2.2.2.2.2.2.2.2.2.2.2.1) 8))), (21, vb z_3)] [] a w) ?_ ?_
 · refine SC.draw MO [true, true] (by kernel_rfl) fun kap_4 D_5 => ?_
   refine SD.takes tk D_5 [] kn0 [0, 1] [] [] [true, true, false, false] [(5, vi .u16 (ior .u16 (wu16 x_2.2.2.2.2.2.2.2.2.2.2.2.2.1) (shlp .u16 (wu16 x_2.2.2.2.2.2.2.2.2.2.2.2.2.2.1) 8))), (18, .g [ci .u8 x_2.1, ci .u8 x_2.2.1, ci .u8 x_2.2.2.1, ci .u8 x_2.2.2.2.1, ci .u8 x_2.2.2.2.2.1, ci .u8 x_2.2.2.2.2.2.1, ci .u8 x_2.2.2.2.2.2.2.1, ci .u8 x_2.2.2.2.2.2.2.2.1, ci .u8 x_2.2.2.2.2.2.2.2.2.1, ci .u8 x_2.2.2.2.2.2.2.2.2.2.1, ci .u8 x_2.2.2.2.2.2.2.2.2.2.2.1, ci .u8 x_2.2.2.2.2.2.2.2.2.2.2.2.1, ci .u8 0, ci .u8 0, ci .u8 x_2.2.2.2.2.2.2.2.2.2.2.2.2.2.2.1, ci .u8 x_2.2.2.2.2.2.2.2.2.2.2.2.2.2.2.2]), (19, .g [ci .u64 4096, ci .u64 9223372588214596859])] rfl (by kernel_rfl) (by kernel_rfl) (by kernel_rfl) ?_
   obtain ⟨x_6, e_x_6, hp⟩ := bind_inv hp
   refine SD.all1 (i := 2) (by kernel_rfl) ?_
   refine SW.eff D_5 (i := 2) (bs' := [true, true, true, false]) rfl (.inl rfl) rfl (e_c Try.call74 (ok_uuid_bytes F (T_api_UUID.mk 4096 9223372588214596859) _ e_x_6) [] [.g [ci .u64 4096, ci .u64 9223372588214596859]] (.g [ci .u8 x_6.1, ci .u8 x_6.2.1, ci .u8 x_6.2.2.1, ci .u8 x_6.2.2.2.1, ci .u8 x_6.2.2.2.2.1, ci .u8 x_6.2.2.2.2.2.1, ci .u8 x_6.2.2.2.2.2.2.1, ci .u8 x_6.2.2.2.2.2.2.2.1, ci .u8 x_6.2.2.2.2.2.2.2.2.1, ci .u8 x_6.2.2.2.2.2.2.2.2.2.1, ci .u8 x_6.2.2.2.2.2.2.2.2.2.2.1, ci .u8 x_6.2.2.2.2.2.2.2.2.2.2.2.1, ci .u8 x_6.2.2.2.2.2.2.2.2.2.2.2.2.1, ci .u8 x_6.2.2.2.2.2.2.2.2.2.2.2.2.2.1, ci .u8 x_6.2.2.2.2.2.2.2.2.2.2.2.2.2.2.1, ci .u8 x_6.2.2.2.2.2.2.2.2.2.2.2.2.2.2.2]) (by kernel_rfl) (.inl rfl)) (by kernel_rfl) rfl (by kernel_rfl) ?_
   refine SD.norm (itsN := [.blk 36 (C_api_UUID u_1), .blk 96 [ci .u8 x_2.1, ci .u8 x_2.2.1, ci .u8 x_2.2.2.1, ci .u8 x_2.2.2.2.1, ci .u8 x_2.2.2.2.2.1, ci .u8 x_2.2.2.2.2.2.1, ci .u8 x_2.2.2.2.2.2.2.1, ci .u8 x_2.2.2.2.2.2.2.2.1, ci .u8 x_2.2.2.2.2.2.2.2.2.1, ci .u8 x_2.2.2.2.2.2.2.2.2.2.1, ci .u8 x_2.2.2.2.2.2.2.2.2.2.2.1, ci .u8 x_2.2.2.2.2.2.2.2.2.2.2.2.1, ci .u8 0, ci .u8 0, ci .u8 x_2.2.2.2.2.2.2.2.2.2.2.2.2.2.2.1, ci .u8 x_2.2.2.2.2.2.2.2.2.2.2.2.2.2.2.2]]) (by kernel_rfl) ?_
   refine SD.all1 (i := 3) (by kernel_rfl) ?_
   refine SW.eff D_5 (i := 3) (bs' := [true, true, true, true]) rfl (.inl rfl) rfl (e_eqa tk (cs := [ci .u8 x_2.1, ci .u8 x_2.2.1, ci .u8 x_2.2.2.1, ci .u8 x_2.2.2.2.1, ci .u8 x_2.2.2.2.2.1, ci .u8 x_2.2.2.2.2.2.1, ci .u8 x_2.2.2.2.2.2.2.1, ci .u8 x_2.2.2.2.2.2.2.2.1, ci .u8 x_2.2.2.2.2.2.2.2.2.1, ci .u8 x_2.2.2.2.2.2.2.2.2.2.1, ci .u8 x_2.2.2.2.2.2.2.2.2.2.2.1, ci .u8 x_2.2.2.2.2.2.2.2.2.2.2.2.1, ci .u8 0, ci .u8 0, ci .u8 x_2.2.2.2.2.2.2.2.2.2.2.2.2.2.2.1, ci .u8 x_2.2.2.2.2.2.2.2.2.2.2.2.2.2.2.2]) (ds := [ci .u8 x_6.1, ci .u8 x_6.2.1, ci .u8 x_6.2.2.1, ci .u8 x_6.2.2.2.1, ci .u8 x_6.2.2.2.2.1, ci .u8 x_6.2.2.2.2.2.1, ci .u8 x_6.2.2.2.2.2.2.1, ci .u8 x_6.2.2.2.2.2.2.2.1, ci .u8 x_6.2.2.2.2.2.2.2.2.1, ci .u8 x_6.2.2.2.2.2.2.2.2.2.1, ci .u8 x_6.2.2.2.2.2.2.2.2.2.2.1, ci .u8 x_6.2.2.2.2.2.2.2.2.2.2.2.1, ci .u8 x_6.2.2.2.2.2.2.2.2.2.2.2.2.1, ci .u8 x_6.2.2.2.2.2.2.2.2.2.2.2.2.2.1, ci .u8 x_6.2.2.2.2.2.2.2.2.2.2.2.2.2.2.1, ci .u8 x_6.2.2.2.2.2.2.2.2.2.2.2.2.2.2.2]) [(x_2.1 == x_6.1), (x_2.2.1 == x_6.2.1), (x_2.2.2.1 == x_6.2.2.1), (x_2.2.2.2.1 == x_6.2.2.2.1), (x_2.2.2.2.2.1 == x_6.2.2.2.2.1), (x_2.2.2.2.2.2.1 == x_6.2.2.2.2.2.1), (x_2.2.2.2.2.2.2.1 == x_6.2.2.2.2.2.2.1), (x_2.2.2.2.2.2.2.2.1 == x_6.2.2.2.2.2.2.2.1), (x_2.2.2.2.2.2.2.2.2.1 == x_6.2.2.2.2.2.2.2.2.1), (x_2.2.2.2.2.2.2.2.2.2.1 == x_6.2.2.2.2.2.2.2.2.2.1), (x_2.2.2.2.2.2.2.2.2.2.2.1 == x_6.2.2.2.2.2.2.2.2.2.2.1), (x_2.2.2.2.2.2.2.2.2.2.2.2.1 == x_6.2.2.2.2.2.2.2.2.2.2.2.1), (0 == x_6.2.2.2.2.2.2.2.2.2.2.2.2.1), (0 == x_6.2.2.2.2.2.2.2.2.2.2.2.2.2.1), (x_2.2.2.2.2.2.2.2.2.2.2.2.2.2.2.1 == x_6.2.2.2.2.2.2.2.2.2.2.2.2.2.2.1), (x_2.2.2.2.2.2.2.2.2.2.2.2.2.2.2.2 == x_6.2.2.2.2.2.2.2.2.2.2.2.2.2.2.2)] (!((x_2.1 == x_6.1) && ((x_2.2.1 == x_6.2.1) && ((x_2.2.2.1 == x_6.2.2.1) && ((x_2.2.2.2.1 == x_6.2.2.2.1) && ((x_2.2.2.2.2.1 == x_6.2.2.2.2.1) && ((x_2.2.2.2.2.2.1 == x_6.2.2.2.2.2.1) && ((x_2.2.2.2.2.2.2.1 == x_6.2.2.2.2.2.2.1) && ((x_2.2.2.2.2.2.2.2.1 == x_6.2.2.2.2.2.2.2.1) && ((x_2.2.2.2.2.2.2.2.2.1 == x_6.2.2.2.2.2.2.2.2.1) && ((x_2.2.2.2.2.2.2.2.2.2.1 == x_6.2.2.2.2.2.2.2.2.2.1) && ((x_2.2.2.2.2.2.2.2.2.2.2.1 == x_6.2.2.2.2.2.2.2.2.2.2.1) && ((x_2.2.2.2.2.2.2.2.2.2.2.2.1 == x_6.2.2.2.2.2.2.2.2.2.2.2.1) && ((0 == x_6.2.2.2.2.2.2.2.2.2.2.2.2.1) && ((0 == x_6.2.2.2.2.2.2.2.2.2.2.2.2.2.1) && ((x_2.2.2.2.2.2.2.2.2.2.2.2.2.2.2.1 == x_6.2.2.2.2.2.2.2.2.2.2.2.2.2.2.1) && (x_2.2.2.2.2.2.2.2.2.2.2.2.2.2.2.2 == x_6.2.2.2.2.2.2.2.2.2.2.2.2.2.2.2))))))))))))))))) rfl rfl (by kernel_rfl) (by kernel_rfl) (by kernel_rfl) (.inr ⟨rfl, (by kernel_rfl)⟩)) (by kernel_rfl) rfl (by kernel_rfl) ?_
   refine SD.done (by kernel_rfl) fun a w h => ?_
   exact ⟨(!((x_2.1 == x_6.1) && ((x_2.2.1 == x_6.2.1) && ((x_2.2.2.1 == x_6.2.2.1) && ((x_2.2.2.2.1 == x_6.2.2.2.1) && ((x_2.2.2.2.2.1 == x_6.2.2.2.2.1) && ((x_2.2.2.2.2.2.1 == x_6.2.2.2.2.2.1) && ((x_2.2.2.2.2.2.2.1 == x_6.2.2.2.2.2.2.1) && ((x_2.2.2.2.2.2.2.2.1 == x_6.2.2.2.2.2.2.2.1) && ((x_2.2.2.2.2.2.2.2.2.1 == x_6.2.2.2.2.2.2.2.2.1) && ((x_2.2.2.2.2.2.2.2.2.2.1 == x_6.2.2.2.2.2.2.2.2.2.1) && ((x_2.2.2.2.2.2.2.2.2.2.2.1 == x_6.2.2.2.2.2.2.2.2.2.2.1) && ((x_2.2.2.2.2.2.2.2.2.2.2.2.1 == x_6.2.2.2.2.2.2.2.2.2.2.2.1) && ((0 == x_6.2.2.2.2.2.2.2.2.2.2.2.2.1) && ((0 == x_6.2.2.2.2.2.2.2.2.2.2.2.2.2.1) && ((x_2.2.2.2.2.2.2.2.2.2.2.2.2.2.2.1 == x_6.2.2.2.2.2.2.2.2.2.2.2.2.2.2.1) && (x_2.2.2.2.2.2.2.2.2.2.2.2.2.2.2.2 == x_6.2.2.2.2.2.2.2.2.2.2.2.2.2.2.2))))))))))))))))), hp, h.at (js := []) (by kernel_rfl)⟩
 · rintro a w ⟨z_3, hp, h⟩
   refine h.go ?_
   refine SC.if' rfl hp (fun hp => ?_) (fun hp => ?_)
   · refine SC.r tk [(2, vi .u16 0), (3, vb false)] [] [] [] (by kernel_rfl) ?_
     obtain rfl := some_inv' hp
     exact SC.re (js := []) tk (by kernel_rfl)
   · refine SC.skipThen ?_
     refine SC.r tk [(2, vi .u16 (ior .u16 (wu16 x_2.2.2.2.2.2.2.2.2.2.2.2.2.1) (shlp .u16 (wu16 x_2.2.2.2.2.2.2.2.2.2.2.2.2.2.1) 8))), (3, vb true)] [] [] [] (by kernel_rfl) ?_
     obtain rfl := some_inv' hp
     exact SC.re (js := []) tk (by kernel_rfl)

theorem ok_slices_Index_uint16_uint16 (F : Nat) (s_1 : (List Int)) (v_2 : Int) (r : Int) (hp : slices_Index_uint16_uint16 F s_1 v_2 = some r) : Spec Try.prog 85 [vs 0, vi .u16 v_2] [.rd 1 (RInt .u16) s_1] (vi .i64 r) [.gone] := by
 refine Spec.enter Try.func85 rfl Try.ntmps85 rfl rfl fun fx => ?_
 refine SC.r tk [(0, vs 0), (1, vi .u16 v_2)] [] [] [] (by kernel_rfl) ?_
 refine SC.cut (fun a w => slices_Index_uint16_uint16_j1 F = some r ∧ A 19 1 fx [] [.gone] a w) ?_ ?_
 · refine SC.r tk [(0, vs 0), (1, vi .u16 v_2), (7, vi .i64 (len s_1)), (8, vi .i64 0)] [] [] [] (by kernel_rfl) ?_
   refine SC.block ?_
   obtain ⟨o1, hi1, ho1⟩ := bind_inv hp
   clear hp
   refine SC.loop (fun n a w => ∃ (x_3 : Int), iter (fun s => slices_Index_uint16_uint16_l1 F s_1 v_2 s) n (x_3) = some o1 ∧ A 19 1 fx [(0, vs 0), (1, vi .u16 v_2), (7, vi .i64 (len s_1)), (8, vi .i64 x_3)] [.rd 1 (RInt .u16) s_1] a w) F (fun a w h => ⟨0, hi1, h.at (js := [.g 0]) (by kernel_rfl)⟩) ?_
   rintro n1 a w ⟨x_3, hi1, h⟩
   obtain ⟨n1, q1, rfl, hp, hs1⟩ := iter_inv hi1
   replace hp : slices_Index_uint16_uint16_l1 F s_1 v_2 x_3 = some q1 := hp
   clear hi1
   refine h.go ?_
   refine SC.r tk [(0, vs 0), (1, vi .u16 v_2), (7, vi .i64 (len s_1)), (8, vi .i64 x_3), (9, vb (decide (x_3 < (len s_1))))] [] [] [] (by kernel_rfl) ?_
   refine SC.seq ?_
   refine SC.if' rfl hp (fun hp => ?_) (fun hp => ?_)
   · refine SC.skipThen ?_
     refine SC.seq ?_
     refine SC.block ?_
     refine SC.r tk [(0, vs 0), (1, vi .u16 v_2), (5, vi .i64 x_3), (7, vi .i64 (len s_1)), (8, vi .i64 x_3)] [] [] [] (by kernel_rfl) ?_
     obtain ⟨x_4, e_x_4, hp⟩ := bind_inv hp
     refine SC.pre (pre_ix (i := 0) (iv := x_3) (sz := 1) (R := (RInt .u16)) (l := s_1) (by kernel_rfl) rfl e_x_4) ?_
     refine SC.r tk [(0, vs 0), (1, vi .u16 v_2), (5, vi .i64 x_3), (7, vi .i64 (len s_1)), (8, vi .i64 x_3), (16, vb (v_2 == x_4))] [] [.el 1] [x_3] (by kernel_rfl) ?_
     refine SC.if' rfl hp (fun hp => ?_) (fun hp => ?_)
     · refine SC.r tk [(4, vi .i64 x_3)] [] [] [] (by kernel_rfl) ?_
       have ho := done_inv hp hs1
       replace hp := ho1
       try rw [ho] at hp
       obtain rfl := some_inv' hp
       exact SC.re (js := [.g 0]) tk (by kernel_rfl)
     · refine SC.skipThen ?_
       refine SC.reg ?_
       refine SL.sim tk 2 [(0, vs 0), (1, vi .u16 v_2), (7, vi .i64 (len s_1)), (8, vi .i64 (w64 (x_3 + 1)))] [] [] [] (by kernel_rfl) ?_
       refine SL.nilJ fun a w h => ?_
       exact ⟨n1, Nat.lt_succ_self _, w64 (x_3 + 1), next_inv hp hs1, h.at (js := [.g 0]) (by kernel_rfl)⟩
   · refine SC.exitJ rfl fun a w h => ?_
     have ho := done_inv hp hs1
     replace hp := ho1
     try rw [ho] at hp
     exact ⟨hp, h.at (js := [.g 0]) (by kernel_rfl)⟩
 · rintro a w ⟨hp, h⟩
   refine h.go ?_
   refine SC.r tk [(4, vi .i64 (-1))] [] [] [] (by kernel_rfl) ?_
   obtain rfl := some_inv' hp
   exact SC.re (js := [.g 0]) tk (by kernel_rfl)

theorem ok_slices_Contains_uint16_uint16 (F : Nat) (s_1 : (List Int)) (v_2 : Int) (r : Bool) (hp : slices_Contains_uint16_uint16 F s_1 v_2 = some r) : Spec Try.prog 69 [vs 0, vi .u16 v_2] [.rd 1 (RInt .u16) s_1] (vb r) [.gone] := by
 refine Spec.enter Try.func69 rfl Try.ntmps69 rfl rfl fun fx => ?_
 refine SC.r tk [(0, vs 0), (1, vi .u16 v_2)] [] [] [] (by kernel_rfl) ?_
 refine SC.seq ?_
 refine SC.reg ?_
 refine SL.sim tk 2 [(5, vs 0), (6, vi .u16 v_2)] [] [] [] (by kernel_rfl) ?_
 obtain ⟨x_3, e_x_3, hp⟩ := bind_inv hp
 refine SL.eff (e_c Try.call85 (ok_slices_Index_uint16_uint16 F s_1 v_2 _ e_x_3) [.g 0] [vs 0, vi .u16 v_2] (vi .i64 x_3) (by kernel_rfl) (.inl rfl)) rfl (by kernel_rfl) ?_
 refine SL.sim tk 2 [(4, vb (decide (x_3 ≥ 0)))] [] [] [] (by kernel_rfl) ?_
 refine SL.nilThen ?_
 obtain rfl := some_inv' hp
 exact SC.re (js := [.g 0]) tk (by kernel_rfl)

theorem ok_database_is (F : Nat) (u_1 : T_api_UUID) (numbers_2 : (List Int)) (r : Bool) (hp : database_is F u_1 numbers_2 = some r) : Spec Try.prog 37 [.g (C_api_UUID u_1), vs 0] [.rd 1 (RInt .u16) numbers_2] (vb r) [.gone] := by
 refine Spec.enter Try.func37 rfl Try.ntmps37 rfl rfl fun fx => ?_
 refine SC.seq ?_
 refine SC.reg ?_
 refine SL.eff (e_box (E := 36) (C_api_UUID u_1) (by kernel_rfl)) rfl (by kernel_rfl) ?_
 refine SL.sim tk 1 [(1, vs 0), (2, vp 1 0)] [] [] [] (by kernel_rfl) ?_
 refine SL.nilThen ?_
 refine SC.seq ?_
 refine SC.reg ?_
 refine SL.sim tk 1 [(1, vs 0), (8, .g (C_api_UUID u_1))] [] [] [] (by kernel_rfl) ?_
 obtain ⟨x_3, e_x_3, hp⟩ := bind_inv hp
 refine SL.eff (e_c Try.call68 (ok_uuid_Number F u_1 _ e_x_3) [] [.g (C_api_UUID u_1)] (.u [.inl (ci .u16 x_3.1), .inl (cb x_3.2)]) (by kernel_rfl) (.inl rfl)) rfl (by kernel_rfl) ?_
 refine SL.sim tk 5 [(1, vs 0), (5, vi .u16 x_3.1), (6, vb x_3.2)] [] [] [] (by kernel_rfl) ?_
 refine SL.nilThen ?_
 refine SC.seq ?_
 refine SC.reg ?_
 refine SL.sim tk 2 [(1, vs 0), (5, vi .u16 x_3.1), (13, vb x_3.2)] [] [] [] (by kernel_rfl) ?_
 obtain ⟨z_5, hz, hpr⟩ := bind_inv hp
 clear hp
 refine SL.cutAt 4 (fun a w => A 18 1 fx [(17, vb z_5)] [.gone] a w) ?_ ?_
 · have hp := hz
   rcases Bool.eq_false_or_eq_true (x_3.2) with hg_4 | hg_4
   · replace hp := if_t hp hg_4
     refine SL.yes rfl rfl hg_4 ?_
     refine SL.sim tk 1 [(5, vi .u16 x_3.1), (13, vb x_3.2), (14, vs 0)] [] [] [] (by kernel_rfl) ?_
     refine SL.yes rfl rfl hg_4 ?_
     refine SL.sim tk 1 [(13, vb x_3.2), (14, vs 0), (15, vi .u16 x_3.1)] [] [] [] (by kernel_rfl) ?_
     refine SL.yes rfl rfl hg_4 ?_
     obtain ⟨x_7, e_x_7, hp⟩ := bind_inv hp
     refine SL.eff (e_c Try.call69 (ok_slices_Contains_uint16_uint16 F numbers_2 x_3.1 _ e_x_7) [.g 0] [vs 0, vi .u16 x_3.1] (vb x_7) (by kernel_rfl) (.inl rfl)) rfl (by kernel_rfl) ?_
     refine SL.norm (itsN := [.rd 1 (RInt .u16) numbers_2, .blk 36 (C_api_UUID u_1)]) (by kernel_rfl) ?_
     refine SL.pickt rfl hg_4 rfl rfl ?_
     refine SL.nilJ fun a w h => ?_
     obtain rfl := some_inv' hp
     exact h.at (js := [.g 0]) (by kernel_rfl)
   · replace hp := if_f hp hg_4
     refine SL.no rfl rfl hg_4 rfl ?_
     refine SL.no rfl rfl hg_4 rfl ?_
     refine SL.no rfl rfl hg_4 rfl ?_
     refine SL.pickf rfl hg_4 rfl rfl ?_
     refine SL.nilJ fun a w h => ?_
     obtain rfl := some_inv' hp
     exact h.at (js := [.g 0]) (by kernel_rfl)
 · intro a w h
   have hp := hpr; clear hpr hz
   refine h.goL ?_
   refine SL.sim tk 1 [(4, vb z_5)] [] [] [] (by kernel_rfl) ?_
   refine SL.nilThen ?_
   obtain rfl := some_inv' hp
   exact SC.re (js := [.g 0]) tk (by kernel_rfl)

theorem ok_database_service (F : Nat) (u_1 : T_api_UUID) (r : Bool) (hp : database_service F u_1 = some r) : Spec Try.prog 36 [.g (C_api_UUID u_1)] [] (vb r) [] := by
 refine Spec.enter Try.func36 rfl Try.ntmps36 rfl rfl fun fx => ?_
 refine SC.seq ?_
 refine SC.reg ?_
 refine SL.eff (e_box (E := 36) (C_api_UUID u_1) (by kernel_rfl)) rfl (by kernel_rfl) ?_
 refine SL.sim tk 1 [(1, vp 0 0)] [] [] [] (by kernel_rfl) ?_
 refine SL.nilThen ?_
 refine SC.seq ?_
 refine SC.reg ?_
 refine SL.sim tk 1 [(3, .g (C_api_UUID u_1))] [] [] [] (by kernel_rfl) ?_
 refine SL.eff (e_lit (sz := 1) (E := 28) (R := (RInt .u16)) (by_ := 2) tk [[ci .u16 10240], [ci .u16 10241]] [10240, 10241] (by kernel_rfl) ⟨Clo.int, ⟨Clo.int, trivial⟩⟩ rfl (by kernel_rfl) (by kernel_rfl)) rfl (by kernel_rfl) ?_
 obtain ⟨x_2, e_x_2, hp⟩ := bind_inv hp
 refine SL.eff (e_c Try.call37 (ok_database_is F u_1 [10240, 10241] _ e_x_2) [.l 1] [.g (C_api_UUID u_1), vs 1] (vb x_2) (by kernel_rfl) (.inr ⟨trivial, trivial⟩)) rfl (by kernel_rfl) ?_
 refine SL.norm (itsN := [.blk 36 (C_api_UUID u_1), .own 1 28 (RInt .u16) [10240, 10241]]) (by kernel_rfl) ?_
 refine SL.sim tk 1 [(2, vb x_2)] [] [] [] (by kernel_rfl) ?_
 refine SL.nilThen ?_
 obtain rfl := some_inv' hp
 exact SC.re (js := []) tk (by kernel_rfl)

theorem ok_database_declaration (F : Nat) (u_1 : T_api_UUID) (r : Bool) (hp : database_declaration F u_1 = some r) : Spec Try.prog 59 [.g (C_api_UUID u_1)] [] (vb r) [] := by
 refine Spec.enter Try.func59 rfl Try.ntmps59 rfl rfl fun fx => ?_
 refine SC.seq ?_
 refine SC.reg ?_
 refine SL.eff (e_box (E := 36) (C_api_UUID u_1) (by kernel_rfl)) rfl (by kernel_rfl) ?_
 refine SL.sim tk 1 [(1, vp 0 0)] [] [] [] (by kernel_rfl) ?_
 refine SL.nilThen ?_
 refine SC.seq ?_
 refine SC.reg ?_
 refine SL.sim tk 1 [(1, vp 0 0), (3, .g (C_api_UUID u_1))] [] [] [] (by kernel_rfl) ?_
 obtain ⟨x_2, e_x_2, hp⟩ := bind_inv hp
 refine SL.eff (e_c Try.call36 (ok_database_service F u_1 _ e_x_2) [] [.g (C_api_UUID u_1)] (vb x_2) (by kernel_rfl) (.inl rfl)) rfl (by kernel_rfl) ?_
 refine SL.sim tk 1 [(1, vp 0 0), (5, vb x_2)] [] [] [] (by kernel_rfl) ?_
 obtain ⟨z_4, hz, hpr⟩ := bind_inv hp
 clear hp
 refine SL.cutAt 4 (fun a w => A 10 0 fx [(9, vb z_4)] [] a w) ?_ ?_
 · have hp := hz
   rcases Bool.eq_false_or_eq_true (x_2) with hg_3 | hg_3
   · replace hp := if_t hp hg_3
     refine SL.no rfl rfl hg_3 rfl ?_
     refine SL.no rfl rfl hg_3 rfl ?_
     refine SL.no rfl rfl hg_3 rfl ?_
     refine SL.pickt rfl hg_3 rfl rfl ?_
     refine SL.nilJ fun a w h => ?_
     obtain rfl := some_inv' hp
     exact h.at (js := []) (by kernel_rfl)
   · replace hp := if_f hp hg_3
     refine SL.yes rfl rfl hg_3 ?_
     refine SL.sim tk 1 [(5, vb x_2), (6, .g (C_api_UUID u_1))] [] [] [] (by kernel_rfl) ?_
     refine SL.yes rfl rfl hg_3 ?_
     refine SL.eff (e_lit (sz := 1) (E := 28) (R := (RInt .u16)) (by_ := 2) tk [[ci .u16 10242], [ci .u16 10243]] [10242, 10243] (by kernel_rfl) ⟨Clo.int, ⟨Clo.int, trivial⟩⟩ rfl (by kernel_rfl) (by kernel_rfl)) rfl (by kernel_rfl) ?_
     refine SL.norm (itsN := [.blk 36 (C_api_UUID u_1), .own 1 28 (RInt .u16) [10242, 10243]]) (by kernel_rfl) ?_
     refine SL.yes rfl rfl hg_3 ?_
     obtain ⟨x_6, e_x_6, hp⟩ := bind_inv hp
     refine SL.eff (e_c Try.call37 (ok_database_is F u_1 [10242, 10243] _ e_x_6) [.l 1] [.g (C_api_UUID u_1), vs 1] (vb x_6) (by kernel_rfl) (.inr ⟨trivial, trivial⟩)) rfl (by kernel_rfl) ?_
     refine SL.pickf rfl hg_3 rfl rfl ?_
     refine SL.nilJ fun a w h => ?_
     obtain rfl := some_inv' hp
     exact h.at (js := []) (by kernel_rfl)
 · intro a w h
   have hp := hpr; clear hpr hz
   refine h.goL ?_
   refine SL.sim tk 1 [(2, vb z_4)] [] [] [] (by kernel_rfl) ?_
   refine SL.nilThen ?_
   obtain rfl := some_inv' hp
   exact SC.re (js := []) tk (by kernel_rfl)

theorem ok_database_reserved (F : Nat) (u_1 : T_api_UUID) (r : Bool) (hp : database_reserved F u_1 = some r) : Spec Try.prog 66 [.g (C_api_UUID u_1)] [] (vb r) [] := by
 refine Spec.enter Try.func66 rfl Try.ntmps66 rfl rfl fun fx => ?_
 refine SC.seq ?_
 refine SC.reg ?_
 refine SL.eff (e_box (E := 36) (C_api_UUID u_1) (by kernel_rfl)) rfl (by kernel_rfl) ?_
 refine SL.sim tk 1 [(1, vp 0 0)] [] [] [] (by kernel_rfl) ?_
 refine SL.nilThen ?_
 refine SC.seq ?_
 refine SC.reg ?_
 refine SL.sim tk 1 [(1, vp 0 0), (3, .g (C_api_UUID u_1))] [] [] [] (by kernel_rfl) ?_
 obtain ⟨x_2, e_x_2, hp⟩ := bind_inv hp
 refine SL.eff (e_c Try.call59 (ok_database_declaration F u_1 _ e_x_2) [] [.g (C_api_UUID u_1)] (vb x_2) (by kernel_rfl) (.inl rfl)) rfl (by kernel_rfl) ?_
 refine SL.sim tk 1 [(1, vp 0 0), (5, vb x_2)] [] [] [] (by kernel_rfl) ?_
 obtain ⟨z_4, hz, hpr⟩ := bind_inv hp
 clear hp
 refine SL.cutAt 4 (fun a w => A 10 0 fx [(9, vb z_4)] [] a w) ?_ ?_
 · have hp := hz
   rcases Bool.eq_false_or_eq_true (x_2) with hg_3 | hg_3
   · replace hp := if_t hp hg_3
     refine SL.no rfl rfl hg_3 rfl ?_
     refine SL.no rfl rfl hg_3 rfl ?_
     refine SL.no rfl rfl hg_3 rfl ?_
     refine SL.pickt rfl hg_3 rfl rfl ?_
     refine SL.nilJ fun a w h => ?_
     obtain rfl := some_inv' hp
     exact h.at (js := []) (by kernel_rfl)
   · replace hp := if_f hp hg_3
     refine SL.yes rfl rfl hg_3 ?_
     refine SL.sim tk 1 [(5, vb x_2), (6, .g (C_api_UUID u_1))] [] [] [] (by kernel_rfl) ?_
     refine SL.yes rfl rfl hg_3 ?_
     refine SL.eff (e_lit (sz := 1) (E := 28) (R := (RInt .u16)) (by_ := 2) tk [[ci .u16 10498]] [10498] (by kernel_rfl) ⟨Clo.int, trivial⟩ rfl (by kernel_rfl) (by kernel_rfl)) rfl (by kernel_rfl) ?_
     refine SL.norm (itsN := [.blk 36 (C_api_UUID u_1), .own 1 28 (RInt .u16) [10498]]) (by kernel_rfl) ?_
     refine SL.yes rfl rfl hg_3 ?_
     obtain ⟨x_6, e_x_6, hp⟩ := bind_inv hp
     refine SL.eff (e_c Try.call37 (ok_database_is F u_1 [10498] _ e_x_6) [.l 1] [.g (C_api_UUID u_1), vs 1] (vb x_6) (by kernel_rfl) (.inr ⟨trivial, trivial⟩)) rfl (by kernel_rfl) ?_
     refine SL.pickf rfl hg_3 rfl rfl ?_
     refine SL.nilJ fun a w h => ?_
     obtain rfl := some_inv' hp
     exact h.at (js := []) (by kernel_rfl)
 · intro a w h
   have hp := hpr; clear hpr hz
   refine h.goL ?_
   refine SL.sim tk 1 [(2, vb z_4)] [] [] [] (by kernel_rfl) ?_
   refine SL.nilThen ?_
   obtain rfl := some_inv' hp
   exact SC.re (js := []) tk (by kernel_rfl)

theorem ok_database_chosen (F : Nat) (u_1 : T_api_UUID) (props_2 : Int) (perms_3 : Int) (value_4 : (List Int)) (r : Int) (hp : database_chosen F u_1 props_2 perms_3 value_4 = some r) : Spec Try.prog 73 [.g (C_api_UUID u_1), vi .i64 props_2, vi .i64 perms_3, vs 0] [.rd 1 R8 value_4] (vi .i64 r) [.gone] := by
 refine Spec.enter Try.func73 rfl Try.ntmps73 rfl rfl fun fx => ?_
 refine SC.seq ?_
 refine SC.reg ?_
 refine SL.eff (e_box (E := 36) (C_api_UUID u_1) (by kernel_rfl)) rfl (by kernel_rfl) ?_
 refine SL.sim tk 1 [(1, vi .i64 props_2), (2, vi .i64 perms_3), (3, vs 0), (4, vp 1 0)] [] [] [] (by kernel_rfl) ?_
 refine SL.nilThen ?_
 refine SC.seq ?_
 refine SC.block ?_
 refine SC.seq ?_
 refine SC.reg ?_
 refine SL.sim tk 1 [(1, vi .i64 props_2), (2, vi .i64 perms_3), (3, vs 0), (10, .g (C_api_UUID u_1))] [] [] [] (by kernel_rfl) ?_
 obtain ⟨x_5, e_x_5, hp⟩ := bind_inv hp
 refine SL.eff (e_c Try.call66 (ok_database_reserved F u_1 _ e_x_5) [] [.g (C_api_UUID u_1)] (vb x_5) (by kernel_rfl) (.inl rfl)) rfl (by kernel_rfl) ?_
 refine SL.sim tk 1 [(1, vi .i64 props_2), (2, vi .i64 perms_3), (3, vs 0), (9, vb x_5)] [] [] [] (by kernel_rfl) ?_
 refine SL.nilThen ?_
 refine SC.if' rfl hp (fun hp => ?_) (fun hp => ?_)
 · refine SC.r tk [(8, vi .i64 1)] [] [] [] (by kernel_rfl) ?_
   obtain rfl := some_inv' hp
   exact SC.re (js := [.g 0]) tk (by kernel_rfl)
 · refine SC.r tk [(3, vs 0), (12, vb ((((decide (props_2 < 0)) || (decide (props_2 > 255))) || (decide (perms_3 < 0))) || (decide (perms_3 > 15))))] [] [] [] (by kernel_rfl) ?_
   refine SC.if' rfl hp (fun hp => ?_) (fun hp => ?_)
   · refine SC.r tk [(8, vi .i64 5)] [] [] [] (by kernel_rfl) ?_
     obtain rfl := some_inv' hp
     exact SC.re (js := [.g 0]) tk (by kernel_rfl)
   · refine SC.r tk [(27, vb (decide ((len value_4) > 512)))] [] [] [] (by kernel_rfl) ?_
     refine SC.if' rfl hp (fun hp => ?_) (fun hp => ?_)
     · refine SC.r tk [(8, vi .i64 4)] [] [] [] (by kernel_rfl) ?_
       obtain rfl := some_inv' hp
       exact SC.re (js := [.g 0]) tk (by kernel_rfl)
     · refine SC.skipThen ?_
       refine SC.r tk [(8, vi .i64 0)] [] [] [] (by kernel_rfl) ?_
       obtain rfl := some_inv' hp
       exact SC.re (js := [.g 0]) tk (by kernel_rfl)

theorem ok_database_told (F : Nat) (c_1 : T_api_Char) (r : Bool) (hp : database_told F c_1 = some r) : Spec Try.prog 44 [.g (C_api_Char c_1 (.s 0) (.s 1))] [.rd 1 R8 c_1.Value, .rd 5 R_T_api_Attribute c_1.More] (vb r) [.gone, .gone] := by
 refine Spec.enter Try.func44 rfl Try.ntmps44 rfl rfl fun fx => ?_
 refine SC.seq ?_
 refine SC.reg ?_
 refine SL.eff (e_box (E := 48) (C_api_Char c_1 (.s 0) (.s 1)) (by kernel_rfl)) rfl (by kernel_rfl) ?_
 refine SL.sim tk 1 [(1, vp 2 0)] [] [] [] (by kernel_rfl) ?_
 refine SL.nilThen ?_
 refine SC.r tk [(2, vb ((iand .i64 c_1.Props 48) != 0))] [] [] [] (by kernel_rfl) ?_
 obtain rfl := some_inv' hp
 exact SC.re (js := [.g 0, .g 1]) tk (by kernel_rfl)

theorem ok_database_count (F : Nat) (l_1 : (List T_api_Service)) (r : Int × Int) (hp : database_count F l_1 = some r) : Spec Try.prog 39 [vs 0] [.rd 4 R_T_api_Service l_1] (.u [.inl (ci .i64 r.1), .inl (ci .i64 r.2)]) [.gone] := by
 refine Spec.enter Try.func39 rfl Try.ntmps39 rfl rfl fun fx => ?_
 refine SC.r tk [(0, vs 0)] [] [] [] (by kernel_rfl) ?_
 refine SC.r tk [(0, vs 0), (4, vi .i64 0)] [] [] [] (by kernel_rfl) ?_
 refine SC.cut (fun a w => ∃ (x_2 : Int), database_count_j1 F x_2 = some r ∧ A 71 1 fx [(4, vi .i64 x_2)] [.gone] a w) ?_ ?_
 · refine SC.r tk [(4, vi .i64 0), (13, vs 0), (14, vi .i64 (len l_1)), (15, vi .i64 0)] [] [] [] (by kernel_rfl) ?_
   refine SC.block ?_
   obtain ⟨o1, hi1, ho1⟩ := bind_inv hp
   clear hp
   refine SC.loop (fun n a w => ∃ (x_3 : Int) (x_4 : Int), iter (fun s => database_count_l1 F l_1 s.1 s.2) n (x_3, x_4) = some o1 ∧ A 71 1 fx [(4, vi .i64 x_3), (13, vs 0), (14, vi .i64 (len l_1)), (15, vi .i64 x_4)] [.rd 4 R_T_api_Service l_1] a w) F (fun a w h => ⟨0, 0, hi1, h.at (js := [.g 0]) (by kernel_rfl)⟩) ?_
   rintro n1 a w ⟨x_3, x_4, hi1, h⟩
   obtain ⟨n1, q1, rfl, hp, hs1⟩ := iter_inv hi1
   replace hp : database_count_l1 F l_1 x_3 x_4 = some q1 := hp
   clear hi1
   refine h.go ?_
   refine SC.r tk [(4, vi .i64 x_3), (13, vs 0), (14, vi .i64 (len l_1)), (15, vi .i64 x_4), (16, vb (decide (x_4 < (len l_1))))] [] [] [] (by kernel_rfl) ?_
   refine SC.seq ?_
   refine SC.if' rfl hp (fun hp => ?_) (fun hp => ?_)
   · refine SC.skipThen ?_
     refine SC.cut (fun a w => ∃ (x_5 : Int), database_count_j2 F x_4 x_5 = some q1 ∧ A 71 1 fx [(4, vi .i64 x_5), (13, vs 0), (14, vi .i64 (len l_1)), (15, vi .i64 x_4)] [.rd 4 R_T_api_Service l_1] a w) ?_ ?_
     · refine SC.block ?_
       refine SC.seq ?_
       refine SC.reg ?_
       obtain ⟨x_6, e_x_6, hp⟩ := bind_inv hp
       refine SL.pre (pre_ix (i := 0) (iv := x_4) (sz := 4) (R := R_T_api_Service) (l := l_1) (by kernel_rfl) rfl e_x_6) ?_
       refine SL.sim tk 2 [(4, vi .i64 x_3), (13, vs 0), (14, vi .i64 (len l_1)), (15, vi .i64 x_4), (18, .g (C_api_Service x_6 (.s 2)))] [] [.el 1] [x_4] (by kernel_rfl) ?_
       refine SL.eff (e_alloc (E := 46) tk [ci .u64 0, ci .u64 0, cb false, nl] (by kernel_rfl)) rfl (by kernel_rfl) ?_
       refine SL.sim tk 1 [(4, vi .i64 x_3), (6, vp 3 0), (13, vs 0), (14, vi .i64 (len l_1)), (15, vi .i64 x_4)] [(3, 46, (C_api_Service x_6 (.s 2)))] [] [] (by kernel_rfl) ?_
       refine SL.nilThen ?_
       refine SC.r tk [(4, vi .i64 (w64 (x_3 + 1))), (6, vp 3 0), (13, vs 0), (14, vi .i64 (len l_1)), (15, vi .i64 x_4)] [] [] [] (by kernel_rfl) ?_
       refine SC.r tk [(4, vi .i64 (w64 (x_3 + 1))), (13, vs 0), (14, vi .i64 (len l_1)), (15, vi .i64 x_4), (22, vs 2), (23, vi .i64 (len x_6.Chars)), (24, vi .i64 0)] [] [] [] (by kernel_rfl) ?_
       refine SC.block ?_
       obtain ⟨o2, hi2, ho2⟩ := bind_inv hp
       clear hp
       refine SC.loop (fun n a w => ∃ (x_7 : Int) (x_8 : Int), iter (fun s => database_count_l2 F x_6 s.1 s.2) n (x_7, x_8) = some o2 ∧ A 71 1 fx [(4, vi .i64 x_7), (13, vs 0), (14, vi .i64 (len l_1)), (15, vi .i64 x_4), (22, vs 1), (23, vi .i64 (len x_6.Chars)), (24, vi .i64 x_8)] [.rd 4 R_T_api_Service l_1, .rd 6 R_T_api_Char x_6.Chars] a w) F (fun a w h => ⟨w64 (x_3 + 1), 0, hi2, h.at (js := [.g 0, .g 2]) (by kernel_rfl)⟩) ?_
       rintro n2 a w ⟨x_7, x_8, hi2, h⟩
       obtain ⟨n2, q2, rfl, hp, hs2⟩ := iter_inv hi2
       replace hp : database_count_l2 F x_6 x_7 x_8 = some q2 := hp
       clear hi2
       refine h.go ?_
       refine SC.r tk [(4, vi .i64 x_7), (13, vs 0), (14, vi .i64 (len l_1)), (15, vi .i64 x_4), (22, vs 1), (23, vi .i64 (len x_6.Chars)), (24, vi .i64 x_8), (25, vb (decide (x_8 < (len x_6.Chars))))] [] [] [] (by kernel_rfl) ?_
       refine SC.seq ?_
       refine SC.if' rfl hp (fun hp => ?_) (fun hp => ?_)
       · refine SC.skipThen ?_
         refine SC.cut (fun a w => ∃ (x_9 : Int), database_count_j3 F x_8 x_9 = some q2 ∧ A 71 1 fx [(4, vi .i64 x_9), (13, vs 0), (14, vi .i64 (len l_1)), (15, vi .i64 x_4), (22, vs 1), (23, vi .i64 (len x_6.Chars)), (24, vi .i64 x_8)] [.rd 4 R_T_api_Service l_1, .rd 6 R_T_api_Char x_6.Chars] a w) ?_ ?_
         · refine SC.block ?_
           refine SC.seq ?_
           refine SC.reg ?_
           obtain ⟨x_10, e_x_10, hp⟩ := bind_inv hp
           refine SL.pre (pre_ix (i := 1) (iv := x_8) (sz := 6) (R := R_T_api_Char) (l := x_6.Chars) (by kernel_rfl) rfl e_x_10) ?_
           refine SL.sim tk 2 [(4, vi .i64 x_7), (13, vs 0), (14, vi .i64 (len l_1)), (15, vi .i64 x_4), (22, vs 1), (23, vi .i64 (len x_6.Chars)), (24, vi .i64 x_8), (27, .g (C_api_Char x_10 (.s 3) (.s 4)))] [] [.el 2] [x_8] (by kernel_rfl) ?_
           refine SL.eff (e_alloc (E := 48) tk [ci .u64 0, ci .u64 0, ci .i64 0, ci .i64 0, nl, nl] (by kernel_rfl)) rfl (by kernel_rfl) ?_
           refine SL.sim tk 1 [(4, vi .i64 x_7), (8, vp 5 0), (13, vs 0), (14, vi .i64 (len l_1)), (15, vi .i64 x_4), (22, vs 1), (23, vi .i64 (len x_6.Chars)), (24, vi .i64 x_8)] [(5, 48, (C_api_Char x_10 (.s 3) (.s 4)))] [] [] (by kernel_rfl) ?_
           refine SL.nilThen ?_
           refine SC.seq ?_
           refine SC.seq ?_
           refine SC.reg ?_
           refine SL.sim tk 8 [(4, vi .i64 x_7), (8, vp 5 0), (13, vs 0), (14, vi .i64 (len l_1)), (15, vi .i64 x_4), (22, vs 1), (23, vi .i64 (len x_6.Chars)), (24, vi .i64 x_8), (29, .g (C_api_UUID x_10.f_Type)), (31, vi .i64 x_10.Props), (33, vi .i64 x_10.Perms), (35, vs 3)] [] [] [] (by kernel_rfl) ?_
           obtain ⟨x_11, e_x_11, hp⟩ := bind_inv hp
           refine SL.eff (e_c Try.call73 (ok_database_chosen F x_10.f_Type x_10.Props x_10.Perms x_10.Value _ e_x_11) [.g 3] [.g (C_api_UUID x_10.f_Type), vi .i64 x_10.Props, vi .i64 x_10.Perms, vs 3] (vi .i64 x_11) (by kernel_rfl) (.inl rfl)) rfl (by kernel_rfl) ?_
           refine SL.norm (itsN := [.rd 4 R_T_api_Service l_1, .rd 6 R_T_api_Char x_6.Chars, .elt (some (1, x_8)) false (C_api_Char x_10 (.s 3) (.s 4)), .rd 1 R8 x_10.Value, .rd 5 R_T_api_Attribute x_10.More, .blk 48 (C_api_Char x_10 (.s 3) (.s 4))]) (by kernel_rfl) ?_
           refine SL.sim tk 1 [(4, vi .i64 x_7), (8, vp 5 0), (9, vi .i64 x_11), (13, vs 0), (14, vi .i64 (len l_1)), (15, vi .i64 x_4), (22, vs 1), (23, vi .i64 (len x_6.Chars)), (24, vi .i64 x_8)] [] [] [] (by kernel_rfl) ?_
           refine SL.nilThen ?_
           refine SC.r tk [(4, vi .i64 x_7), (8, vp 5 0), (9, vi .i64 x_11), (13, vs 0), (14, vi .i64 (len l_1)), (15, vi .i64 x_4), (22, vs 1), (23, vi .i64 (len x_6.Chars)), (24, vi .i64 x_8), (38, vb (x_11 != 0))] [] [] [] (by kernel_rfl) ?_
           refine SC.if' rfl hp (fun hp => ?_) (fun hp => ?_)
           · refine SC.r tk [(2, vi .i64 0), (3, vi .i64 x_11)] [] [] [] (by kernel_rfl) ?_
             have ho := done_inv hp hs2
             replace hp := ho2
             try rw [ho] at hp
             have ho := done_inv hp hs1
             replace hp := ho1
             try rw [ho] at hp
             obtain rfl := some_inv' hp
             exact SC.re (js := [.g 0]) tk (by kernel_rfl)
           · refine SC.skipThen ?_
             refine SC.r tk [(4, vi .i64 (w64 (x_7 + (w64 (2 + (len x_10.More)))))), (8, vp 5 0), (13, vs 0), (14, vi .i64 (len l_1)), (15, vi .i64 x_4), (22, vs 1), (23, vi .i64 (len x_6.Chars)), (24, vi .i64 x_8)] [] [] [] (by kernel_rfl) ?_
             refine SC.cut (fun a w => ∃ (x_12 : Int), database_count_j4 F x_8 x_10 x_12 = some q2 ∧ A 71 1 fx [(4, vi .i64 x_12), (8, vp 1 0), (13, vs 0), (14, vi .i64 (len l_1)), (15, vi .i64 x_4), (22, vs 4), (23, vi .i64 (len x_6.Chars)), (24, vi .i64 x_8)] [.rd 4 R_T_api_Service l_1, .blk 48 (C_api_Char x_10 (.s 2) (.s 3)), .rd 1 R8 x_10.Value, .rd 5 R_T_api_Attribute x_10.More, .rd 6 R_T_api_Char x_6.Chars] a w) ?_ ?_
             · refine SC.seq ?_
               refine SC.reg ?_
               refine SL.sim tk 1 [(4, vi .i64 (w64 (x_7 + (w64 (2 + (len x_10.More)))))), (8, vp 5 0), (13, vs 0), (14, vi .i64 (len l_1)), (15, vi .i64 x_4), (22, vs 1), (23, vi .i64 (len x_6.Chars)), (24, vi .i64 x_8), (46, .g (C_api_Char x_10 (.s 3) (.s 4)))] [] [] [] (by kernel_rfl) ?_
               obtain ⟨x_16, e_x_16, hp⟩ := bind_inv hp
               refine SL.eff (e_c Try.call44 (ok_database_told F x_10 _ e_x_16) [.g 3, .g 4] [.g (C_api_Char x_10 (.s 3) (.s 4))] (vb x_16) (by kernel_rfl) (.inl rfl)) rfl (by kernel_rfl) ?_
               refine SL.nilThen ?_
               refine SC.if' rfl hp (fun hp => ?_) (fun hp => ?_)
               · refine SC.reg ?_
                 refine SL.sim tk 3 [(4, vi .i64 (w64 ((w64 (x_7 + (w64 (2 + (len x_10.More))))) + 1))), (8, vp 5 0), (13, vs 0), (14, vi .i64 (len l_1)), (15, vi .i64 x_4), (22, vs 1), (23, vi .i64 (len x_6.Chars)), (24, vi .i64 x_8)] [] [] [] (by kernel_rfl) ?_
                 refine SL.nilJ fun a w h => ?_
                 exact ⟨w64 ((w64 (x_7 + (w64 (2 + (len x_10.More))))) + 1), hp, h.at (js := [.g 0, .g 5, .g 3, .g 4, .g 1]) (by kernel_rfl)⟩
               · refine SC.skipJ fun a w h => ?_
                 exact ⟨w64 (x_7 + (w64 (2 + (len x_10.More)))), hp, h.at (js := [.g 0, .g 5, .g 3, .g 4, .g 1]) (by kernel_rfl)⟩
             · rintro a w ⟨x_12, hp, h⟩
               refine h.go ?_
               refine SC.r tk [(4, vi .i64 x_12), (13, vs 0), (14, vi .i64 (len l_1)), (15, vi .i64 x_4), (22, vs 4), (23, vi .i64 (len x_6.Chars)), (24, vi .i64 x_8), (51, vs 3), (52, vi .i64 (len x_10.More)), (53, vi .i64 0)] [] [] [] (by kernel_rfl) ?_
               refine SC.block ?_
               obtain ⟨o3, hi3, ho3⟩ := bind_inv hp
               clear hp
               refine SC.loop (fun n a w => ∃ (x_13 : Int), iter (fun s => database_count_l3 F x_10 x_12 s) n (x_13) = some o3 ∧ A 71 1 fx [(4, vi .i64 x_12), (13, vs 0), (14, vi .i64 (len l_1)), (15, vi .i64 x_4), (22, vs 1), (23, vi .i64 (len x_6.Chars)), (24, vi .i64 x_8), (51, vs 2), (52, vi .i64 (len x_10.More)), (53, vi .i64 x_13)] [.rd 4 R_T_api_Service l_1, .rd 6 R_T_api_Char x_6.Chars, .rd 5 R_T_api_Attribute x_10.More] a w) F (fun a w h => ⟨0, hi3, h.at (js := [.g 0, .g 4, .g 3]) (by kernel_rfl)⟩) ?_
               rintro n3 a w ⟨x_13, hi3, h⟩
               obtain ⟨n3, q3, rfl, hp, hs3⟩ := iter_inv hi3
               replace hp : database_count_l3 F x_10 x_12 x_13 = some q3 := hp
               clear hi3
               refine h.go ?_
               refine SC.r tk [(4, vi .i64 x_12), (13, vs 0), (14, vi .i64 (len l_1)), (15, vi .i64 x_4), (22, vs 1), (23, vi .i64 (len x_6.Chars)), (24, vi .i64 x_8), (51, vs 2), (52, vi .i64 (len x_10.More)), (53, vi .i64 x_13), (54, vb (decide (x_13 < (len x_10.More))))] [] [] [] (by kernel_rfl) ?_
               refine SC.seq ?_
               refine SC.if' rfl hp (fun hp => ?_) (fun hp => ?_)
               · refine SC.skipThen ?_
                 refine SC.seq ?_
                 refine SC.block ?_
                 refine SC.seq ?_
                 refine SC.reg ?_
                 obtain ⟨x_14, e_x_14, hp⟩ := bind_inv hp
                 refine SL.pre (pre_ix (i := 2) (iv := x_13) (sz := 5) (R := R_T_api_Attribute) (l := x_10.More) (by kernel_rfl) rfl e_x_14) ?_
                 refine SL.sim tk 2 [(4, vi .i64 x_12), (13, vs 0), (14, vi .i64 (len l_1)), (15, vi .i64 x_4), (22, vs 1), (23, vi .i64 (len x_6.Chars)), (24, vi .i64 x_8), (51, vs 2), (52, vi .i64 (len x_10.More)), (53, vi .i64 x_13), (56, .g (C_api_Attribute x_14 (.s 4)))] [] [.el 3] [x_13] (by kernel_rfl) ?_
                 refine SL.eff (e_alloc (E := 39) tk [ci .u16 0, ci .u64 0, ci .u64 0, ci .i64 0, nl] (by kernel_rfl)) rfl (by kernel_rfl) ?_
                 refine SL.sim tk 1 [(4, vi .i64 x_12), (11, vp 5 0), (13, vs 0), (14, vi .i64 (len l_1)), (15, vi .i64 x_4), (22, vs 1), (23, vi .i64 (len x_6.Chars)), (24, vi .i64 x_8), (51, vs 2), (52, vi .i64 (len x_10.More)), (53, vi .i64 x_13)] [(5, 39, (C_api_Attribute x_14 (.s 4)))] [] [] (by kernel_rfl) ?_
                 refine SL.nilThen ?_
                 refine SC.seq ?_
                 refine SC.reg ?_
                 refine SL.sim tk 6 [(4, vi .i64 x_12), (13, vs 0), (14, vi .i64 (len l_1)), (15, vi .i64 x_4), (22, vs 1), (23, vi .i64 (len x_6.Chars)), (24, vi .i64 x_8), (51, vs 2), (52, vi .i64 (len x_10.More)), (53, vi .i64 x_13), (58, .g (C_api_UUID x_14.f_Type)), (60, vi .i64 x_14.Perms), (62, vs 4)] [] [] [] (by kernel_rfl) ?_
                 obtain ⟨x_15, e_x_15, hp⟩ := bind_inv hp
                 refine SL.eff (e_c Try.call73 (ok_database_chosen F x_14.f_Type 0 x_14.Perms x_14.Value _ e_x_15) [.g 4] [.g (C_api_UUID x_14.f_Type), vi .i64 0, vi .i64 x_14.Perms, vs 4] (vi .i64 x_15) (by kernel_rfl) (.inl rfl)) rfl (by kernel_rfl) ?_
                 refine SL.norm (itsN := [.rd 4 R_T_api_Service l_1, .rd 6 R_T_api_Char x_6.Chars, .rd 5 R_T_api_Attribute x_10.More, .elt (some (2, x_13)) false (C_api_Attribute x_14 (.s 4)), .rd 1 R8 x_14.Value, .blk 39 (C_api_Attribute x_14 (.s 4))]) (by kernel_rfl) ?_
                 refine SL.sim tk 1 [(4, vi .i64 x_12), (12, vi .i64 x_15), (13, vs 0), (14, vi .i64 (len l_1)), (15, vi .i64 x_4), (22, vs 1), (23, vi .i64 (len x_6.Chars)), (24, vi .i64 x_8), (51, vs 2), (52, vi .i64 (len x_10.More)), (53, vi .i64 x_13)] [] [] [] (by kernel_rfl) ?_
                 refine SL.nilThen ?_
                 refine SC.r tk [(4, vi .i64 x_12), (12, vi .i64 x_15), (13, vs 0), (14, vi .i64 (len l_1)), (15, vi .i64 x_4), (22, vs 1), (23, vi .i64 (len x_6.Chars)), (24, vi .i64 x_8), (51, vs 2), (52, vi .i64 (len x_10.More)), (53, vi .i64 x_13), (65, vb (x_15 != 0))] [] [] [] (by kernel_rfl) ?_
                 refine SC.if' rfl hp (fun hp => ?_) (fun hp => ?_)
                 · refine SC.r tk [(2, vi .i64 0), (3, vi .i64 x_15)] [] [] [] (by kernel_rfl) ?_
                   have ho := done_inv hp hs3
                   replace hp := ho3
                   try rw [ho] at hp
                   have ho := done_inv hp hs2
                   replace hp := ho2
                   try rw [ho] at hp
                   have ho := done_inv hp hs1
                   replace hp := ho1
                   try rw [ho] at hp
                   obtain rfl := some_inv' hp
                   exact SC.re (js := [.g 0]) tk (by kernel_rfl)
                 · refine SC.skipThen ?_
                   refine SC.reg ?_
                   refine SL.sim tk 2 [(4, vi .i64 x_12), (13, vs 0), (14, vi .i64 (len l_1)), (15, vi .i64 x_4), (22, vs 1), (23, vi .i64 (len x_6.Chars)), (24, vi .i64 x_8), (51, vs 2), (52, vi .i64 (len x_10.More)), (53, vi .i64 (w64 (x_13 + 1)))] [] [] [] (by kernel_rfl) ?_
                   refine SL.nilJ fun a w h => ?_
                   exact ⟨n3, Nat.lt_succ_self _, w64 (x_13 + 1), next_inv hp hs3, h.at (js := [.g 0, .g 1, .g 2]) (by kernel_rfl)⟩
               · refine SC.exitJ rfl fun a w h => ?_
                 have ho := done_inv hp hs3
                 replace hp := ho3
                 try rw [ho] at hp
                 exact ⟨x_12, hp, h.at (js := [.g 0, .g 1]) (by kernel_rfl)⟩
         · rintro a w ⟨x_9, hp, h⟩
           refine h.go ?_
           refine SC.reg ?_
           refine SL.sim tk 2 [(4, vi .i64 x_9), (13, vs 0), (14, vi .i64 (len l_1)), (15, vi .i64 x_4), (22, vs 1), (23, vi .i64 (len x_6.Chars)), (24, vi .i64 (w64 (x_8 + 1)))] [] [] [] (by kernel_rfl) ?_
           refine SL.nilJ fun a w h => ?_
           exact ⟨n2, Nat.lt_succ_self _, x_9, w64 (x_8 + 1), next_inv hp hs2, h.at (js := [.g 0, .g 1]) (by kernel_rfl)⟩
       · refine SC.exitJ rfl fun a w h => ?_
         have ho := done_inv hp hs2
         replace hp := ho2
         try rw [ho] at hp
         exact ⟨x_7, hp, h.at (js := [.g 0]) (by kernel_rfl)⟩
     · rintro a w ⟨x_5, hp, h⟩
       refine h.go ?_
       refine SC.reg ?_
       refine SL.sim tk 2 [(4, vi .i64 x_5), (13, vs 0), (14, vi .i64 (len l_1)), (15, vi .i64 (w64 (x_4 + 1)))] [] [] [] (by kernel_rfl) ?_
       refine SL.nilJ fun a w h => ?_
       exact ⟨n1, Nat.lt_succ_self _, x_5, w64 (x_4 + 1), next_inv hp hs1, h.at (js := [.g 0]) (by kernel_rfl)⟩
   · refine SC.exitJ rfl fun a w h => ?_
     have ho := done_inv hp hs1
     replace hp := ho1
     try rw [ho] at hp
     exact ⟨x_3, hp, h.at (js := [.g 0]) (by kernel_rfl)⟩
 · rintro a w ⟨x_2, hp, h⟩
   refine h.go ?_
   refine SC.r tk [(2, vi .i64 x_2), (3, vi .i64 0)] [] [] [] (by kernel_rfl) ?_
   obtain rfl := some_inv' hp
   exact SC.re (js := [.g 0]) tk (by kernel_rfl)

theorem ok_uuid_Short (F : Nat) (n_1 : Int) (r : T_api_UUID) (hp : uuid_Short F n_1 = some r) : Spec Try.prog 42 [vi .u16 n_1] [] (.g [ci .u64 r.High, ci .u64 r.Low]) [] := by
 refine Spec.enter Try.func42 rfl Try.ntmps42 rfl rfl fun fx => ?_
 refine SC.seq ?_
 refine SC.reg ?_
 refine SL.eff (e_alloc (E := 36) tk [ci .u64 0, ci .u64 0] (by kernel_rfl)) rfl (by kernel_rfl) ?_
 refine SL.nilThen ?_
 refine SC.r tk [(2, vp 0 0)] [(0, 36, [ci .u64 (ior .u64 (shlp .u64 (wu64 n_1) 32) 4096), ci .u64 9223372588214596859])] [.bin .shl .u64 (wu64 n_1) 32 (shlp .u64 (wu64 n_1) 32) (by kernel_rfl)] [wu64 n_1, 32] (by kernel_rfl) ?_
 obtain rfl := some_inv' hp
 exact SC.re (js := []) tk (by kernel_rfl)

theorem ok_octets_Join (F : Nat) (parts_1 : (List (List Int))) (r : (List Int)) (hp : octets_Join F parts_1 = some r) : Spec Try.prog 41 [vs 0] [.rd 1 (RSl 1 R8) parts_1] (vs 1) [.gone, .rd 1 R8 r] := by
 refine Spec.enter Try.func41 rfl Try.ntmps41 rfl rfl fun fx => ?_
 refine SC.r tk [(0, vs 0)] [] [] [] (by kernel_rfl) ?_
 refine SC.r tk [(0, vs 0), (3, vn)] [] [] [] (by kernel_rfl) ?_
 refine SC.cut (fun a w => ∃ (l_2 : (List Int)), octets_Join_j1 F l_2 = some r ∧ A 17 1 fx [(3, vs 1)] [.gone, .own 1 5 R8 l_2] a w) ?_ ?_
 · refine SC.r tk [(3, vn), (6, vs 0), (7, vi .i64 (len parts_1)), (8, vi .i64 0)] [] [] [] (by kernel_rfl) ?_
   refine SC.block ?_
   obtain ⟨o1, hi1, ho1⟩ := bind_inv hp
   clear hp
   refine SC.loop (fun n a w => ∃ (l_3 : (List Int)) (x_4 : Int), iter (fun s => octets_Join_l1 F parts_1 s.1 s.2) n (l_3, x_4) = some o1 ∧ A 17 1 fx [(3, vs 1), (6, vs 0), (7, vi .i64 (len parts_1)), (8, vi .i64 x_4)] [.rd 1 (RSl 1 R8) parts_1, .own 1 5 R8 l_3] a w) F (fun a w h => ⟨[], 0, hi1, h.at (js := [.g 0, .n]) (by kernel_rfl)⟩) ?_
   rintro n1 a w ⟨l_3, x_4, hi1, h⟩
   obtain ⟨n1, q1, rfl, hp, hs1⟩ := iter_inv hi1
   replace hp : octets_Join_l1 F parts_1 l_3 x_4 = some q1 := hp
   clear hi1
   refine h.go ?_
   refine SC.r tk [(3, vs 1), (6, vs 0), (7, vi .i64 (len parts_1)), (8, vi .i64 x_4), (9, vb (decide (x_4 < (len parts_1))))] [] [] [] (by kernel_rfl) ?_
   refine SC.seq ?_
   refine SC.if' rfl hp (fun hp => ?_) (fun hp => ?_)
   · refine SC.skipThen ?_
     refine SC.seq ?_
     refine SC.block ?_
     obtain ⟨x_5, e_x_5, hp⟩ := bind_inv hp
     refine SC.pre (pre_ix (i := 0) (iv := x_4) (sz := 1) (R := (RSl 1 R8)) (l := parts_1) (by kernel_rfl) rfl e_x_5) ?_
     refine SC.r tk [(3, vs 1), (5, vs 3), (6, vs 0), (7, vi .i64 (len parts_1)), (8, vi .i64 x_4)] [] [.el 2] [x_4] (by kernel_rfl) ?_
     refine SC.reg ?_
     refine SL.sim tk 2 [(3, vs 1), (6, vs 0), (7, vi .i64 (len parts_1)), (8, vi .i64 x_4), (12, vs 1), (13, vs 3)] [] [] [] (by kernel_rfl) ?_
     obtain ⟨l_6, e_l_6, hp⟩ := bind_inv hp
     refine SL.eff (e_app (i := 1) (l := l_3) (sz := 1) (E := 5) (R := R8) (by_ := 1) (m := x_5) tk rfl (by kernel_rfl) rfl (.r (by kernel_rfl)) e_l_6 (by kernel_rfl)) rfl (by kernel_rfl) ?_
     refine SL.sim tk 1 [(3, vs 4), (6, vs 0), (7, vi .i64 (len parts_1)), (8, vi .i64 x_4)] [] [] [] (by kernel_rfl) ?_
     refine SL.nilThen ?_
     refine SC.reg ?_
     refine SL.sim tk 2 [(3, vs 4), (6, vs 0), (7, vi .i64 (len parts_1)), (8, vi .i64 (w64 (x_4 + 1)))] [] [] [] (by kernel_rfl) ?_
     refine SL.nilJ fun a w h => ?_
     exact ⟨n1, Nat.lt_succ_self _, l_6, w64 (x_4 + 1), next_inv hp hs1, h.at (js := [.g 0, .g 4]) (by kernel_rfl)⟩
   · refine SC.exitJ rfl fun a w h => ?_
     have ho := done_inv hp hs1
     replace hp := ho1
     try rw [ho] at hp
     exact ⟨l_3, hp, h.at (js := [.g 0, .g 1]) (by kernel_rfl)⟩
 · rintro a w ⟨l_2, hp, h⟩
   refine h.go ?_
   refine SC.r tk [(2, vs 1)] [] [] [] (by kernel_rfl) ?_
   obtain rfl := some_inv' hp
   exact SC.re (js := [.g 0, .z 1]) tk (by kernel_rfl)

theorem ok_uuid_Encode (F : Nat) (u_1 : T_api_UUID) (r : (List Int)) (hp : uuid_Encode F u_1 = some r) : Spec Try.prog 43 [.g (C_api_UUID u_1)] [] (vs 0) [.rd 1 R8 r] := by
 refine Spec.enter Try.func43 rfl Try.ntmps43 rfl rfl fun fx => ?_
 refine SC.seq ?_
 refine SC.reg ?_
 refine SL.eff (e_box (E := 36) (C_api_UUID u_1) (by kernel_rfl)) rfl (by kernel_rfl) ?_
 refine SL.sim tk 1 [(1, vp 0 0)] [] [] [] (by kernel_rfl) ?_
 refine SL.nilThen ?_
 refine SC.seq ?_
 refine SC.seq ?_
 refine SC.reg ?_
 refine SL.sim tk 1 [(1, vp 0 0), (7, .g (C_api_UUID u_1))] [] [] [] (by kernel_rfl) ?_
 obtain ⟨x_2, e_x_2, hp⟩ := bind_inv hp
 refine SL.eff (e_c Try.call68 (ok_uuid_Number F u_1 _ e_x_2) [] [.g (C_api_UUID u_1)] (.u [.inl (ci .u16 x_2.1), .inl (cb x_2.2)]) (by kernel_rfl) (.inl rfl)) rfl (by kernel_rfl) ?_
 refine SL.sim tk 5 [(1, vp 0 0), (3, vi .u16 x_2.1), (4, vb x_2.2)] [] [] [] (by kernel_rfl) ?_
 refine SL.nilThen ?_
 refine SC.r tk [(1, vp 0 0), (3, vi .u16 x_2.1), (11, vb x_2.2)] [] [] [] (by kernel_rfl) ?_
 refine SC.if' rfl hp (fun hp => ?_) (fun hp => ?_)
 · refine SC.seq ?_
   refine SC.reg ?_
   refine SL.sim tk 5 [(13, vi .u8 (wu8 x_2.1)), (16, vi .u8 (wu8 (shrp x_2.1 8)))] [] [.bin .shr .u16 x_2.1 8 (shrp x_2.1 8) (by kernel_rfl)] [x_2.1, 8] (by kernel_rfl) ?_
   refine SL.eff (e_lit (sz := 1) (E := 5) (R := R8) (by_ := 1) tk [[ci .u8 (wu8 x_2.1)], [ci .u8 (wu8 (shrp x_2.1 8))]] [wu8 x_2.1, wu8 (shrp x_2.1 8)] (by kernel_rfl) ⟨Clo.int, ⟨Clo.int, trivial⟩⟩ rfl (by kernel_rfl) (by kernel_rfl)) rfl (by kernel_rfl) ?_
   refine SL.norm (itsN := [.blk 36 (C_api_UUID u_1), .own 1 5 R8 [wu8 x_2.1, wu8 (shrp x_2.1 8)]]) (by kernel_rfl) ?_
   refine SL.sim tk 1 [(2, vs 1)] [] [] [] (by kernel_rfl) ?_
   refine SL.nilThen ?_
   obtain rfl := some_inv' hp
   exact SC.re (js := [.z 1]) tk (by kernel_rfl)
 · refine SC.skipThen ?_
   refine SC.seq ?_
   refine SC.reg ?_
   refine SL.sim tk 1 [(18, .g (C_api_UUID u_1))] [] [] [] (by kernel_rfl) ?_
   obtain ⟨x_3, e_x_3, hp⟩ := bind_inv hp
   refine SL.eff (e_c Try.call74 (ok_uuid_bytes F u_1 _ e_x_3) [] [.g (C_api_UUID u_1)] (.g [ci .u8 x_3.1, ci .u8 x_3.2.1, ci .u8 x_3.2.2.1, ci .u8 x_3.2.2.2.1, ci .u8 x_3.2.2.2.2.1, ci .u8 x_3.2.2.2.2.2.1, ci .u8 x_3.2.2.2.2.2.2.1, ci .u8 x_3.2.2.2.2.2.2.2.1, ci .u8 x_3.2.2.2.2.2.2.2.2.1, ci .u8 x_3.2.2.2.2.2.2.2.2.2.1, ci .u8 x_3.2.2.2.2.2.2.2.2.2.2.1, ci .u8 x_3.2.2.2.2.2.2.2.2.2.2.2.1, ci .u8 x_3.2.2.2.2.2.2.2.2.2.2.2.2.1, ci .u8 x_3.2.2.2.2.2.2.2.2.2.2.2.2.2.1, ci .u8 x_3.2.2.2.2.2.2.2.2.2.2.2.2.2.2.1, ci .u8 x_3.2.2.2.2.2.2.2.2.2.2.2.2.2.2.2]) (by kernel_rfl) (.inl rfl)) rfl (by kernel_rfl) ?_
   refine SL.norm (itsN := [.blk 36 (C_api_UUID u_1)]) (by kernel_rfl) ?_
   refine SL.eff (e_alloc (E := 96) tk [ci .u8 0, ci .u8 0, ci .u8 0, ci .u8 0, ci .u8 0, ci .u8 0, ci .u8 0, ci .u8 0, ci .u8 0, ci .u8 0, ci .u8 0, ci .u8 0, ci .u8 0, ci .u8 0, ci .u8 0, ci .u8 0] (by kernel_rfl)) rfl (by kernel_rfl) ?_
   refine SL.sim tk 1 [(5, vp 1 0)] [(1, 96, [ci .u8 x_3.1, ci .u8 x_3.2.1, ci .u8 x_3.2.2.1, ci .u8 x_3.2.2.2.1, ci .u8 x_3.2.2.2.2.1, ci .u8 x_3.2.2.2.2.2.1, ci .u8 x_3.2.2.2.2.2.2.1, ci .u8 x_3.2.2.2.2.2.2.2.1, ci .u8 x_3.2.2.2.2.2.2.2.2.1, ci .u8 x_3.2.2.2.2.2.2.2.2.2.1, ci .u8 x_3.2.2.2.2.2.2.2.2.2.2.1, ci .u8 x_3.2.2.2.2.2.2.2.2.2.2.2.1, ci .u8 x_3.2.2.2.2.2.2.2.2.2.2.2.2.1, ci .u8 x_3.2.2.2.2.2.2.2.2.2.2.2.2.2.1, ci .u8 x_3.2.2.2.2.2.2.2.2.2.2.2.2.2.2.1, ci .u8 x_3.2.2.2.2.2.2.2.2.2.2.2.2.2.2.2])] [] [] (by kernel_rfl) ?_
   refine SL.nilThen ?_
   refine SC.seq ?_
   refine SC.reg ?_
   refine SL.eff (e_arrs (l := [x_3.1, x_3.2.1, x_3.2.2.1, x_3.2.2.2.1, x_3.2.2.2.2.1, x_3.2.2.2.2.2.1, x_3.2.2.2.2.2.2.1, x_3.2.2.2.2.2.2.2.1, x_3.2.2.2.2.2.2.2.2.1, x_3.2.2.2.2.2.2.2.2.2.1, x_3.2.2.2.2.2.2.2.2.2.2.1, x_3.2.2.2.2.2.2.2.2.2.2.2.1, x_3.2.2.2.2.2.2.2.2.2.2.2.2.1, x_3.2.2.2.2.2.2.2.2.2.2.2.2.2.1, x_3.2.2.2.2.2.2.2.2.2.2.2.2.2.2.1, x_3.2.2.2.2.2.2.2.2.2.2.2.2.2.2.2]) (T := 96) (cs := [ci .u8 x_3.1, ci .u8 x_3.2.1, ci .u8 x_3.2.2.1, ci .u8 x_3.2.2.2.1, ci .u8 x_3.2.2.2.2.1, ci .u8 x_3.2.2.2.2.2.1, ci .u8 x_3.2.2.2.2.2.2.1, ci .u8 x_3.2.2.2.2.2.2.2.1, ci .u8 x_3.2.2.2.2.2.2.2.2.1, ci .u8 x_3.2.2.2.2.2.2.2.2.2.1, ci .u8 x_3.2.2.2.2.2.2.2.2.2.2.1, ci .u8 x_3.2.2.2.2.2.2.2.2.2.2.2.1, ci .u8 x_3.2.2.2.2.2.2.2.2.2.2.2.2.1, ci .u8 x_3.2.2.2.2.2.2.2.2.2.2.2.2.2.1, ci .u8 x_3.2.2.2.2.2.2.2.2.2.2.2.2.2.2.1, ci .u8 x_3.2.2.2.2.2.2.2.2.2.2.2.2.2.2.2]) tk rfl (by kernel_rfl) (by kernel_rfl) (by kernel_rfl)) rfl (by kernel_rfl) ?_
   refine SL.eff (e_lit (sz := 1) (E := 37) (R := (RSl 1 R8)) (by_ := 24) tk [[.s 2]] [[x_3.1, x_3.2.1, x_3.2.2.1, x_3.2.2.2.1, x_3.2.2.2.2.1, x_3.2.2.2.2.2.1, x_3.2.2.2.2.2.2.1, x_3.2.2.2.2.2.2.2.1, x_3.2.2.2.2.2.2.2.2.1, x_3.2.2.2.2.2.2.2.2.2.1, x_3.2.2.2.2.2.2.2.2.2.2.1, x_3.2.2.2.2.2.2.2.2.2.2.2.1, x_3.2.2.2.2.2.2.2.2.2.2.2.2.1, x_3.2.2.2.2.2.2.2.2.2.2.2.2.2.1, x_3.2.2.2.2.2.2.2.2.2.2.2.2.2.2.1, x_3.2.2.2.2.2.2.2.2.2.2.2.2.2.2.2]] (by kernel_rfl) ⟨(Clo.sl (by kernel_rfl)), trivial⟩ rfl (by kernel_rfl) (by kernel_rfl)) rfl (by kernel_rfl) ?_
   refine SL.norm (itsN := [.blk 36 (C_api_UUID u_1), .gone, .rd 1 R8 [x_3.1, x_3.2.1, x_3.2.2.1, x_3.2.2.2.1, x_3.2.2.2.2.1, x_3.2.2.2.2.2.1, x_3.2.2.2.2.2.2.1, x_3.2.2.2.2.2.2.2.1, x_3.2.2.2.2.2.2.2.2.1, x_3.2.2.2.2.2.2.2.2.2.1, x_3.2.2.2.2.2.2.2.2.2.2.1, x_3.2.2.2.2.2.2.2.2.2.2.2.1, x_3.2.2.2.2.2.2.2.2.2.2.2.2.1, x_3.2.2.2.2.2.2.2.2.2.2.2.2.2.1, x_3.2.2.2.2.2.2.2.2.2.2.2.2.2.2.1, x_3.2.2.2.2.2.2.2.2.2.2.2.2.2.2.2], .own 1 37 (RSl 1 R8) [[x_3.1, x_3.2.1, x_3.2.2.1, x_3.2.2.2.1, x_3.2.2.2.2.1, x_3.2.2.2.2.2.1, x_3.2.2.2.2.2.2.1, x_3.2.2.2.2.2.2.2.1, x_3.2.2.2.2.2.2.2.2.1, x_3.2.2.2.2.2.2.2.2.2.1, x_3.2.2.2.2.2.2.2.2.2.2.1, x_3.2.2.2.2.2.2.2.2.2.2.2.1, x_3.2.2.2.2.2.2.2.2.2.2.2.2.1, x_3.2.2.2.2.2.2.2.2.2.2.2.2.2.1, x_3.2.2.2.2.2.2.2.2.2.2.2.2.2.2.1, x_3.2.2.2.2.2.2.2.2.2.2.2.2.2.2.2]]]) (by kernel_rfl) ?_
   obtain ⟨x_4, e_x_4, hp⟩ := bind_inv hp
   refine SL.pre (pre_frz (i := 3) (sz := 1) (E := 37) (R := (RSl 1 R8)) (l := [[x_3.1, x_3.2.1, x_3.2.2.1, x_3.2.2.2.1, x_3.2.2.2.2.1, x_3.2.2.2.2.2.1, x_3.2.2.2.2.2.2.1, x_3.2.2.2.2.2.2.2.1, x_3.2.2.2.2.2.2.2.2.1, x_3.2.2.2.2.2.2.2.2.2.1, x_3.2.2.2.2.2.2.2.2.2.2.1, x_3.2.2.2.2.2.2.2.2.2.2.2.1, x_3.2.2.2.2.2.2.2.2.2.2.2.2.1, x_3.2.2.2.2.2.2.2.2.2.2.2.2.2.1, x_3.2.2.2.2.2.2.2.2.2.2.2.2.2.2.1, x_3.2.2.2.2.2.2.2.2.2.2.2.2.2.2.2]]) (by kernel_rfl)) ?_
   refine SL.eff (e_c Try.call41 (ok_octets_Join F [[x_3.1, x_3.2.1, x_3.2.2.1, x_3.2.2.2.1, x_3.2.2.2.2.1, x_3.2.2.2.2.2.1, x_3.2.2.2.2.2.2.1, x_3.2.2.2.2.2.2.2.1, x_3.2.2.2.2.2.2.2.2.1, x_3.2.2.2.2.2.2.2.2.2.1, x_3.2.2.2.2.2.2.2.2.2.2.1, x_3.2.2.2.2.2.2.2.2.2.2.2.1, x_3.2.2.2.2.2.2.2.2.2.2.2.2.1, x_3.2.2.2.2.2.2.2.2.2.2.2.2.2.1, x_3.2.2.2.2.2.2.2.2.2.2.2.2.2.2.1, x_3.2.2.2.2.2.2.2.2.2.2.2.2.2.2.2]] _ e_x_4) [.g 3] [vs 3] (vs 4) (by kernel_rfl) (.inl rfl)) rfl (by kernel_rfl) ?_
   refine SL.sim tk 1 [(2, vs 4)] [] [] [] (by kernel_rfl) ?_
   refine SL.nilThen ?_
   obtain rfl := some_inv' hp
   exact SC.re (js := [.g 4]) tk (by kernel_rfl)

theorem ok_database_Build_1 (F : Nat) (u_1 : T_api_UUID) (perms_2 : Int) (parts_3 : (List (List Int))) (p_4 : (List T_api_Attribute)) (p_5 : Int) (r : (List T_api_Attribute) × Int) (hp : database_Build_1 F u_1 perms_2 parts_3 p_4 p_5 = some r) : Spec Try.prog 40 [.g (C_api_UUID u_1), vi .i64 perms_2, vs 0, vp 1 0, vp 3 0] [.rd 1 (RSl 1 R8) parts_3, .blk 22 [.s 2], .own 5 39 R_T_api_Attribute p_4, .blk 28 [ci .u16 p_5]] (.u []) [.gone, .blk 22 [.s 4], .gone, .blk 28 [ci .u16 r.2], .own 5 39 R_T_api_Attribute r.1] := by
 refine Spec.enter Try.func40 rfl Try.ntmps40 rfl rfl fun fx => ?_
 refine SC.seq ?_
 refine SC.reg ?_
 refine SL.eff (e_box (E := 36) (C_api_UUID u_1) (by kernel_rfl)) rfl (by kernel_rfl) ?_
 refine SL.nilThen ?_
 refine SC.cut (fun a w => ∃ (l_6 : (List T_api_Attribute)), database_Build_1_j1 F p_5 l_6 = some r ∧ A 19 4 fx [(4, vp 3 0)] [.gone, .blk 22 [.s 4], .gone, .blk 28 [ci .u16 p_5], .own 5 39 R_T_api_Attribute l_6] a w) ?_ ?_
 · refine SC.draw MO [true, false, false, true, true] (by kernel_rfl) fun kap_7 D_8 => ?_
   refine SD.takes tk D_8 [] kn0 [1, 2, 3, 4] [] [] [O, I, I, I, I, O, O, O, O, O] [(3, vp 1 0), (4, vp 3 0), (9, vi .u16 p_5), (10, .g (C_api_UUID u_1)), (11, vi .i64 perms_2), (12, vs 0)] rfl (by kernel_rfl) (by kernel_rfl) (by kernel_rfl) ?_
   obtain ⟨x_409, e_x_409, hp⟩ := bind_inv hp
   obtain ⟨l_649, e_l_649, hp⟩ := bind_inv hp
   refine SD.lay 0 [I, I, I, I, I, I, I, I, I, I] [(4, vp 3 0)] [.rd 1 (RSl 1 R8) parts_3, .blk 22 [.s 7], .gone, .blk 28 [ci .u16 p_5], .blk 36 (C_api_UUID u_1), .gone, .gone, .own 5 39 R_T_api_Attribute l_649] ?_ (fun c_8_0 => ?_)
   · refine SD.done (by kernel_rfl) fun a w h => ?_
     exact ⟨l_649, hp, h.at (js := [.g 0, .g 1, .g 2, .g 3, .g 7]) (by kernel_rfl)⟩
   · refine SD.lay 1 [I, I, I, I, I, I, I, I, I, O] [(3, vp 1 0), (4, vp 3 0), (16, vs 7)] [.rd 1 (RSl 1 R8) parts_3, .blk 22 [.s 2], .gone, .blk 28 [ci .u16 p_5], .blk 36 (C_api_UUID u_1), .gone, .gone, .own 5 39 R_T_api_Attribute l_649] ?_ (fun c_8_1 => ?_)
     · refine SD.all1 (i := 9) (by kernel_rfl) ?_
       refine SW.store D_8 tk (i := 9) (q := 1) (T := 22) (cs := [.s 7]) (bs' := [I, I, I, I, I, I, I, I, I, I]) rfl (by kernel_rfl) rfl rfl (by kernel_rfl) ?_
       exact SD.vie D_8 [.g 0, .g 1, .g 2, .g 3, .g 4, .n, .n, .g 7] c_8_0 (by kernel_rfl)
     · refine SD.lay 2 [I, I, I, I, I, I, I, I, O, O] [(3, vp 1 0), (4, vp 3 0), (8, vs 2), (15, vs 6)] [.rd 1 (RSl 1 R8) parts_3, .blk 22 [.s 2], .own 5 39 R_T_api_Attribute p_4, .blk 28 [ci .u16 p_5], .blk 36 (C_api_UUID u_1), .gone, .own 5 39 R_T_api_Attribute [(T_api_Attribute.mk p_5 u_1 perms_2 x_409)]] ?_ (fun c_8_2 => ?_)
       · refine SD.all1 (i := 8) (by kernel_rfl) ?_
         refine SW.eff D_8 (i := 8) (bs' := [I, I, I, I, I, I, I, I, I, O]) rfl (.inl rfl) rfl (e_app (i := 2) (l := p_4) (sz := 5) (E := 39) (R := R_T_api_Attribute) (by_ := 56) (m := [(T_api_Attribute.mk p_5 u_1 perms_2 x_409)]) tk rfl (by kernel_rfl) rfl (.o 39 (by kernel_rfl)) e_l_649 (by kernel_rfl)) (by kernel_rfl) rfl (by kernel_rfl) ?_
         exact SD.vie D_8 [.g 0, .g 1, .g 2, .g 3, .g 4, .n, .n, .g 7] c_8_1 (by kernel_rfl)
       · refine SD.lay 3 [I, I, I, I, I, I, I, O, O, O] [(3, vp 1 0), (4, vp 3 0), (8, vs 2), (14, .g (C_api_Attribute (T_api_Attribute.mk p_5 u_1 perms_2 x_409) (.s 5)))] [.rd 1 (RSl 1 R8) parts_3, .blk 22 [.s 2], .own 5 39 R_T_api_Attribute p_4, .blk 28 [ci .u16 p_5], .blk 36 (C_api_UUID u_1), .rd 1 R8 x_409] ?_ (fun c_8_3 => ?_)
         · refine SD.all1 (i := 7) (by kernel_rfl) ?_
           refine SW.eff D_8 (i := 7) (bs' := [I, I, I, I, I, I, I, I, O, O]) rfl (.inl rfl) rfl (e_lit (sz := 5) (E := 39) (R := R_T_api_Attribute) (by_ := 56) tk [(C_api_Attribute (T_api_Attribute.mk p_5 u_1 perms_2 x_409) (.s 5))] [(T_api_Attribute.mk p_5 u_1 perms_2 x_409)] (by kernel_rfl) ⟨(clo_T_api_Attribute (x := (T_api_Attribute.mk p_5 u_1 perms_2 x_409)) (Clo.sl (by kernel_rfl))), trivial⟩ rfl (by kernel_rfl) (by kernel_rfl)) (by kernel_rfl) rfl (by kernel_rfl) ?_
           exact SD.vie D_8 [.g 0, .g 1, .g 2, .g 3, .g 4, .n, .g 6] c_8_2 (by kernel_rfl)
         · refine SD.lay 4 [I, I, I, I, I, I, O, O, O, O] [(3, vp 1 0), (4, vp 3 0), (8, vs 2), (9, vi .u16 p_5), (10, .g (C_api_UUID u_1)), (11, vi .i64 perms_2), (13, vs 5)] [.rd 1 (RSl 1 R8) parts_3, .blk 22 [.s 2], .own 5 39 R_T_api_Attribute p_4, .blk 28 [ci .u16 p_5], .blk 36 (C_api_UUID u_1), .rd 1 R8 x_409] ?_ (fun c_8_4 => ?_)
           · refine SD.all1 (i := 6) (by kernel_rfl) ?_
             refine SW.eff D_8 (i := 6) (v := .g (C_api_Attribute (T_api_Attribute.mk p_5 u_1 perms_2 x_409) (.s 5))) (bs' := [I, I, I, I, I, I, I, O, O, O]) rfl (.inl rfl) rfl (e_val tk (by kernel_rfl)) (by kernel_rfl) rfl (by kernel_rfl) ?_
             exact SD.vie D_8 [.g 0, .g 1, .g 2, .g 3, .g 4, .g 5] c_8_3 (by kernel_rfl)
           · refine SD.lay 5 [I, I, I, I, I, O, O, O, O, O] [(3, vp 1 0), (4, vp 3 0), (8, vs 2), (9, vi .u16 p_5), (10, .g (C_api_UUID u_1)), (11, vi .i64 perms_2), (12, vs 0)] [.rd 1 (RSl 1 R8) parts_3, .blk 22 [.s 2], .own 5 39 R_T_api_Attribute p_4, .blk 28 [ci .u16 p_5], .blk 36 (C_api_UUID u_1)] ?_ (fun c_8_5 => ?_)
             · refine SD.all1 (i := 5) (by kernel_rfl) ?_
               refine SW.eff D_8 (i := 5) (bs' := [I, I, I, I, I, I, O, O, O, O]) rfl (.inl rfl) rfl (e_c Try.call41 (ok_octets_Join F parts_3 _ e_x_409) [.g 0] [vs 0] (vs 5) (by kernel_rfl) (.inl rfl)) (by kernel_rfl) rfl (by kernel_rfl) ?_
               exact SD.vie D_8 [.g 0, .g 1, .g 2, .g 3, .g 4, .g 5] c_8_4 (by kernel_rfl)
             · refine SD.lay 3 [O, I, I, I, I, I, I, I, O, O] [(3, vp 1 0), (4, vp 3 0), (15, vs 6)] [.rd 1 (RSl 1 R8) parts_3, .blk 22 [.s 2], .own 5 39 R_T_api_Attribute p_4, .blk 28 [ci .u16 p_5], .blk 36 (C_api_UUID u_1), .gone, .own 5 39 R_T_api_Attribute [(T_api_Attribute.mk p_5 u_1 perms_2 x_409)]] ?_ (fun c_8_6 => ?_)
               · refine SD.all1 (i := 0) (by kernel_rfl) ?_
                 refine SW.eff D_8 (i := 0) (v := vs 2) (bs' := [I, I, I, I, I, I, I, I, O, O]) rfl (.inl rfl) rfl (e_val tk (by kernel_rfl)) (by kernel_rfl) rfl (by kernel_rfl) ?_
                 exact SD.vie D_8 [.g 0, .g 1, .g 2, .g 3, .g 4, .n, .g 6] c_8_2 (by kernel_rfl)
               · refine SD.lay 4 [O, I, I, I, I, I, I, O, O, O] [(3, vp 1 0), (4, vp 3 0), (14, .g (C_api_Attribute (T_api_Attribute.mk p_5 u_1 perms_2 x_409) (.s 5)))] [.rd 1 (RSl 1 R8) parts_3, .blk 22 [.s 2], .own 5 39 R_T_api_Attribute p_4, .blk 28 [ci .u16 p_5], .blk 36 (C_api_UUID u_1), .rd 1 R8 x_409] ?_ (fun c_8_7 => ?_)
                 · refine SD.all2 (i := 0) (j := 7) (by kernel_rfl) ?_ ?_
                   · refine SW.eff D_8 (i := 0) (v := vs 2) (bs' := [I, I, I, I, I, I, I, O, O, O]) rfl (.inl rfl) rfl (e_val tk (by kernel_rfl)) (by kernel_rfl) rfl (by kernel_rfl) ?_
                     exact SD.vie D_8 [.g 0, .g 1, .g 2, .g 3, .g 4, .g 5] c_8_3 (by kernel_rfl)
                   · refine SW.eff D_8 (i := 7) (bs' := [O, I, I, I, I, I, I, I, O, O]) rfl (.inl rfl) rfl (e_lit (sz := 5) (E := 39) (R := R_T_api_Attribute) (by_ := 56) tk [(C_api_Attribute (T_api_Attribute.mk p_5 u_1 perms_2 x_409) (.s 5))] [(T_api_Attribute.mk p_5 u_1 perms_2 x_409)] (by kernel_rfl) ⟨(clo_T_api_Attribute (x := (T_api_Attribute.mk p_5 u_1 perms_2 x_409)) (Clo.sl (by kernel_rfl))), trivial⟩ rfl (by kernel_rfl) (by kernel_rfl)) (by kernel_rfl) rfl (by kernel_rfl) ?_
                     exact SD.vie D_8 [.g 0, .g 1, .g 2, .g 3, .g 4, .n, .g 6] c_8_6 (by kernel_rfl)
                 · refine SD.lay 5 [O, I, I, I, I, I, O, O, O, O] [(3, vp 1 0), (4, vp 3 0), (9, vi .u16 p_5), (10, .g (C_api_UUID u_1)), (11, vi .i64 perms_2), (13, vs 5)] [.rd 1 (RSl 1 R8) parts_3, .blk 22 [.s 2], .own 5 39 R_T_api_Attribute p_4, .blk 28 [ci .u16 p_5], .blk 36 (C_api_UUID u_1), .rd 1 R8 x_409] ?_ (fun c_8_8 => ?_)
                   · refine SD.all2 (i := 0) (j := 6) (by kernel_rfl) ?_ ?_
                     · refine SW.eff D_8 (i := 0) (v := vs 2) (bs' := [I, I, I, I, I, I, O, O, O, O]) rfl (.inl rfl) rfl (e_val tk (by kernel_rfl)) (by kernel_rfl) rfl (by kernel_rfl) ?_
                       exact SD.vie D_8 [.g 0, .g 1, .g 2, .g 3, .g 4, .g 5] c_8_4 (by kernel_rfl)
                     · refine SW.eff D_8 (i := 6) (v := .g (C_api_Attribute (T_api_Attribute.mk p_5 u_1 perms_2 x_409) (.s 5))) (bs' := [O, I, I, I, I, I, I, O, O, O]) rfl (.inl rfl) rfl (e_val tk (by kernel_rfl)) (by kernel_rfl) rfl (by kernel_rfl) ?_
                       exact SD.vie D_8 [.g 0, .g 1, .g 2, .g 3, .g 4, .g 5] c_8_7 (by kernel_rfl)
                   · refine SD.all2 (i := 0) (j := 5) (by kernel_rfl) ?_ ?_
                     · refine SW.eff D_8 (i := 0) (v := vs 2) (bs' := [I, I, I, I, I, O, O, O, O, O]) rfl (.inl rfl) rfl (e_val tk (by kernel_rfl)) (by kernel_rfl) rfl (by kernel_rfl) ?_
                       exact SD.vie D_8 [.g 0, .g 1, .g 2, .g 3, .g 4] c_8_5 (by kernel_rfl)
                     · refine SW.eff D_8 (i := 5) (bs' := [O, I, I, I, I, I, O, O, O, O]) rfl (.inl rfl) rfl (e_c Try.call41 (ok_octets_Join F parts_3 _ e_x_409) [.g 0] [vs 0] (vs 5) (by kernel_rfl) (.inl rfl)) (by kernel_rfl) rfl (by kernel_rfl) ?_
                       exact SD.vie D_8 [.g 0, .g 1, .g 2, .g 3, .g 4, .g 5] c_8_8 (by kernel_rfl)
 · rintro a w ⟨l_6, hp, h⟩
   refine h.go ?_
   refine SC.reg ?_
   refine SL.sim tk 3 [] [(3, 28, [ci .u16 (wu16 (p_5 + 1))])] [] [] (by kernel_rfl) ?_
   refine SL.nilJ fun a w h => ?_
   obtain rfl := some_inv' hp
   exact A.re (js := [.g 0, .g 1, .g 2, .g 3, .g 4]) tk h (by kernel_rfl)
end V
end Go.Proofs.Ytchlimkophmjlaa
