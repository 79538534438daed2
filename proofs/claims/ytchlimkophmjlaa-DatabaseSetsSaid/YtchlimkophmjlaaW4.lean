/-
  Walks, written by program: each Go function returns what its pure twin says.
-/
import Derived.Test.YtchlimkophmjlaaW3
namespace Go.Proofs.Ytchlimkophmjlaa
namespace V
theorem ok_mac_Derive (F : Nat) (k_1 : Int) (label_2 : List Int) (parts_3 : (List Int)) (r : Int) (hp : mac_Derive F k_1 label_2 parts_3 = some r) : Spec Try.prog 60 [vi .u64 k_1, vt 0, vs 1] [.str label_2, .rd 1 (RInt .u64) parts_3] (vi .u64 r) [.gone, .gone] := by
 refine Spec.enter Try.func60 rfl Try.ntmps60 rfl rfl fun fx => ?_
 refine SC.r tk [(0, vi .u64 k_1), (1, vt 0), (2, vs 1)] [] [] [] (by kernel_rfl) ?_
 refine SC.seq ?_
 refine SC.reg ?_
 refine SL.sim tk 2 [(2, vs 1), (7, vi .u64 k_1), (8, vt 0)] [] [] [] (by kernel_rfl) ?_
 obtain ⟨l_4, e_l_4, hp⟩ := bind_inv hp
 refine SL.eff (e_s2b (E := 5) tk rfl (.t rfl) e_l_4 (by kernel_rfl)) rfl (by kernel_rfl) ?_
 refine SL.eff (e_lit (sz := 1) (E := 5) (R := R8) (by_ := 1) tk [[ci .u8 0]] [0] (by kernel_rfl) ⟨Clo.int, trivial⟩ rfl (by kernel_rfl) (by kernel_rfl)) rfl (by kernel_rfl) ?_
 refine SL.sim tk 1 [(7, vi .u64 k_1), (9, vs 2), (10, vs 3), (11, vs 1)] [] [] [] (by kernel_rfl) ?_
 obtain ⟨x_5, e_x_5, hp⟩ := bind_inv hp
 refine SL.eff (e_c Try.call79 (ok_mac_bytes F parts_3 _ e_x_5) [.g 1] [vs 1] (vs 4) (by kernel_rfl) (.inl rfl)) rfl (by kernel_rfl) ?_
 refine SL.norm (itsN := [.str label_2, .rd 1 (RInt .u64) parts_3, .own 1 5 R8 l_4, .own 1 5 R8 [0], .rd 1 R8 x_5]) (by kernel_rfl) ?_
 refine SL.pre (pre_frz (i := 3) (sz := 1) (E := 5) (R := R8) (l := [0]) (by kernel_rfl)) ?_
 refine SL.pre (pre_frz (i := 2) (sz := 1) (E := 5) (R := R8) (l := l_4) (by kernel_rfl)) ?_
 refine SL.eff (e_lit (sz := 1) (E := 37) (R := (RSl 1 R8)) (by_ := 24) tk [[.s 2], [.s 3], [.s 4]] [l_4, [0], x_5] (by kernel_rfl) ⟨(Clo.sl (by kernel_rfl)), ⟨(Clo.sl (by kernel_rfl)), ⟨(Clo.sl (by kernel_rfl)), trivial⟩⟩⟩ rfl (by kernel_rfl) (by kernel_rfl)) rfl (by kernel_rfl) ?_
 obtain ⟨x_6, e_x_6, hp⟩ := bind_inv hp
 refine SL.pre (pre_frz (i := 5) (sz := 1) (E := 37) (R := (RSl 1 R8)) (l := [l_4, [0], x_5]) (by kernel_rfl)) ?_
 refine SL.eff (e_c Try.call41 (ok_octets_Join F [l_4, [0], x_5] _ e_x_6) [.g 5] [vs 5] (vs 6) (by kernel_rfl) (.inl rfl)) rfl (by kernel_rfl) ?_
 obtain ⟨x_7, e_x_7, hp⟩ := bind_inv hp
 refine SL.eff (e_c Try.call61 (ok_mac_Tag F k_1 x_6 _ e_x_7) [.g 6] [vi .u64 k_1, vs 6] (vi .u64 x_7) (by kernel_rfl) (.inl rfl)) rfl (by kernel_rfl) ?_
 refine SL.norm (itsN := [.str label_2, .rd 1 (RInt .u64) parts_3, .rd 1 R8 l_4, .rd 1 R8 [0], .rd 1 R8 x_5, .rd 1 (RSl 1 R8) [l_4, [0], x_5], .rd 1 R8 x_6]) (by kernel_rfl) ?_
 refine SL.sim tk 1 [(6, vi .u64 x_7)] [] [] [] (by kernel_rfl) ?_
 refine SL.nilThen ?_
 obtain rfl := some_inv' hp
 exact SC.re (js := [.g 0, .g 1]) tk (by kernel_rfl)

theorem ok_database_Hash (F : Nat) (db_1 : (List T_api_Attribute)) (r : Int) (hp : database_Hash F db_1 = some r) : Spec Try.prog 28 [vs 0] [.rd 5 R_T_api_Attribute db_1] (vi .u64 r) [.gone] := by
 refine Spec.enter Try.func28 rfl Try.ntmps28 rfl rfl fun fx => ?_
 refine SC.r tk [(0, vs 0)] [] [] [] (by kernel_rfl) ?_
 refine SC.r tk [(0, vs 0), (3, vn)] [] [] [] (by kernel_rfl) ?_
 refine SC.cut (fun a w => ∃ (l_2 : (List Int)), database_Hash_j1 F l_2 = some r ∧ A 48 1 fx [(3, vs 1)] [.gone, .own 1 5 R8 l_2] a w) ?_ ?_
 · refine SC.r tk [(3, vn), (6, vs 0), (7, vi .i64 (len db_1)), (8, vi .i64 0)] [] [] [] (by kernel_rfl) ?_
   refine SC.block ?_
   obtain ⟨o1, hi1, ho1⟩ := bind_inv hp
   clear hp
   refine SC.loop (fun n a w => ∃ (l_5 : (List Int)) (x_6 : Int), iter (fun s => database_Hash_l1 F db_1 s.1 s.2) n (l_5, x_6) = some o1 ∧ A 48 1 fx [(3, vs 1), (6, vs 0), (7, vi .i64 (len db_1)), (8, vi .i64 x_6)] [.rd 5 R_T_api_Attribute db_1, .own 1 5 R8 l_5] a w) F (fun a w h => ⟨[], 0, hi1, h.at (js := [.g 0, .n]) (by kernel_rfl)⟩) ?_
   rintro n1 a w ⟨l_5, x_6, hi1, h⟩
   obtain ⟨n1, q1, rfl, hp, hs1⟩ := iter_inv hi1
   replace hp : database_Hash_l1 F db_1 l_5 x_6 = some q1 := hp
   clear hi1
   refine h.go ?_
   refine SC.r tk [(3, vs 1), (6, vs 0), (7, vi .i64 (len db_1)), (8, vi .i64 x_6), (9, vb (decide (x_6 < (len db_1))))] [] [] [] (by kernel_rfl) ?_
   refine SC.seq ?_
   refine SC.if' rfl hp (fun hp => ?_) (fun hp => ?_)
   · refine SC.skipThen ?_
     refine SC.cut (fun a w => ∃ (l_7 : (List Int)), database_Hash_j2 F x_6 l_7 = some q1 ∧ A 48 1 fx [(3, vs 1), (6, vs 0), (7, vi .i64 (len db_1)), (8, vi .i64 x_6)] [.rd 5 R_T_api_Attribute db_1, .own 1 5 R8 l_7] a w) ?_ ?_
     · refine SC.block ?_
       refine SC.seq ?_
       refine SC.reg ?_
       obtain ⟨x_8, e_x_8, hp⟩ := bind_inv hp
       refine SL.pre (pre_ix (i := 0) (iv := x_6) (sz := 5) (R := R_T_api_Attribute) (l := db_1) (by kernel_rfl) rfl e_x_8) ?_
       refine SL.sim tk 2 [(3, vs 1), (6, vs 0), (7, vi .i64 (len db_1)), (8, vi .i64 x_6), (11, .g (C_api_Attribute x_8 (.s 3)))] [] [.el 2] [x_6] (by kernel_rfl) ?_
       refine SL.eff (e_alloc (E := 39) tk [ci .u16 0, ci .u64 0, ci .u64 0, ci .i64 0, nl] (by kernel_rfl)) rfl (by kernel_rfl) ?_
       refine SL.sim tk 1 [(3, vs 1), (5, vp 4 0), (6, vs 0), (7, vi .i64 (len db_1)), (8, vi .i64 x_6)] [(4, 39, (C_api_Attribute x_8 (.s 3)))] [] [] (by kernel_rfl) ?_
       refine SL.nilThen ?_
       refine SC.cut (fun a w => ∃ (l_9 : (List Int)), database_Hash_j3 F x_6 x_8 l_9 = some q1 ∧ A 48 1 fx [(3, vs 1), (5, vp 2 0), (6, vs 0), (7, vi .i64 (len db_1)), (8, vi .i64 x_6)] [.rd 5 R_T_api_Attribute db_1, .own 1 5 R8 l_9, .blk 39 (C_api_Attribute x_8 (.s 3)), .rd 1 R8 x_8.Value] a w) ?_ ?_
       · refine SC.draw MO [true, false, true, true, true] (by kernel_rfl) fun kap_16 D_17 => ?_
         refine SD.takes tk D_17 [] kn0 [0, 1, 2, 3, 5, 6, 7, 9, 10, 11] [] [] [I, I, I, I, O, I, I, I, O, I, I, I, O, O, O, O, O] [(3, vs 1), (5, vp 4 0), (6, vs 0), (7, vi .i64 (len db_1)), (8, vi .i64 x_6), (12, vs 1), (15, vi .u64 (wu64 x_8.Handle)), (19, vi .u64 x_8.f_Type.Low), (23, vi .u64 x_8.f_Type.High)] rfl (by kernel_rfl) (by kernel_rfl) (by kernel_rfl) ?_
         obtain ⟨x_18, e_x_18, hp⟩ := bind_inv hp
         refine SD.all1 (i := 4) (by kernel_rfl) ?_
         refine SW.eff D_17 (i := 4) (bs' := [I, I, I, I, I, I, I, I, O, I, I, I, O, O, O, O, O]) rfl (.inl rfl) rfl (e_c Try.call58 (ok_database_number F 2 (wu64 x_8.Handle) _ e_x_18) [] [vi .i64 2, vi .u64 (wu64 x_8.Handle)] (vs 5) (by kernel_rfl) (.inl rfl)) (by kernel_rfl) rfl (by kernel_rfl) ?_
         refine SD.norm (itsN := [.rd 5 R_T_api_Attribute db_1, .own 1 5 R8 l_5, .elt (some (0, x_6)) false (C_api_Attribute x_8 (.s 3)), .rd 1 R8 x_8.Value, .blk 39 (C_api_Attribute x_8 (.s 3)), .rd 1 R8 x_18]) (by kernel_rfl) ?_
         obtain ⟨x_19, e_x_19, hp⟩ := bind_inv hp
         refine SD.all1 (i := 8) (by kernel_rfl) ?_
         refine SW.eff D_17 (i := 8) (bs' := [I, I, I, I, I, I, I, I, I, I, I, I, O, O, O, O, O]) rfl (.inl rfl) rfl (e_c Try.call58 (ok_database_number F 8 x_8.f_Type.Low _ e_x_19) [] [vi .i64 8, vi .u64 x_8.f_Type.Low] (vs 6) (by kernel_rfl) (.inl rfl)) (by kernel_rfl) rfl (by kernel_rfl) ?_
         obtain ⟨x_20, e_x_20, hp⟩ := bind_inv hp
         refine SD.all1 (i := 12) (by kernel_rfl) ?_
         refine SW.eff D_17 (i := 12) (bs' := [I, I, I, I, I, I, I, I, I, I, I, I, I, O, O, O, O]) rfl (.inl rfl) rfl (e_c Try.call58 (ok_database_number F 8 x_8.f_Type.High _ e_x_20) [] [vi .i64 8, vi .u64 x_8.f_Type.High] (vs 7) (by kernel_rfl) (.inl rfl)) (by kernel_rfl) rfl (by kernel_rfl) ?_
         refine SD.norm (itsN := [.rd 5 R_T_api_Attribute db_1, .own 1 5 R8 l_5, .elt (some (0, x_6)) false (C_api_Attribute x_8 (.s 3)), .rd 1 R8 x_8.Value, .blk 39 (C_api_Attribute x_8 (.s 3)), .rd 1 R8 x_18, .rd 1 R8 x_19, .rd 1 R8 x_20]) (by kernel_rfl) ?_
         refine SD.all1 (i := 13) (by kernel_rfl) ?_
         refine SW.eff D_17 (i := 13) (bs' := [I, I, I, I, I, I, I, I, I, I, I, I, I, I, O, O, O]) rfl (.inl rfl) rfl (e_lit (sz := 1) (E := 37) (R := (RSl 1 R8)) (by_ := 24) tk [[.s 5], [.s 6], [.s 7]] [x_18, x_19, x_20] (by kernel_rfl) ⟨(Clo.sl (by kernel_rfl)), ⟨(Clo.sl (by kernel_rfl)), ⟨(Clo.sl (by kernel_rfl)), trivial⟩⟩⟩ rfl (by kernel_rfl) (by kernel_rfl)) (by kernel_rfl) rfl (by kernel_rfl) ?_
         obtain ⟨x_21, e_x_21, hp⟩ := bind_inv hp
         refine SD.pre (pre_frz (i := 8) (sz := 1) (E := 37) (R := (RSl 1 R8)) (l := [x_18, x_19, x_20]) (by kernel_rfl)) ?_
         refine SD.all1 (i := 14) (by kernel_rfl) ?_
         refine SW.eff D_17 (i := 14) (bs' := [I, I, I, I, I, I, I, I, I, I, I, I, I, I, I, O, O]) rfl (.inl rfl) rfl (e_c Try.call41 (ok_octets_Join F [x_18, x_19, x_20] _ e_x_21) [.g 8] [vs 8] (vs 9) (by kernel_rfl) (.inl rfl)) (by kernel_rfl) rfl (by kernel_rfl) ?_
         refine SD.norm (itsN := [.rd 5 R_T_api_Attribute db_1, .own 1 5 R8 l_5, .elt (some (0, x_6)) false (C_api_Attribute x_8 (.s 3)), .rd 1 R8 x_8.Value, .blk 39 (C_api_Attribute x_8 (.s 3)), .rd 1 R8 x_18, .rd 1 R8 x_19, .rd 1 R8 x_20, .rd 1 (RSl 1 R8) [x_18, x_19, x_20], .rd 1 R8 x_21]) (by kernel_rfl) ?_
         obtain ⟨l_22, e_l_22, hp⟩ := bind_inv hp
         refine SD.all1 (i := 15) (by kernel_rfl) ?_
         refine SW.eff D_17 (i := 15) (bs' := [I, I, I, I, I, I, I, I, I, I, I, I, I, I, I, I, O]) rfl (.inl rfl) rfl (e_app (i := 1) (l := l_5) (sz := 1) (E := 5) (R := R8) (by_ := 1) (m := x_21) tk rfl (by kernel_rfl) rfl (.r (by kernel_rfl)) e_l_22 (by kernel_rfl)) (by kernel_rfl) rfl (by kernel_rfl) ?_
         refine SD.takes tk D_17 [] kn0 [16] [] [] [I, I, I, I, I, I, I, I, I, I, I, I, I, I, I, I, I] [(3, vs 10), (5, vp 4 0), (6, vs 0), (7, vi .i64 (len db_1)), (8, vi .i64 x_6)] rfl (by kernel_rfl) (by kernel_rfl) (by kernel_rfl) ?_
         refine SD.done (by kernel_rfl) fun a w h => ?_
         exact ⟨l_22, hp, h.at (js := [.g 0, .g 10, .g 4, .g 3]) (by kernel_rfl)⟩
       · rintro a w ⟨l_9, hp, h⟩
         refine h.go ?_
         refine SC.seq ?_
         refine SC.reg ?_
         refine SL.sim tk 2 [(3, vs 1), (5, vp 2 0), (6, vs 0), (7, vi .i64 (len db_1)), (8, vi .i64 x_6), (29, .g (C_api_UUID x_8.f_Type))] [] [] [] (by kernel_rfl) ?_
         obtain ⟨x_10, e_x_10, hp⟩ := bind_inv hp
         refine SL.eff (e_c Try.call59 (ok_database_declaration F x_8.f_Type _ e_x_10) [] [.g (C_api_UUID x_8.f_Type)] (vb x_10) (by kernel_rfl) (.inl rfl)) rfl (by kernel_rfl) ?_
         refine SL.nilThen ?_
         refine SC.if' rfl hp (fun hp => ?_) (fun hp => ?_)
         · refine SC.draw MO [true, false, true, true] (by kernel_rfl) fun kap_11 D_12 => ?_
           refine SD.takes tk D_12 [] kn0 [0, 1, 2, 3, 4, 6, 7] [] [] [I, I, I, I, I, O, I, I, O, O, O, O] [(3, vs 1), (6, vs 0), (7, vi .i64 (len db_1)), (8, vi .i64 x_6), (31, vs 1), (35, vi .u64 (wu64 (len x_8.Value))), (38, vs 3)] rfl (by kernel_rfl) (by kernel_rfl) (by kernel_rfl) ?_
           obtain ⟨x_13, e_x_13, hp⟩ := bind_inv hp
           refine SD.all1 (i := 5) (by kernel_rfl) ?_
           refine SW.eff D_12 (i := 5) (bs' := [I, I, I, I, I, I, I, I, O, O, O, O]) rfl (.inl rfl) rfl (e_c Try.call58 (ok_database_number F 2 (wu64 (len x_8.Value)) _ e_x_13) [] [vi .i64 2, vi .u64 (wu64 (len x_8.Value))] (vs 4) (by kernel_rfl) (.inl rfl)) (by kernel_rfl) rfl (by kernel_rfl) ?_
           refine SD.norm (itsN := [.rd 5 R_T_api_Attribute db_1, .own 1 5 R8 l_9, .blk 39 (C_api_Attribute x_8 (.s 3)), .rd 1 R8 x_8.Value, .rd 1 R8 x_13]) (by kernel_rfl) ?_
           refine SD.all1 (i := 8) (by kernel_rfl) ?_
           refine SW.eff D_12 (i := 8) (bs' := [I, I, I, I, I, I, I, I, I, O, O, O]) rfl (.inl rfl) rfl (e_lit (sz := 1) (E := 37) (R := (RSl 1 R8)) (by_ := 24) tk [[.s 4], [.s 3]] [x_13, x_8.Value] (by kernel_rfl) ⟨(Clo.sl (by kernel_rfl)), ⟨(Clo.sl (by kernel_rfl)), trivial⟩⟩ rfl (by kernel_rfl) (by kernel_rfl)) (by kernel_rfl) rfl (by kernel_rfl) ?_
           obtain ⟨x_14, e_x_14, hp⟩ := bind_inv hp
           refine SD.pre (pre_frz (i := 5) (sz := 1) (E := 37) (R := (RSl 1 R8)) (l := [x_13, x_8.Value]) (by kernel_rfl)) ?_
           refine SD.all1 (i := 9) (by kernel_rfl) ?_
           refine SW.eff D_12 (i := 9) (bs' := [I, I, I, I, I, I, I, I, I, I, O, O]) rfl (.inl rfl) rfl (e_c Try.call41 (ok_octets_Join F [x_13, x_8.Value] _ e_x_14) [.g 5] [vs 5] (vs 6) (by kernel_rfl) (.inl rfl)) (by kernel_rfl) rfl (by kernel_rfl) ?_
           refine SD.norm (itsN := [.rd 5 R_T_api_Attribute db_1, .own 1 5 R8 l_9, .blk 39 (C_api_Attribute x_8 (.s 3)), .rd 1 R8 x_8.Value, .rd 1 R8 x_13, .rd 1 (RSl 1 R8) [x_13, x_8.Value], .rd 1 R8 x_14]) (by kernel_rfl) ?_
           obtain ⟨l_15, e_l_15, hp⟩ := bind_inv hp
           refine SD.all1 (i := 10) (by kernel_rfl) ?_
           refine SW.eff D_12 (i := 10) (bs' := [I, I, I, I, I, I, I, I, I, I, I, O]) rfl (.inl rfl) rfl (e_app (i := 1) (l := l_9) (sz := 1) (E := 5) (R := R8) (by_ := 1) (m := x_14) tk rfl (by kernel_rfl) rfl (.r (by kernel_rfl)) e_l_15 (by kernel_rfl)) (by kernel_rfl) rfl (by kernel_rfl) ?_
           refine SD.takes tk D_12 [] kn0 [11] [] [] [I, I, I, I, I, I, I, I, I, I, I, I] [(3, vs 7), (6, vs 0), (7, vi .i64 (len db_1)), (8, vi .i64 x_6)] rfl (by kernel_rfl) (by kernel_rfl) (by kernel_rfl) ?_
           refine SD.done (by kernel_rfl) fun a w h => ?_
           exact ⟨l_15, hp, h.at (js := [.g 0, .g 7]) (by kernel_rfl)⟩
         · refine SC.skipJ fun a w h => ?_
           exact ⟨l_9, hp, h.at (js := [.g 0, .g 1]) (by kernel_rfl)⟩
     · rintro a w ⟨l_7, hp, h⟩
       refine h.go ?_
       refine SC.reg ?_
       refine SL.sim tk 2 [(3, vs 1), (6, vs 0), (7, vi .i64 (len db_1)), (8, vi .i64 (w64 (x_6 + 1)))] [] [] [] (by kernel_rfl) ?_
       refine SL.nilJ fun a w h => ?_
       exact ⟨n1, Nat.lt_succ_self _, l_7, w64 (x_6 + 1), next_inv hp hs1, h.at (js := [.g 0, .g 1]) (by kernel_rfl)⟩
   · refine SC.exitJ rfl fun a w h => ?_
     have ho := done_inv hp hs1
     replace hp := ho1
     try rw [ho] at hp
     exact ⟨l_5, hp, h.at (js := [.g 0, .g 1]) (by kernel_rfl)⟩
 · rintro a w ⟨l_2, hp, h⟩
   refine h.go ?_
   refine SC.seq ?_
   refine SC.reg ?_
   refine SL.sim tk 1 [(43, vs 1)] [] [] [] (by kernel_rfl) ?_
   obtain ⟨x_3, e_x_3, hp⟩ := bind_inv hp
   refine SL.eff (e_c Try.call61 (ok_mac_Tag F 0 l_2 _ e_x_3) [.l 1] [vi .u64 0, vs 1] (vi .u64 x_3) (by kernel_rfl) (.inr ⟨trivial, trivial⟩)) rfl (by kernel_rfl) ?_
   refine SL.eff (e_lit (sz := 1) (E := 34) (R := (RInt .u64)) (by_ := 8) tk [[ci .u64 x_3]] [x_3] (by kernel_rfl) ⟨Clo.int, trivial⟩ rfl (by kernel_rfl) (by kernel_rfl)) rfl (by kernel_rfl) ?_
   obtain ⟨x_4, e_x_4, hp⟩ := bind_inv hp
   refine SL.eff (e_c Try.call60 (ok_mac_Derive F 0 [104, 97, 115, 104] [x_3] _ e_x_4) [.k ⟨#[104, 97, 115, 104]⟩, .l 2] [vi .u64 0, .c (.v (.string ⟨#[104, 97, 115, 104]⟩)), vs 2] (vi .u64 x_4) (by kernel_rfl) (.inr ⟨trivial, trivial, trivial⟩)) rfl (by kernel_rfl) ?_
   refine SL.norm (itsN := [.gone, .own 1 5 R8 l_2, .own 1 34 (RInt .u64) [x_3]]) (by kernel_rfl) ?_
   refine SL.sim tk 2 [(2, vi .u64 (imax 1 x_4))] [] [] [] (by kernel_rfl) ?_
   refine SL.nilThen ?_
   obtain rfl := some_inv' hp
   exact SC.re (js := [.g 0]) tk (by kernel_rfl)

theorem ok_wirelesslaw43_DatabaseSets (F : Nat) (db_1 : (List T_api_Attribute)) (handle_2 : Int) (value_3 : (List Int)) (r : Bool) (hp : wirelesslaw43_DatabaseSets F db_1 handle_2 value_3 = some r) : Spec Try.prog 9 [vs 0, vi .u16 handle_2, vs 1] [.rd 5 R_T_api_Attribute db_1, .rd 1 R8 value_3] (vb r) [.gone, .gone] := by
 refine Spec.enter Try.func9 rfl Try.ntmps9 rfl rfl fun fx => ?_
 refine SC.r tk [(0, vs 0), (1, vi .u16 handle_2), (2, vs 1)] [] [] [] (by kernel_rfl) ?_
 refine SC.seq ?_
 refine SC.seq ?_
 refine SC.reg ?_
 refine SL.sim tk 1 [(0, vs 0), (1, vi .u16 handle_2), (2, vs 1), (11, vs 0)] [] [] [] (by kernel_rfl) ?_
 obtain ⟨x_4, e_x_4, hp⟩ := bind_inv hp
 refine SL.eff (e_c Try.call19 (ok_wirelesslaw43_fine F db_1 _ e_x_4) [.g 0] [vs 0] (vb x_4) (by kernel_rfl) (.inl rfl)) rfl (by kernel_rfl) ?_
 refine SL.sim tk 6 [(0, vs 0), (1, vi .u16 handle_2), (2, vs 1), (18, vb ((!x_4) || (decide ((len value_3) > 4096))))] [] [] [] (by kernel_rfl) ?_
 refine SL.nilThen ?_
 refine SC.if' rfl hp (fun hp => ?_) (fun hp => ?_)
 · refine SC.seq ?_
   refine SC.reg ?_
   obtain ⟨x_5, e_x_5, hp⟩ := bind_inv hp
   refine SL.eff (e_c Try.call11 (ok_wirelesslaw43_exampleHolds F  _ e_x_5) [] [] (vb x_5) (by kernel_rfl) (.inl rfl)) rfl (by kernel_rfl) ?_
   refine SL.norm (itsN := [.rd 5 R_T_api_Attribute db_1, .rd 1 R8 value_3]) (by kernel_rfl) ?_
   refine SL.sim tk 1 [(6, vb x_5)] [] [] [] (by kernel_rfl) ?_
   refine SL.nilThen ?_
   obtain rfl := some_inv' hp
   exact SC.re (js := [.g 0, .g 1]) tk (by kernel_rfl)
 · refine SC.skipThen ?_
   refine SC.seq ?_
   refine SC.reg ?_
   refine SL.sim tk 3 [(0, vs 0), (1, vi .u16 handle_2), (2, vs 1), (21, vs 0), (22, vi .u16 handle_2), (23, vs 1)] [] [] [] (by kernel_rfl) ?_
   obtain ⟨x_6, e_x_6, hp⟩ := bind_inv hp
   refine SL.eff (e_c Try.call30 (ok_database_Set F db_1 handle_2 value_3 _ e_x_6) [.g 0, .g 1] [vs 0, vi .u16 handle_2, vs 1] (.u [.inl (.s 2), .inl (ci .i64 x_6.2)]) (by kernel_rfl) (.inl rfl)) rfl (by kernel_rfl) ?_
   refine SL.norm (itsN := [.rd 5 R_T_api_Attribute db_1, .rd 1 R8 value_3, .rd 5 R_T_api_Attribute x_6.1]) (by kernel_rfl) ?_
   refine SL.sim tk 5 [(0, vs 0), (1, vi .u16 handle_2), (2, vs 1), (7, vs 2), (8, vi .i64 x_6.2)] [] [] [] (by kernel_rfl) ?_
   refine SL.nilThen ?_
   refine SC.seq ?_
   refine SC.reg ?_
   refine SL.sim tk 3 [(0, vs 0), (7, vs 2), (8, vi .i64 x_6.2), (28, vs 0), (29, vi .u16 handle_2), (30, vs 1)] [] [] [] (by kernel_rfl) ?_
   obtain ⟨x_7, e_x_7, hp⟩ := bind_inv hp
   refine SL.eff (e_c Try.call31 (ok_wirelessref43_Set F db_1 handle_2 value_3 _ e_x_7) [.g 0, .g 1] [vs 0, vi .u16 handle_2, vs 1] (.u [.inl (.s 3), .inl (ci .i64 x_7.2)]) (by kernel_rfl) (.inl rfl)) rfl (by kernel_rfl) ?_
   refine SL.sim tk 5 [(0, vs 0), (7, vs 2), (8, vi .i64 x_6.2), (9, vs 3), (10, vi .i64 x_7.2)] [] [] [] (by kernel_rfl) ?_
   refine SL.nilThen ?_
   refine SC.seq ?_
   refine SC.seq ?_
   refine SC.reg ?_
   refine SL.sim tk 4 [(0, vs 0), (7, vs 2), (8, vi .i64 x_6.2), (9, vs 3), (37, vb (x_6.2 != x_7.2))] [] [] [] (by kernel_rfl) ?_
   obtain ⟨z_9, hz, hpr⟩ := bind_inv hp
   clear hp
   refine SL.cutAt 5 (fun a w => A 66 2 fx [(0, vs 0), (7, vs 2), (8, vi .i64 x_6.2), (42, vb z_9)] [.rd 5 R_T_api_Attribute db_1, .gone, .rd 5 R_T_api_Attribute x_6.1] a w) ?_ ?_
   · have hp := hz
     rcases Bool.eq_false_or_eq_true ((x_6.2 != x_7.2)) with hg_8 | hg_8
     · replace hp := if_t hp hg_8
       refine SL.no rfl rfl hg_8 rfl ?_
       refine SL.no rfl rfl hg_8 rfl ?_
       refine SL.no rfl rfl hg_8 rfl ?_
       refine SL.no rfl rfl hg_8 rfl ?_
       refine SL.pickt rfl hg_8 rfl rfl ?_
       refine SL.nilJ fun a w h => ?_
       obtain rfl := some_inv' hp
       exact h.at (js := [.g 0, .g 1, .g 2]) (by kernel_rfl)
     · replace hp := if_f hp hg_8
       refine SL.yes rfl rfl hg_8 ?_
       refine SL.sim tk 1 [(0, vs 0), (7, vs 2), (8, vi .i64 x_6.2), (9, vs 3), (37, vb (x_6.2 != x_7.2)), (38, vs 2)] [] [] [] (by kernel_rfl) ?_
       refine SL.yes rfl rfl hg_8 ?_
       refine SL.sim tk 1 [(0, vs 0), (7, vs 2), (8, vi .i64 x_6.2), (37, vb (x_6.2 != x_7.2)), (38, vs 2), (39, vs 3)] [] [] [] (by kernel_rfl) ?_
       refine SL.yes rfl rfl hg_8 ?_
       obtain ⟨x_28, e_x_28, hp⟩ := bind_inv hp
       refine SL.eff (e_c Try.call17 (ok_wirelessref43_SameDB F x_6.1 x_7.1 _ e_x_28) [.g 2, .g 3] [vs 2, vs 3] (vb x_28) (by kernel_rfl) (.inl rfl)) rfl (by kernel_rfl) ?_
       refine SL.norm (itsN := [.rd 5 R_T_api_Attribute db_1, .rd 1 R8 value_3, .rd 5 R_T_api_Attribute x_6.1, .rd 5 R_T_api_Attribute x_7.1]) (by kernel_rfl) ?_
       refine SL.yes rfl rfl hg_8 ?_
       refine SL.sim tk 1 [(0, vs 0), (7, vs 2), (8, vi .i64 x_6.2), (37, vb (x_6.2 != x_7.2)), (41, vb (!x_28))] [] [] [] (by kernel_rfl) ?_
       refine SL.pickf rfl hg_8 rfl rfl ?_
       refine SL.nilJ fun a w h => ?_
       obtain rfl := some_inv' hp
       exact h.at (js := [.g 0, .g 1, .g 2]) (by kernel_rfl)
   · intro a w h
     have hp := hpr; clear hpr hz
     refine h.goL ?_
     refine SL.nilThen ?_
     refine SC.if' rfl hp (fun hp => ?_) (fun hp => ?_)
     · refine SC.r tk [(6, vb false)] [] [] [] (by kernel_rfl) ?_
       obtain rfl := some_inv' hp
       exact SC.re (js := [.g 0, .g 1]) tk (by kernel_rfl)
     · refine SC.skipThen ?_
       refine SC.seq ?_
       refine SC.r tk [(0, vs 0), (7, vs 2), (44, vb (x_6.2 != 0))] [] [] [] (by kernel_rfl) ?_
       refine SC.if' rfl hp (fun hp => ?_) (fun hp => ?_)
       · refine SC.seq ?_
         refine SC.reg ?_
         obtain ⟨x_10, e_x_10, hp⟩ := bind_inv hp
         refine SL.eff (e_c Try.call11 (ok_wirelesslaw43_exampleHolds F  _ e_x_10) [] [] (vb x_10) (by kernel_rfl) (.inl rfl)) rfl (by kernel_rfl) ?_
         refine SL.sim tk 1 [(6, vb x_10)] [] [] [] (by kernel_rfl) ?_
         refine SL.nilThen ?_
         obtain rfl := some_inv' hp
         exact SC.re (js := [.g 0, .g 1]) tk (by kernel_rfl)
       · refine SC.skipThen ?_
         refine SC.seq ?_
         refine SC.reg ?_
         refine SL.sim tk 1 [(0, vs 0), (7, vs 2), (46, vs 2)] [] [] [] (by kernel_rfl) ?_
         obtain ⟨x_11, e_x_11, hp⟩ := bind_inv hp
         refine SL.eff (e_c Try.call12 (ok_database_Check F x_6.1 _ e_x_11) [.g 2] [vs 2] (vi .i64 x_11) (by kernel_rfl) (.inl rfl)) rfl (by kernel_rfl) ?_
         refine SL.sim tk 2 [(0, vs 0), (7, vs 2), (49, vb (x_11 == 0))] [] [] [] (by kernel_rfl) ?_
         obtain ⟨z_13, hz, hpr⟩ := bind_inv hp
         clear hp
         refine SL.cutAt 6 (fun a w => A 66 2 fx [(0, vs 0), (7, vs 2), (55, vb z_13)] [.rd 5 R_T_api_Attribute db_1, .gone, .rd 5 R_T_api_Attribute x_6.1] a w) ?_ ?_
         · have hp := hz
           rcases Bool.eq_false_or_eq_true ((x_11 == 0)) with hg_12 | hg_12
           · replace hp := if_t hp hg_12
             refine SL.yes rfl rfl hg_12 ?_
             refine SL.sim tk 1 [(0, vs 0), (7, vs 2), (49, vb (x_11 == 0)), (50, vs 2)] [] [] [] (by kernel_rfl) ?_
             refine SL.yes rfl rfl hg_12 ?_
             obtain ⟨x_24, e_x_24, hp⟩ := bind_inv hp
             refine SL.eff (e_c Try.call18 (ok_database_Found F x_6.1 _ e_x_24) [.g 2] [vs 2] (vs 3) (by kernel_rfl) (.inl rfl)) rfl (by kernel_rfl) ?_
             refine SL.norm (itsN := [.rd 5 R_T_api_Attribute db_1, .gone, .rd 5 R_T_api_Attribute x_6.1, .rd 6 R_T_api_Found x_24]) (by kernel_rfl) ?_
             refine SL.yes rfl rfl hg_12 ?_
             refine SL.sim tk 1 [(0, vs 0), (7, vs 2), (49, vb (x_11 == 0)), (51, vs 3), (52, vs 0)] [] [] [] (by kernel_rfl) ?_
             refine SL.yes rfl rfl hg_12 ?_
             obtain ⟨x_25, e_x_25, hp⟩ := bind_inv hp
             refine SL.eff (e_c Try.call18 (ok_database_Found F db_1 _ e_x_25) [.g 0] [vs 0] (vs 4) (by kernel_rfl) (.inl rfl)) rfl (by kernel_rfl) ?_
             refine SL.yes rfl rfl hg_12 ?_
             obtain ⟨x_26, e_x_26, hp⟩ := bind_inv hp
             refine SL.eff (e_c Try.call26 (ok_wirelessref43_SameFound F x_24 x_25 _ e_x_26) [.g 3, .g 4] [vs 3, vs 4] (vb x_26) (by kernel_rfl) (.inl rfl)) rfl (by kernel_rfl) ?_
             refine SL.norm (itsN := [.rd 5 R_T_api_Attribute db_1, .gone, .rd 5 R_T_api_Attribute x_6.1, .rd 6 R_T_api_Found x_24, .rd 6 R_T_api_Found x_25]) (by kernel_rfl) ?_
             refine SL.pickt rfl hg_12 rfl rfl ?_
             refine SL.nilJ fun a w h => ?_
             obtain rfl := some_inv' hp
             exact h.at (js := [.g 0, .g 1, .g 2]) (by kernel_rfl)
           · replace hp := if_f hp hg_12
             refine SL.no rfl rfl hg_12 rfl ?_
             refine SL.no rfl rfl hg_12 rfl ?_
             refine SL.no rfl rfl hg_12 rfl ?_
             refine SL.no rfl rfl hg_12 rfl ?_
             refine SL.no rfl rfl hg_12 rfl ?_
             refine SL.pickf rfl hg_12 rfl rfl ?_
             refine SL.nilJ fun a w h => ?_
             obtain rfl := some_inv' hp
             exact h.at (js := [.g 0, .g 1, .g 2]) (by kernel_rfl)
         · intro a w h
           have hp := hpr; clear hpr hz
           refine h.goL ?_
           refine SL.sim tk 1 [(0, vs 0), (7, vs 2), (56, vb z_13)] [] [] [] (by kernel_rfl) ?_
           obtain ⟨z_15, hz, hpr⟩ := bind_inv hp
           clear hp
           refine SL.cutAt 6 (fun a w => A 66 2 fx [(62, vb z_15)] [.gone, .gone] a w) ?_ ?_
           · have hp := hz
             rcases Bool.eq_false_or_eq_true (z_13) with hg_14 | hg_14
             · replace hp := if_t hp hg_14
               refine SL.yes rfl rfl hg_14 ?_
               refine SL.sim tk 1 [(0, vs 0), (56, vb z_13), (57, vs 2)] [] [] [] (by kernel_rfl) ?_
               refine SL.yes rfl rfl hg_14 ?_
               obtain ⟨x_21, e_x_21, hp⟩ := bind_inv hp
               refine SL.eff (e_c Try.call28 (ok_database_Hash F x_6.1 _ e_x_21) [.g 2] [vs 2] (vi .u64 x_21) (by kernel_rfl) (.inl rfl)) rfl (by kernel_rfl) ?_
               refine SL.yes rfl rfl hg_14 ?_
               refine SL.sim tk 1 [(56, vb z_13), (58, vi .u64 x_21), (59, vs 0)] [] [] [] (by kernel_rfl) ?_
               refine SL.yes rfl rfl hg_14 ?_
               obtain ⟨x_22, e_x_22, hp⟩ := bind_inv hp
               refine SL.eff (e_c Try.call28 (ok_database_Hash F db_1 _ e_x_22) [.g 0] [vs 0] (vi .u64 x_22) (by kernel_rfl) (.inl rfl)) rfl (by kernel_rfl) ?_
               refine SL.norm (itsN := [.rd 5 R_T_api_Attribute db_1, .gone, .rd 5 R_T_api_Attribute x_6.1]) (by kernel_rfl) ?_
               refine SL.yes rfl rfl hg_14 ?_
               refine SL.sim tk 1 [(56, vb z_13), (61, vb (x_21 == x_22))] [] [] [] (by kernel_rfl) ?_
               refine SL.pickt rfl hg_14 rfl rfl ?_
               refine SL.nilJ fun a w h => ?_
               obtain rfl := some_inv' hp
               exact h.at (js := [.g 0, .g 1]) (by kernel_rfl)
             · replace hp := if_f hp hg_14
               refine SL.no rfl rfl hg_14 rfl ?_
               refine SL.no rfl rfl hg_14 rfl ?_
               refine SL.no rfl rfl hg_14 rfl ?_
               refine SL.no rfl rfl hg_14 rfl ?_
               refine SL.no rfl rfl hg_14 rfl ?_
               refine SL.pickf rfl hg_14 rfl rfl ?_
               refine SL.nilJ fun a w h => ?_
               obtain rfl := some_inv' hp
               exact h.at (js := [.g 0, .g 1]) (by kernel_rfl)
           · intro a w h
             have hp := hpr; clear hpr hz
             refine h.goL ?_
             refine SL.sim tk 1 [(63, vb z_15)] [] [] [] (by kernel_rfl) ?_
             obtain ⟨z_17, hz, hpr⟩ := bind_inv hp
             clear hp
             refine SL.cutAt 2 (fun a w => A 66 2 fx [(65, vb z_17)] [.gone, .gone] a w) ?_ ?_
             · have hp := hz
               rcases Bool.eq_false_or_eq_true (z_15) with hg_16 | hg_16
               · replace hp := if_t hp hg_16
                 refine SL.yes rfl rfl hg_16 ?_
                 obtain ⟨x_19, e_x_19, hp⟩ := bind_inv hp
                 refine SL.eff (e_c Try.call11 (ok_wirelesslaw43_exampleHolds F  _ e_x_19) [] [] (vb x_19) (by kernel_rfl) (.inl rfl)) rfl (by kernel_rfl) ?_
                 refine SL.pickt rfl hg_16 rfl rfl ?_
                 refine SL.nilJ fun a w h => ?_
                 obtain rfl := some_inv' hp
                 exact h.at (js := [.g 0, .g 1]) (by kernel_rfl)
               · replace hp := if_f hp hg_16
                 refine SL.no rfl rfl hg_16 rfl ?_
                 refine SL.pickf rfl hg_16 rfl rfl ?_
                 refine SL.nilJ fun a w h => ?_
                 obtain rfl := some_inv' hp
                 exact h.at (js := [.g 0, .g 1]) (by kernel_rfl)
             · intro a w h
               have hp := hpr; clear hpr hz
               refine h.goL ?_
               refine SL.sim tk 1 [(6, vb z_17)] [] [] [] (by kernel_rfl) ?_
               refine SL.nilThen ?_
               obtain rfl := some_inv' hp
               exact SC.re (js := [.g 0, .g 1]) tk (by kernel_rfl)
end V
end Go.Proofs.Ytchlimkophmjlaa
