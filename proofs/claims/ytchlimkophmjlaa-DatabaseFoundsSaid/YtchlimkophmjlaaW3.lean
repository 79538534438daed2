/-
  Walks, written by program: each Go function returns what its pure twin says.
-/
import Derived.Test.YtchlimkophmjlaaW2
namespace Go.Proofs.Ytchlimkophmjlaa
namespace V
theorem ok_database_Hash (F : Nat) (db_1 : (List T_api_Attribute)) (r : Int) (hp : database_Hash F db_1 = some r) : Spec Try.prog 28 [vs 0] [.rd 5 R_T_api_Attribute db_1] (vi .u64 r) [.gone] := by
 refine Spec.enter Try.func28 rfl Try.ntmps28 rfl rfl fun fx => ?_
 refine SC.r tk [(0, vs 0)] [] [] [] (by kernel_rfl) ?_
 refine SC.r tk [(0, vs 0), (3, vn)] [] [] [] (by kernel_rfl) ?_
 refine SC.cut (fun a w => ∃ (l_2 : (List Int)), database_Hash_j1 F l_2 = some r ∧ A 48 1 fx [(3, vs 1)] [.gone, .own 1 5 R8 l_2] a w) ?_ ?_
 · refine SC.r tk [(3, vn), (6, vs 0), (7, vi .i64 (len db_1)), (8, vi .i64 0)] [] [] [] (by kernel_rfl) ?_
   refine SC.block ?_
   obtain ⟨o1, hi1, ho1⟩ := bind_inv hp
   clear hp
   refine SC.loop (fun n a w => ∃ (l_5 : (List Int)) (x_6 : Int), iter (fun s => database_Hash_l1 F db_1 s.1 s.2) n (l_5, x_6) = some o1 ∧ A 48 1 fx [(3, vs 1), (6, vs 0), (7, vi .i64 (len db_1)), (8, vi .i64 x_6)] [.rd 5 R_T_api_Attribute db_1, .own 1 5 R8 l_5] a w) F (fun a w h => ⟨[], 0, hi1, h.at (js := [.g 0, .n]) (by kernel_rfl)⟩) ?_
   rintro n1 a w ⟨l_5, x_6, hi1, h⟩
   obtain ⟨n1, q1, rfl, hp, hs1⟩ := iter_inv hi1
   replace hp : database_Hash_l1 F db_1 l_5 x_6 = some q1 := hp
   clear hi1
   refine h.go ?_
   refine SC.r tk [(3, vs 1), (6, vs 0), (7, vi .i64 (len db_1)), (8, vi .i64 x_6), (9, vb (decide (x_6 < (len db_1))))] [] [] [] (by kernel_rfl) ?_
   refine SC.seq ?_
   refine SC.if' rfl hp (fun hp => ?_) (fun hp => ?_)
   · refine SC.skipThen ?_
     refine SC.cut (fun a w => ∃ (l_7 : (List Int)), database_Hash_j2 F x_6 l_7 = some q1 ∧ A 48 1 fx [(3, vs 1), (6, vs 0), (7, vi .i64 (len db_1)), (8, vi .i64 x_6)] [.rd 5 R_T_api_Attribute db_1, .own 1 5 R8 l_7] a w) ?_ ?_
     · refine SC.block ?_
       refine SC.seq ?_
       refine SC.reg ?_
       obtain ⟨x_8, e_x_8, hp⟩ := bind_inv hp
       refine SL.pre (pre_ix (i := 0) (iv := x_6) (sz := 5) (R := R_T_api_Attribute) (l := db_1) (by kernel_rfl) rfl e_x_8) ?_
       refine SL.sim tk 2 [(3, vs 1), (6, vs 0), (7, vi .i64 (len db_1)), (8, vi .i64 x_6), (11, .g (C_api_Attribute x_8 (.s 3)))] [] [.el 2] [x_6] (by kernel_rfl) ?_
       refine SL.eff (e_alloc (E := 39) tk [ci .u16 0, ci .u64 0, ci .u64 0, ci .i64 0, nl] (by kernel_rfl)) rfl (by kernel_rfl) ?_
       refine SL.sim tk 1 [(3, vs 1), (5, vp 4 0), (6, vs 0), (7, vi .i64 (len db_1)), (8, vi .i64 x_6)] [(4, 39, (C_api_Attribute x_8 (.s 3)))] [] [] (by kernel_rfl) ?_
       refine SL.nilThen ?_
       refine SC.cut (fun a w => ∃ (l_9 : (List Int)), database_Hash_j3 F x_6 x_8 l_9 = some q1 ∧ A 48 1 fx [(3, vs 1), (5, vp 2 0), (6, vs 0), (7, vi .i64 (len db_1)), (8, vi .i64 x_6)] [.rd 5 R_T_api_Attribute db_1, .own 1 5 R8 l_9, .blk 39 (C_api_Attribute x_8 (.s 3)), .rd 1 R8 x_8.Value] a w) ?_ ?_
       · refine SC.draw MO [true, false, true, true, true] (by kernel_rfl) fun kap_16 D_17 => ?_
         refine SD.takes tk D_17 [] kn0 [0, 1, 2, 3, 5, 6, 7, 9, 10, 11] [] [] [true, true, true, true, false, true, true, true, false, true, true, true, false, false, false, false, false] [(3, vs 1), (5, vp 4 0), (6, vs 0), (7, vi .i64 (len db_1)), (8, vi .i64 x_6), (12, vs 1), (15, vi .u64 (wu64 x_8.Handle)), (19, vi .u64 x_8.f_Type.Low), (23, vi .u64 x_8.f_Type.High)] rfl (by kernel_rfl) (by kernel_rfl) (by kernel_rfl) ?_
         obtain ⟨x_18, e_x_18, hp⟩ := bind_inv hp
         refine SD.all1 (i := 4) (by kernel_rfl) ?_
         refine SW.eff D_17 (i := 4) (bs' := [true, true, true, true, true, true, true, true, false, true, true, true, false, false, false, false, false]) rfl (.inl rfl) rfl (e_c Try.call58 (ok_database_number F 2 (wu64 x_8.Handle) _ e_x_18) [] [vi .i64 2, vi .u64 (wu64 x_8.Handle)] (vs 5) (by kernel_rfl) (.inl rfl)) (by kernel_rfl) rfl (by kernel_rfl) ?_
         refine SD.norm (itsN := [.rd 5 R_T_api_Attribute db_1, .own 1 5 R8 l_5, .elt (some (0, x_6)) false (C_api_Attribute x_8 (.s 3)), .rd 1 R8 x_8.Value, .blk 39 (C_api_Attribute x_8 (.s 3)), .rd 1 R8 x_18]) (by kernel_rfl) ?_
         obtain ⟨x_19, e_x_19, hp⟩ := bind_inv hp
         refine SD.all1 (i := 8) (by kernel_rfl) ?_
         refine SW.eff D_17 (i := 8) (bs' := [true, true, true, true, true, true, true, true, true, true, true, true, false, false, false, false, false]) rfl (.inl rfl) rfl (e_c Try.call58 (ok_database_number F 8 x_8.f_Type.Low _ e_x_19) [] [vi .i64 8, vi .u64 x_8.f_Type.Low] (vs 6) (by kernel_rfl) (.inl rfl)) (by kernel_rfl) rfl (by kernel_rfl) ?_
         obtain ⟨x_20, e_x_20, hp⟩ := bind_inv hp
         refine SD.all1 (i := 12) (by kernel_rfl) ?_
         refine SW.eff D_17 (i := 12) (bs' := [true, true, true, true, true, true, true, true, true, true, true, true, true, false, false, false, false]) rfl (.inl rfl) rfl (e_c Try.call58 (ok_database_number F 8 x_8.f_Type.High _ e_x_20) [] [vi .i64 8, vi .u64 x_8.f_Type.High] (vs 7) (by kernel_rfl) (.inl rfl)) (by kernel_rfl) rfl (by kernel_rfl) ?_
         refine SD.norm (itsN := [.rd 5 R_T_api_Attribute db_1, .own 1 5 R8 l_5, .elt (some (0, x_6)) false (C_api_Attribute x_8 (.s 3)), .rd 1 R8 x_8.Value, .blk 39 (C_api_Attribute x_8 (.s 3)), .rd 1 R8 x_18, .rd 1 R8 x_19, .rd 1 R8 x_20]) (by kernel_rfl) ?_
         refine SD.all1 (i := 13) (by kernel_rfl) ?_
         refine SW.eff D_17 (i := 13) (bs' := [true, true, true, true, true, true, true, true, true, true, true, true, true, true, false, false, false]) rfl (.inl rfl) rfl (e_lit (sz := 1) (E := 37) (R := (RSl 1 R8)) (by_ := 24) tk [[.s 5], [.s 6], [.s 7]] [x_18, x_19, x_20] (by kernel_rfl) ⟨(Clo.sl (by kernel_rfl)), ⟨(Clo.sl (by kernel_rfl)), ⟨(Clo.sl (by kernel_rfl)), trivial⟩⟩⟩ rfl (by kernel_rfl) (by kernel_rfl)) (by kernel_rfl) rfl (by kernel_rfl) ?_
         obtain ⟨x_21, e_x_21, hp⟩ := bind_inv hp
         refine SD.pre (pre_frz (i := 8) (sz := 1) (E := 37) (R := (RSl 1 R8)) (l := [x_18, x_19, x_20]) (by kernel_rfl)) ?_
         refine SD.all1 (i := 14) (by kernel_rfl) ?_
         refine SW.eff D_17 (i := 14) (bs' := [true, true, true, true, true, true, true, true, true, true, true, true, true, true, true, false, false]) rfl (.inl rfl) rfl (e_c Try.call41 (ok_octets_Join F [x_18, x_19, x_20] _ e_x_21) [.g 8] [vs 8] (vs 9) (by kernel_rfl) (.inl rfl)) (by kernel_rfl) rfl (by kernel_rfl) ?_
         refine SD.norm (itsN := [.rd 5 R_T_api_Attribute db_1, .own 1 5 R8 l_5, .elt (some (0, x_6)) false (C_api_Attribute x_8 (.s 3)), .rd 1 R8 x_8.Value, .blk 39 (C_api_Attribute x_8 (.s 3)), .rd 1 R8 x_18, .rd 1 R8 x_19, .rd 1 R8 x_20, .rd 1 (RSl 1 R8) [x_18, x_19, x_20], .rd 1 R8 x_21]) (by kernel_rfl) ?_
         obtain ⟨l_22, e_l_22, hp⟩ := bind_inv hp
         refine SD.all1 (i := 15) (by kernel_rfl) ?_
         refine SW.eff D_17 (i := 15) (bs' := [true, true, true, true, true, true, true, true, true, true, true, true, true, true, true, true, false]) rfl (.inl rfl) rfl (e_app (i := 1) (l := l_5) (sz := 1) (E := 5) (R := R8) (by_ := 1) (m := x_21) tk rfl (by kernel_rfl) rfl (.r (by kernel_rfl)) e_l_22 (by kernel_rfl)) (by kernel_rfl) rfl (by kernel_rfl) ?_
         refine SD.takes tk D_17 [] kn0 [16] [] [] [true, true, true, true, true, true, true, true, true, true, true, true, true, true, true, true, true] [(3, vs 10), (5, vp 4 0), (6, vs 0), (7, vi .i64 (len db_1)), (8, vi .i64 x_6)] rfl (by kernel_rfl) (by kernel_rfl) (by kernel_rfl) ?_
         refine SD.done (by kernel_rfl) fun a w h => ?_
         exact ⟨l_22, hp, h.at (js := [.g 0, .g 10, .g 4, .g 3]) (by kernel_rfl)⟩
       · rintro a w ⟨l_9, hp, h⟩
         refine h.go ?_
         refine SC.seq ?_
         refine SC.reg ?_
         refine SL.sim tk 2 [(3, vs 1), (5, vp 2 0), (6, vs 0), (7, vi .i64 (len db_1)), (8, vi .i64 x_6), (29, .g (C_api_UUID x_8.f_Type))] [] [] [] (by kernel_rfl) ?_
         obtain ⟨x_10, e_x_10, hp⟩ := bind_inv hp
         refine SL.eff (e_c Try.call59 (ok_database_declaration F x_8.f_Type _ e_x_10) [] [.g (C_api_UUID x_8.f_Type)] (vb x_10) (by kernel_rfl) (.inl rfl)) rfl (by kernel_rfl) ?_
         refine SL.nilThen ?_
         refine SC.if' rfl hp (fun hp => ?_) (fun hp => ?_)
         · refine SC.draw MO [true, false, true, true] (by kernel_rfl) fun kap_11 D_12 => ?_
           refine SD.takes tk D_12 [] kn0 [0, 1, 2, 3, 4, 6, 7] [] [] [true, true, true, true, true, false, true, true, false, false, false, false] [(3, vs 1), (6, vs 0), (7, vi .i64 (len db_1)), (8, vi .i64 x_6), (31, vs 1), (35, vi .u64 (wu64 (len x_8.Value))), (38, vs 3)] rfl (by kernel_rfl) (by kernel_rfl) (by kernel_rfl) ?_
           obtain ⟨x_13, e_x_13, hp⟩ := bind_inv hp
           refine SD.all1 (i := 5) (by kernel_rfl) ?_
           refine SW.eff D_12 (i := 5) (bs' := [true, true, true, true, true, true, true, true, false, false, false, false]) rfl (.inl rfl) rfl (e_c Try.call58 (ok_database_number F 2 (wu64 (len x_8.Value)) _ e_x_13) [] [vi .i64 2, vi .u64 (wu64 (len x_8.Value))] (vs 4) (by kernel_rfl) (.inl rfl)) (by kernel_rfl) rfl (by kernel_rfl) ?_
           refine SD.norm (itsN := [.rd 5 R_T_api_Attribute db_1, .own 1 5 R8 l_9, .blk 39 (C_api_Attribute x_8 (.s 3)), .rd 1 R8 x_8.Value, .rd 1 R8 x_13]) (by kernel_rfl) ?_
           refine SD.all1 (i := 8) (by kernel_rfl) ?_
           refine SW.eff D_12 (i := 8) (bs' := [true, true, true, true, true, true, true, true, true, false, false, false]) rfl (.inl rfl) rfl (e_lit (sz := 1) (E := 37) (R := (RSl 1 R8)) (by_ := 24) tk [[.s 4], [.s 3]] [x_13, x_8.Value] (by kernel_rfl) ⟨(Clo.sl (by kernel_rfl)), ⟨(Clo.sl (by kernel_rfl)), trivial⟩⟩ rfl (by kernel_rfl) (by kernel_rfl)) (by kernel_rfl) rfl (by kernel_rfl) ?_
           obtain ⟨x_14, e_x_14, hp⟩ := bind_inv hp
           refine SD.pre (pre_frz (i := 5) (sz := 1) (E := 37) (R := (RSl 1 R8)) (l := [x_13, x_8.Value]) (by kernel_rfl)) ?_
           refine SD.all1 (i := 9) (by kernel_rfl) ?_
           refine SW.eff D_12 (i := 9) (bs' := [true, true, true, true, true, true, true, true, true, true, false, false]) rfl (.inl rfl) rfl (e_c Try.call41 (ok_octets_Join F [x_13, x_8.Value] _ e_x_14) [.g 5] [vs 5] (vs 6) (by kernel_rfl) (.inl rfl)) (by kernel_rfl) rfl (by kernel_rfl) ?_
           refine SD.norm (itsN := [.rd 5 R_T_api_Attribute db_1, .own 1 5 R8 l_9, .blk 39 (C_api_Attribute x_8 (.s 3)), .rd 1 R8 x_8.Value, .rd 1 R8 x_13, .rd 1 (RSl 1 R8) [x_13, x_8.Value], .rd 1 R8 x_14]) (by kernel_rfl) ?_
           obtain ⟨l_15, e_l_15, hp⟩ := bind_inv hp
           refine SD.all1 (i := 10) (by kernel_rfl) ?_
           refine SW.eff D_12 (i := 10) (bs' := [true, true, true, true, true, true, true, true, true, true, true, false]) rfl (.inl rfl) rfl (e_app (i := 1) (l := l_9) (sz := 1) (E := 5) (R := R8) (by_ := 1) (m := x_14) tk rfl (by kernel_rfl) rfl (.r (by kernel_rfl)) e_l_15 (by kernel_rfl)) (by kernel_rfl) rfl (by kernel_rfl) ?_
           refine SD.takes tk D_12 [] kn0 [11] [] [] [true, true, true, true, true, true, true, true, true, true, true, true] [(3, vs 7), (6, vs 0), (7, vi .i64 (len db_1)), (8, vi .i64 x_6)] rfl (by kernel_rfl) (by kernel_rfl) (by kernel_rfl) ?_
           refine SD.done (by kernel_rfl) fun a w h => ?_
           exact ⟨l_15, hp, h.at (js := [.g 0, .g 7]) (by kernel_rfl)⟩
         · refine SC.skipJ fun a w h => ?_
           exact ⟨l_9, hp, h.at (js := [.g 0, .g 1]) (by kernel_rfl)⟩
     · rintro a w ⟨l_7, hp, h⟩
       refine h.go ?_
       refine SC.reg ?_
       refine SL.sim tk 2 [(3, vs 1), (6, vs 0), (7, vi .i64 (len db_1)), (8, vi .i64 (w64 (x_6 + 1)))] [] [] [] (by kernel_rfl) ?_
       refine SL.nilJ fun a w h => ?_
       exact ⟨n1, Nat.lt_succ_self _, l_7, w64 (x_6 + 1), next_inv hp hs1, h.at (js := [.g 0, .g 1]) (by kernel_rfl)⟩
   · refine SC.exitJ rfl fun a w h => ?_
     have ho := done_inv hp hs1
     replace hp := ho1
     try rw [ho] at hp
     exact ⟨l_5, hp, h.at (js := [.g 0, .g 1]) (by kernel_rfl)⟩
 · rintro a w ⟨l_2, hp, h⟩
   refine h.go ?_
   refine SC.seq ?_
   refine SC.reg ?_
   refine SL.sim tk 1 [(43, vs 1)] [] [] [] (by kernel_rfl) ?_
   obtain ⟨x_3, e_x_3, hp⟩ := bind_inv hp
   refine SL.eff (e_c Try.call61 (ok_mac_Tag F 0 l_2 _ e_x_3) [.l 1] [vi .u64 0, vs 1] (vi .u64 x_3) (by kernel_rfl) (.inr ⟨trivial, trivial⟩)) rfl (by kernel_rfl) ?_
   refine SL.eff (e_lit (sz := 1) (E := 34) (R := (RInt .u64)) (by_ := 8) tk [[ci .u64 x_3]] [x_3] (by kernel_rfl) ⟨Clo.int, trivial⟩ rfl (by kernel_rfl) (by kernel_rfl)) rfl (by kernel_rfl) ?_
   obtain ⟨x_4, e_x_4, hp⟩ := bind_inv hp
   refine SL.eff (e_c Try.call60 (ok_mac_Derive F 0 [104, 97, 115, 104] [x_3] _ e_x_4) [.k ⟨#[104, 97, 115, 104]⟩, .l 2] [vi .u64 0, .c (.v (.string ⟨#[104, 97, 115, 104]⟩)), vs 2] (vi .u64 x_4) (by kernel_rfl) (.inr ⟨trivial, trivial, trivial⟩)) rfl (by kernel_rfl) ?_
   refine SL.norm (itsN := [.gone, .own 1 5 R8 l_2, .own 1 34 (RInt .u64) [x_3]]) (by kernel_rfl) ?_
   refine SL.sim tk 2 [(2, vi .u64 (imax 1 x_4))] [] [] [] (by kernel_rfl) ?_
   refine SL.nilThen ?_
   obtain rfl := some_inv' hp
   exact SC.re (js := [.g 0]) tk (by kernel_rfl)

theorem ok_wirelessref23_Put (F : Nat) (n_1 : Int) (size_2 : Int) (r : (List Int)) (hp : wirelessref23_Put F n_1 size_2 = some r) : Spec Try.prog 62 [vi .u64 n_1, vi .i64 size_2] [] (vs 0) [.own 1 5 R8 r] := by
 refine Spec.enter Try.func62 rfl Try.ntmps62 rfl rfl fun fx => ?_
 refine SC.r tk [(0, vi .u64 n_1), (1, vi .i64 size_2)] [] [] [] (by kernel_rfl) ?_
 refine SC.r tk [(0, vi .u64 n_1), (1, vi .i64 size_2), (5, vn)] [] [] [] (by kernel_rfl) ?_
 refine SC.cut (fun a w => ∃ (l_3 : (List Int)), wirelessref23_Put_j1 F l_3 = some r ∧ A 21 0 fx [(5, vs 0)] [.own 1 5 R8 l_3] a w) ?_ ?_
 · refine SC.r tk [(0, vi .u64 n_1), (1, vi .i64 size_2), (5, vn), (6, vi .i64 0)] [] [] [] (by kernel_rfl) ?_
   refine SC.block ?_
   obtain ⟨o1, hi1, ho1⟩ := bind_inv hp
   clear hp
   refine SC.loop (fun n a w => ∃ (x_4 : Int) (l_5 : (List Int)) (x_6 : Int), iter (fun s => wirelessref23_Put_l1 F size_2 s.1 s.2.1 s.2.2) n (x_4, l_5, x_6) = some o1 ∧ A 21 0 fx [(0, vi .u64 x_4), (1, vi .i64 size_2), (5, vs 0), (6, vi .i64 x_6)] [.own 1 5 R8 l_5] a w) F (fun a w h => ⟨n_1, [], 0, hi1, h.at (js := [.n]) (by kernel_rfl)⟩) ?_
   rintro n1 a w ⟨x_4, l_5, x_6, hi1, h⟩
   obtain ⟨n1, q1, rfl, hp, hs1⟩ := iter_inv hi1
   replace hp : wirelessref23_Put_l1 F size_2 x_4 l_5 x_6 = some q1 := hp
   clear hi1
   refine h.go ?_
   refine SC.seq ?_
   refine SC.r tk [(0, vi .u64 x_4), (1, vi .i64 size_2), (5, vs 0), (6, vi .i64 x_6), (9, vb (decide (x_6 < size_2)))] [] [] [] (by kernel_rfl) ?_
   refine SC.if' rfl hp (fun hp => ?_) (fun hp => ?_)
   · refine SC.skipThen ?_
     refine SC.seq ?_
     refine SC.block ?_
     refine SC.seq ?_
     refine SC.reg ?_
     refine SL.sim tk 4 [(0, vi .u64 x_4), (1, vi .i64 size_2), (5, vs 0), (6, vi .i64 x_6), (12, vs 0), (15, vi .u8 (wu8 (remp x_4 256)))] [] [.bin .rem .u64 x_4 256 (remp x_4 256) (by kernel_rfl)] [x_4, 256] (by kernel_rfl) ?_
     refine SL.eff (e_lit (sz := 1) (E := 5) (R := R8) (by_ := 1) tk [[ci .u8 (wu8 (remp x_4 256))]] [wu8 (remp x_4 256)] (by kernel_rfl) ⟨Clo.int, trivial⟩ rfl (by kernel_rfl) (by kernel_rfl)) rfl (by kernel_rfl) ?_
     obtain ⟨l_7, e_l_7, hp⟩ := bind_inv hp
     refine SL.eff (e_app (i := 0) (l := l_5) (sz := 1) (E := 5) (R := R8) (by_ := 1) (m := [wu8 (remp x_4 256)]) tk rfl (by kernel_rfl) rfl (.o 5 (by kernel_rfl)) e_l_7 (by kernel_rfl)) rfl (by kernel_rfl) ?_
     refine SL.sim tk 1 [(0, vi .u64 x_4), (1, vi .i64 size_2), (5, vs 2), (6, vi .i64 x_6)] [] [] [] (by kernel_rfl) ?_
     refine SL.nilThen ?_
     refine SC.reg ?_
     refine SL.sim tk 3 [(0, vi .u64 (quop .u64 x_4 256)), (1, vi .i64 size_2), (5, vs 2), (6, vi .i64 x_6)] [] [.bin .quo .u64 x_4 256 (quop .u64 x_4 256) (by kernel_rfl)] [x_4, 256] (by kernel_rfl) ?_
     refine SL.nilThen ?_
     refine SC.reg ?_
     refine SL.sim tk 3 [(0, vi .u64 (quop .u64 x_4 256)), (1, vi .i64 size_2), (5, vs 2), (6, vi .i64 (w64 (x_6 + 1)))] [] [] [] (by kernel_rfl) ?_
     refine SL.nilJ fun a w h => ?_
     exact ⟨n1, Nat.lt_succ_self _, (quop .u64 x_4 256), l_7, w64 (x_6 + 1), next_inv hp hs1, h.at (js := [.g 2]) (by kernel_rfl)⟩
   · refine SC.exitJ rfl fun a w h => ?_
     have ho := done_inv hp hs1
     replace hp := ho1
     try rw [ho] at hp
     exact ⟨l_5, hp, h.at (js := [.g 0]) (by kernel_rfl)⟩
 · rintro a w ⟨l_3, hp, h⟩
   refine h.go ?_
   refine SC.r tk [(4, vs 0)] [] [] [] (by kernel_rfl) ?_
   obtain rfl := some_inv' hp
   exact SC.re (js := [.g 0]) tk (by kernel_rfl)

theorem ok_wirelessref05_Low (F : Nat) (k_1 : Int) (i_2 : Int) (r : Int) (hp : wirelessref05_Low F k_1 i_2 = some r) : Spec Try.prog 96 [vi .u64 k_1, vi .i64 i_2] [] (vi .u32 r) [] := by
 refine Spec.enter Try.func96 rfl Try.ntmps96 rfl rfl fun fx => ?_
 refine SC.r tk [(0, vi .u64 k_1), (1, vi .i64 i_2)] [] [] [] (by kernel_rfl) ?_
 refine SC.r tk [(0, vi .u64 k_1), (5, vi .i64 (remp (w64 ((w64 ((remp i_2 64) + 64)) * 11)) 64))] [] [.bin .rem .i64 i_2 64 (remp i_2 64) (by kernel_rfl), .bin .rem .i64 (w64 ((w64 ((remp i_2 64) + 64)) * 11)) 64 (remp (w64 ((w64 ((remp i_2 64) + 64)) * 11)) 64) (by kernel_rfl)] [i_2, 64, w64 ((w64 ((remp i_2 64) + 64)) * 11), 64] (by kernel_rfl) ?_
 refine SC.r tk [(5, vi .i64 (remp (w64 ((w64 ((remp i_2 64) + 64)) * 11)) 64)), (6, vi .u64 k_1)] [] [] [] (by kernel_rfl) ?_
 refine SC.cut (fun a w => ∃ (x_3 : Int), wirelessref05_Low_j1 F x_3 = some r ∧ A 26 0 fx [(6, vi .u64 x_3)] [] a w) ?_ ?_
 · refine SC.r tk [(5, vi .i64 (remp (w64 ((w64 ((remp i_2 64) + 64)) * 11)) 64)), (6, vi .u64 k_1), (14, vb (decide ((remp (w64 ((w64 ((remp i_2 64) + 64)) * 11)) 64) > 0)))] [] [] [] (by kernel_rfl) ?_
   refine SC.if' rfl hp (fun hp => ?_) (fun hp => ?_)
   · refine SC.draw MO [] (by kernel_rfl) fun kap_4 D_5 => ?_
     obtain ⟨x_6, e_x_6, hp⟩ := bind_inv hp
     obtain ⟨x_7, e_x_7, hp⟩ := bind_inv hp
     refine SD.takes tk D_5 [] kn0 [0, 1, 2, 3, 4, 5, 6, 7, 8] [.bin .shl .u64 k_1 (remp (w64 ((w64 ((remp i_2 64) + 64)) * 11)) 64) x_6 e_x_6, .bin .shr .u64 k_1 (w64 (64 - (remp (w64 ((w64 ((remp i_2 64) + 64)) * 11)) 64))) x_7 e_x_7] [k_1, (remp (w64 ((w64 ((remp i_2 64) + 64)) * 11)) 64), k_1, w64 (64 - (remp (w64 ((w64 ((remp i_2 64) + 64)) * 11)) 64))] [true, true, true, true, true, true, true, true, true] [(6, vi .u64 (ior .u64 x_6 x_7))] rfl (by kernel_rfl) (by kernel_rfl) (by kernel_rfl) ?_
     refine SD.done (by kernel_rfl) fun a w h => ?_
     exact ⟨ior .u64 x_6 x_7, hp, h.at (js := []) (by kernel_rfl)⟩
   · refine SC.skipJ fun a w h => ?_
     exact ⟨k_1, hp, h.at (js := []) (by kernel_rfl)⟩
 · rintro a w ⟨x_3, hp, h⟩
   refine h.go ?_
   refine SC.r tk [(4, vi .u32 (wu32 (remp x_3 4294967296)))] [] [.bin .rem .u64 x_3 4294967296 (remp x_3 4294967296) (by kernel_rfl)] [x_3, 4294967296] (by kernel_rfl) ?_
   obtain rfl := some_inv' hp
   exact SC.re (js := []) tk (by kernel_rfl)

theorem ok_wirelessref05_Turn (F : Nat) (x_1 : Int) (n_2 : Int) (r : Int) (hp : wirelessref05_Turn F x_1 n_2 = some r) : Spec Try.prog 97 [vi .u32 x_1, vi .i64 n_2] [] (vi .u32 r) [] := by
 refine Spec.enter Try.func97 rfl Try.ntmps97 rfl rfl fun fx => ?_
 refine SC.r tk [(0, vi .u32 x_1), (1, vi .i64 n_2)] [] [] [] (by kernel_rfl) ?_
 refine SC.cut (fun a w => ∃ (x_3 : Int), wirelessref05_Turn_j1 F x_3 = some r ∧ A 13 0 fx [(4, vi .u32 x_3)] [] a w) ?_ ?_
 · refine SC.draw MO [] (by kernel_rfl) fun kap_4 D_5 => ?_
   obtain ⟨x_6, e_x_6, hp⟩ := bind_inv hp
   obtain ⟨x_7, e_x_7, hp⟩ := bind_inv hp
   refine SD.takes tk D_5 [] kn0 [0, 1, 2, 3, 4, 5, 6, 7, 8] [.bin .shl .u32 x_1 n_2 x_6 e_x_6, .bin .shr .u32 x_1 (w64 (32 - n_2)) x_7 e_x_7] [x_1, n_2, x_1, w64 (32 - n_2)] [true, true, true, true, true, true, true, true, true] [(4, vi .u32 (ior .u32 x_6 x_7))] rfl (by kernel_rfl) (by kernel_rfl) (by kernel_rfl) ?_
   refine SD.done (by kernel_rfl) fun a w h => ?_
   exact ⟨ior .u32 x_6 x_7, hp, h.at (js := []) (by kernel_rfl)⟩
 · rintro a w ⟨x_3, hp, h⟩
   refine h.go ?_
   obtain rfl := some_inv' hp
   exact SC.re (js := []) tk (by kernel_rfl)

theorem ok_wirelessref05_Round (F : Nat) (k_1 : Int) (i_2 : Int) (half_3 : Int) (r : Int) (hp : wirelessref05_Round F k_1 i_2 half_3 = some r) : Spec Try.prog 92 [vi .u64 k_1, vi .i64 i_2, vi .u32 half_3] [] (vi .u32 r) [] := by
 refine Spec.enter Try.func92 rfl Try.ntmps92 rfl rfl fun fx => ?_
 refine SC.r tk [(0, vi .u64 k_1), (1, vi .i64 i_2), (2, vi .u32 half_3)] [] [] [] (by kernel_rfl) ?_
 refine SC.seq ?_
 refine SC.reg ?_
 refine SL.sim tk 2 [(2, vi .u32 half_3), (8, vi .u64 k_1), (9, vi .i64 i_2)] [] [] [] (by kernel_rfl) ?_
 obtain ⟨x_4, e_x_4, hp⟩ := bind_inv hp
 refine SL.eff (e_c Try.call96 (ok_wirelessref05_Low F k_1 i_2 _ e_x_4) [] [vi .u64 k_1, vi .i64 i_2] (vi .u32 x_4) (by kernel_rfl) (.inl rfl)) rfl (by kernel_rfl) ?_
 refine SL.sim tk 1 [(2, vi .u32 half_3), (7, vi .u32 x_4)] [] [] [] (by kernel_rfl) ?_
 refine SL.nilThen ?_
 refine SC.seq ?_
 refine SC.reg ?_
 refine SL.sim tk 3 [(7, vi .u32 x_4), (13, vi .u32 (wu32 (half_3 + x_4)))] [] [] [] (by kernel_rfl) ?_
 obtain ⟨x_5, e_x_5, hp⟩ := bind_inv hp
 refine SL.eff (e_c Try.call97 (ok_wirelessref05_Turn F (wu32 (half_3 + x_4)) 7 _ e_x_5) [] [vi .u32 (wu32 (half_3 + x_4)), vi .i64 7] (vi .u32 x_5) (by kernel_rfl) (.inl rfl)) rfl (by kernel_rfl) ?_
 refine SL.norm (itsN := []) (by kernel_rfl) ?_
 refine SL.sim tk 2 [(15, vi .u32 (wu32 (x_5 * 2654435761))), (16, vi .u32 x_4)] [] [] [] (by kernel_rfl) ?_
 obtain ⟨x_6, e_x_6, hp⟩ := bind_inv hp
 refine SL.eff (e_c Try.call97 (ok_wirelessref05_Turn F x_4 16 _ e_x_6) [] [vi .u32 x_4, vi .i64 16] (vi .u32 x_6) (by kernel_rfl) (.inl rfl)) rfl (by kernel_rfl) ?_
 refine SL.sim tk 2 [(6, vi .u32 (ixor .u32 (wu32 (x_5 * 2654435761)) x_6))] [] [] [] (by kernel_rfl) ?_
 refine SL.nilThen ?_
 obtain rfl := some_inv' hp
 exact SC.re (js := []) tk (by kernel_rfl)

theorem ok_wirelessref05_Mix (F : Nat) (k_1 : Int) (x_2 : Int) (r : Int) (hp : wirelessref05_Mix F k_1 x_2 = some r) : Spec Try.prog 83 [vi .u64 k_1, vi .u64 x_2] [] (vi .u64 r) [] := by
 refine Spec.enter Try.func83 rfl Try.ntmps83 rfl rfl fun fx => ?_
 refine SC.r tk [(0, vi .u64 k_1), (1, vi .u64 x_2)] [] [] [] (by kernel_rfl) ?_
 refine SC.r tk [(0, vi .u64 k_1), (1, vi .u64 x_2), (5, vi .u32 (wu32 (quop .u64 x_2 4294967296)))] [] [.bin .quo .u64 x_2 4294967296 (quop .u64 x_2 4294967296) (by kernel_rfl)] [x_2, 4294967296] (by kernel_rfl) ?_
 refine SC.r tk [(0, vi .u64 k_1), (5, vi .u32 (wu32 (quop .u64 x_2 4294967296))), (6, vi .u32 (wu32 (remp x_2 4294967296)))] [] [.bin .rem .u64 x_2 4294967296 (remp x_2 4294967296) (by kernel_rfl)] [x_2, 4294967296] (by kernel_rfl) ?_
 refine SC.cut (fun a w => ∃ (x_3 : Int) (x_4 : Int), wirelessref05_Mix_j1 F x_3 x_4 = some r ∧ A 33 0 fx [(5, vi .u32 x_3), (6, vi .u32 x_4)] [] a w) ?_ ?_
 · refine SC.r tk [(0, vi .u64 k_1), (5, vi .u32 (wu32 (quop .u64 x_2 4294967296))), (6, vi .u32 (wu32 (remp x_2 4294967296))), (7, vi .i64 0)] [] [] [] (by kernel_rfl) ?_
   refine SC.block ?_
   obtain ⟨o1, hi1, ho1⟩ := bind_inv hp
   clear hp
   refine SC.loop (fun n a w => ∃ (x_5 : Int) (x_6 : Int) (x_7 : Int), iter (fun s => wirelessref05_Mix_l1 F k_1 s.1 s.2.1 s.2.2) n (x_5, x_6, x_7) = some o1 ∧ A 33 0 fx [(0, vi .u64 k_1), (5, vi .u32 x_5), (6, vi .u32 x_6), (7, vi .i64 x_7)] [] a w) F (fun a w h => ⟨wu32 (quop .u64 x_2 4294967296), wu32 (remp x_2 4294967296), 0, hi1, h.at (js := []) (by kernel_rfl)⟩) ?_
   rintro n1 a w ⟨x_5, x_6, x_7, hi1, h⟩
   obtain ⟨n1, q1, rfl, hp, hs1⟩ := iter_inv hi1
   replace hp : wirelessref05_Mix_l1 F k_1 x_5 x_6 x_7 = some q1 := hp
   clear hi1
   refine h.go ?_
   refine SC.seq ?_
   refine SC.r tk [(0, vi .u64 k_1), (5, vi .u32 x_5), (6, vi .u32 x_6), (7, vi .i64 x_7), (16, vb (decide (x_7 < 8)))] [] [] [] (by kernel_rfl) ?_
   refine SC.if' rfl hp (fun hp => ?_) (fun hp => ?_)
   · refine SC.skipThen ?_
     refine SC.seq ?_
     refine SC.block ?_
     refine SC.seq ?_
     refine SC.reg ?_
     refine SL.sim tk 4 [(0, vi .u64 k_1), (6, vi .u32 x_6), (7, vi .i64 x_7), (19, vi .u32 x_5), (20, vi .u64 k_1), (21, vi .i64 x_7), (22, vi .u32 x_6)] [] [] [] (by kernel_rfl) ?_
     obtain ⟨x_8, e_x_8, hp⟩ := bind_inv hp
     refine SL.eff (e_c Try.call92 (ok_wirelessref05_Round F k_1 x_7 x_6 _ e_x_8) [] [vi .u64 k_1, vi .i64 x_7, vi .u32 x_6] (vi .u32 x_8) (by kernel_rfl) (.inl rfl)) rfl (by kernel_rfl) ?_
     refine SL.sim tk 2 [(0, vi .u64 k_1), (6, vi .u32 x_6), (7, vi .i64 x_7), (8, vi .u32 (ixor .u32 x_5 x_8))] [] [] [] (by kernel_rfl) ?_
     refine SL.nilThen ?_
     refine SC.r tk [(0, vi .u64 k_1), (5, vi .u32 x_6), (7, vi .i64 x_7), (8, vi .u32 (ixor .u32 x_5 x_8))] [] [] [] (by kernel_rfl) ?_
     refine SC.reg ?_
     refine SL.sim tk 2 [(0, vi .u64 k_1), (5, vi .u32 x_6), (6, vi .u32 (ixor .u32 x_5 x_8)), (7, vi .i64 x_7)] [] [] [] (by kernel_rfl) ?_
     refine SL.nilThen ?_
     refine SC.reg ?_
     refine SL.sim tk 3 [(0, vi .u64 k_1), (5, vi .u32 x_6), (6, vi .u32 (ixor .u32 x_5 x_8)), (7, vi .i64 (w64 (x_7 + 1)))] [] [] [] (by kernel_rfl) ?_
     refine SL.nilJ fun a w h => ?_
     exact ⟨n1, Nat.lt_succ_self _, x_6, ixor .u32 x_5 x_8, w64 (x_7 + 1), next_inv hp hs1, h.at (js := []) (by kernel_rfl)⟩
   · refine SC.exitJ rfl fun a w h => ?_
     have ho := done_inv hp hs1
     replace hp := ho1
     try rw [ho] at hp
     exact ⟨x_5, x_6, hp, h.at (js := []) (by kernel_rfl)⟩
 · rintro a w ⟨x_3, x_4, hp, h⟩
   refine h.go ?_
   refine SC.r tk [(4, vi .u64 (wu64 ((wu64 ((wu64 x_3) * 4294967296)) + (wu64 x_4))))] [] [] [] (by kernel_rfl) ?_
   obtain rfl := some_inv' hp
   exact SC.re (js := []) tk (by kernel_rfl)

theorem ok_wirelessref02_Value (F : Nat) (b_1 : (List Int)) (r : Int) (hp : wirelessref02_Value F b_1 = some r) : Spec Try.prog 84 [vs 0] [.rd 1 R8 b_1] (vi .u64 r) [.gone] := by
 refine Spec.enter Try.func84 rfl Try.ntmps84 rfl rfl fun fx => ?_
 refine SC.r tk [(0, vs 0)] [] [] [] (by kernel_rfl) ?_
 refine SC.r tk [(0, vs 0), (3, vi .u64 0)] [] [] [] (by kernel_rfl) ?_
 refine SC.cut (fun a w => ∃ (x_2 : Int), wirelessref02_Value_j1 F x_2 = some r ∧ A 21 1 fx [(3, vi .u64 x_2)] [.gone] a w) ?_ ?_
 · refine SC.r tk [(0, vs 0), (3, vi .u64 0), (4, vi .i64 (w64 ((len b_1) - 1)))] [] [] [] (by kernel_rfl) ?_
   refine SC.block ?_
   obtain ⟨o1, hi1, ho1⟩ := bind_inv hp
   clear hp
   refine SC.loop (fun n a w => ∃ (x_3 : Int) (x_4 : Int), iter (fun s => wirelessref02_Value_l1 F b_1 s.1 s.2) n (x_3, x_4) = some o1 ∧ A 21 1 fx [(0, vs 0), (3, vi .u64 x_3), (4, vi .i64 x_4)] [.rd 1 R8 b_1] a w) F (fun a w h => ⟨0, w64 ((len b_1) - 1), hi1, h.at (js := [.g 0]) (by kernel_rfl)⟩) ?_
   rintro n1 a w ⟨x_3, x_4, hi1, h⟩
   obtain ⟨n1, q1, rfl, hp, hs1⟩ := iter_inv hi1
   replace hp : wirelessref02_Value_l1 F b_1 x_3 x_4 = some q1 := hp
   clear hi1
   refine h.go ?_
   refine SC.seq ?_
   refine SC.r tk [(0, vs 0), (3, vi .u64 x_3), (4, vi .i64 x_4), (9, vb (decide (x_4 ≥ 0)))] [] [] [] (by kernel_rfl) ?_
   refine SC.if' rfl hp (fun hp => ?_) (fun hp => ?_)
   · refine SC.skipThen ?_
     refine SC.seq ?_
     refine SC.block ?_
     refine SC.reg ?_
     obtain ⟨x_5, e_x_5, hp⟩ := bind_inv hp
     refine SL.pre (pre_ix (i := 0) (iv := x_4) (sz := 1) (R := R8) (l := b_1) (by kernel_rfl) rfl e_x_5) ?_
     refine SL.sim tk 9 [(0, vs 0), (3, vi .u64 (wu64 ((wu64 (x_3 * 256)) + (wu64 x_5)))), (4, vi .i64 x_4)] [] [.el 1] [x_4] (by kernel_rfl) ?_
     refine SL.nilThen ?_
     refine SC.reg ?_
     refine SL.sim tk 3 [(0, vs 0), (3, vi .u64 (wu64 ((wu64 (x_3 * 256)) + (wu64 x_5)))), (4, vi .i64 (w64 (x_4 - 1)))] [] [] [] (by kernel_rfl) ?_
     refine SL.nilJ fun a w h => ?_
     exact ⟨n1, Nat.lt_succ_self _, wu64 ((wu64 (x_3 * 256)) + (wu64 x_5)), w64 (x_4 - 1), next_inv hp hs1, h.at (js := [.g 0]) (by kernel_rfl)⟩
   · refine SC.exitJ rfl fun a w h => ?_
     have ho := done_inv hp hs1
     replace hp := ho1
     try rw [ho] at hp
     exact ⟨x_3, hp, h.at (js := [.g 0]) (by kernel_rfl)⟩
 · rintro a w ⟨x_2, hp, h⟩
   refine h.go ?_
   refine SC.r tk [(2, vi .u64 x_2)] [] [] [] (by kernel_rfl) ?_
   obtain rfl := some_inv' hp
   exact SC.re (js := [.g 0]) tk (by kernel_rfl)

theorem ok_wirelessref06_Tag (F : Nat) (k_1 : Int) (b_2 : (List Int)) (r : Int) (hp : wirelessref06_Tag F k_1 b_2 = some r) : Spec Try.prog 65 [vi .u64 k_1, vs 0] [.rd 1 R8 b_2] (vi .u64 r) [.gone] := by
 refine Spec.enter Try.func65 rfl Try.ntmps65 rfl rfl fun fx => ?_
 refine SC.r tk [(0, vi .u64 k_1), (1, vs 0)] [] [] [] (by kernel_rfl) ?_
 refine SC.seq ?_
 refine SC.reg ?_
 refine SL.sim tk 4 [(0, vi .u64 k_1), (1, vs 0), (7, vi .u64 k_1), (10, vi .u64 (wu64 (len b_2)))] [] [] [] (by kernel_rfl) ?_
 obtain ⟨x_3, e_x_3, hp⟩ := bind_inv hp
 refine SL.eff (e_c Try.call83 (ok_wirelessref05_Mix F k_1 (wu64 (len b_2)) _ e_x_3) [] [vi .u64 k_1, vi .u64 (wu64 (len b_2))] (vi .u64 x_3) (by kernel_rfl) (.inl rfl)) rfl (by kernel_rfl) ?_
 refine SL.sim tk 1 [(0, vi .u64 k_1), (1, vs 0), (5, vi .u64 x_3)] [] [] [] (by kernel_rfl) ?_
 refine SL.nilThen ?_
 refine SC.cut (fun a w => ∃ (x_4 : Int), wirelessref06_Tag_j1 F x_4 = some r ∧ A 32 1 fx [(5, vi .u64 x_4)] [.gone] a w) ?_ ?_
 · refine SC.r tk [(0, vi .u64 k_1), (1, vs 0), (5, vi .u64 x_3), (6, vi .i64 0)] [] [] [] (by kernel_rfl) ?_
   refine SC.block ?_
   obtain ⟨o1, hi1, ho1⟩ := bind_inv hp
   clear hp
   refine SC.loop (fun n a w => ∃ (x_5 : Int) (x_6 : Int), iter (fun s => wirelessref06_Tag_l1 F k_1 b_2 s.1 s.2) n (x_5, x_6) = some o1 ∧ A 32 1 fx [(0, vi .u64 k_1), (1, vs 0), (5, vi .u64 x_5), (6, vi .i64 x_6)] [.rd 1 R8 b_2] a w) F (fun a w h => ⟨x_3, 0, hi1, h.at (js := [.g 0]) (by kernel_rfl)⟩) ?_
   rintro n1 a w ⟨x_5, x_6, hi1, h⟩
   obtain ⟨n1, q1, rfl, hp, hs1⟩ := iter_inv hi1
   replace hp : wirelessref06_Tag_l1 F k_1 b_2 x_5 x_6 = some q1 := hp
   clear hi1
   refine h.go ?_
   refine SC.seq ?_
   refine SC.r tk [(0, vi .u64 k_1), (1, vs 0), (5, vi .u64 x_5), (6, vi .i64 x_6), (15, vb (decide (x_6 < (len b_2))))] [] [] [] (by kernel_rfl) ?_
   refine SC.if' rfl hp (fun hp => ?_) (fun hp => ?_)
   · refine SC.skipThen ?_
     refine SC.seq ?_
     refine SC.block ?_
     refine SC.reg ?_
     refine SL.sim tk 9 [(0, vi .u64 k_1), (1, vs 0), (5, vi .u64 x_5), (6, vi .i64 x_6), (18, vi .u64 k_1), (19, vi .u64 x_5), (20, vs 0), (21, vi .i64 x_6), (26, vi .i64 (imin (w64 (x_6 + 8)) (len b_2)))] [] [] [] (by kernel_rfl) ?_
     obtain ⟨l_7, e_l_7, hp⟩ := bind_inv hp
     refine SL.eff (e_sub (sz := 1) (E := 5) (R := R8) (by_ := 1) (l := b_2) tk rfl (.inl ⟨0, rfl, (by kernel_rfl)⟩) rfl rfl e_l_7 (by kernel_rfl)) rfl (by kernel_rfl) ?_
     obtain ⟨x_8, e_x_8, hp⟩ := bind_inv hp
     refine SL.eff (e_c Try.call84 (ok_wirelessref02_Value F l_7 _ e_x_8) [.g 1] [vs 1] (vi .u64 x_8) (by kernel_rfl) (.inl rfl)) rfl (by kernel_rfl) ?_
     refine SL.sim tk 1 [(0, vi .u64 k_1), (1, vs 0), (5, vi .u64 x_5), (6, vi .i64 x_6), (18, vi .u64 k_1), (29, vi .u64 (ixor .u64 x_5 x_8))] [] [] [] (by kernel_rfl) ?_
     obtain ⟨x_9, e_x_9, hp⟩ := bind_inv hp
     refine SL.eff (e_c Try.call83 (ok_wirelessref05_Mix F k_1 (ixor .u64 x_5 x_8) _ e_x_9) [] [vi .u64 k_1, vi .u64 (ixor .u64 x_5 x_8)] (vi .u64 x_9) (by kernel_rfl) (.inl rfl)) rfl (by kernel_rfl) ?_
     refine SL.norm (itsN := [.rd 1 R8 b_2, .rd 1 R8 l_7]) (by kernel_rfl) ?_
     refine SL.sim tk 1 [(0, vi .u64 k_1), (1, vs 0), (5, vi .u64 x_9), (6, vi .i64 x_6)] [] [] [] (by kernel_rfl) ?_
     refine SL.nilThen ?_
     refine SC.reg ?_
     refine SL.sim tk 3 [(0, vi .u64 k_1), (1, vs 0), (5, vi .u64 x_9), (6, vi .i64 (w64 (x_6 + 8)))] [] [] [] (by kernel_rfl) ?_
     refine SL.nilJ fun a w h => ?_
     exact ⟨n1, Nat.lt_succ_self _, x_9, w64 (x_6 + 8), next_inv hp hs1, h.at (js := [.g 0]) (by kernel_rfl)⟩
   · refine SC.exitJ rfl fun a w h => ?_
     have ho := done_inv hp hs1
     replace hp := ho1
     try rw [ho] at hp
     exact ⟨x_5, hp, h.at (js := [.g 0]) (by kernel_rfl)⟩
 · rintro a w ⟨x_4, hp, h⟩
   refine h.go ?_
   refine SC.r tk [(4, vi .u64 x_4)] [] [] [] (by kernel_rfl) ?_
   obtain rfl := some_inv' hp
   exact SC.re (js := [.g 0]) tk (by kernel_rfl)

theorem ok_wirelessref02_Num (F : Nat) (size_1 : Int) (v_2 : Int) (r : (List Int)) (hp : wirelessref02_Num F size_1 v_2 = some r) : Spec Try.prog 82 [vi .i64 size_1, vi .u64 v_2] [] (vs 0) [.rd 1 R8 r] := by
 refine Spec.enter Try.func82 rfl Try.ntmps82 rfl rfl fun fx => ?_
 refine SC.r tk [(0, vi .i64 size_1), (1, vi .u64 v_2)] [] [] [] (by kernel_rfl) ?_
 refine SC.seq ?_
 refine SC.reg ?_
 refine SL.eff (e_lit (sz := 1) (E := 5) (R := R8) (by_ := 1) tk [] ([] : (List Int)) (by kernel_rfl) trivial rfl (by kernel_rfl) (by kernel_rfl)) rfl (by kernel_rfl) ?_
 refine SL.sim tk 1 [(0, vi .i64 size_1), (1, vi .u64 v_2), (5, vs 0)] [] [] [] (by kernel_rfl) ?_
 refine SL.nilThen ?_
 refine SC.cut (fun a w => ∃ (l_3 : (List Int)), wirelessref02_Num_j1 F l_3 = some r ∧ A 22 0 fx [(5, vs 0)] [.own 1 5 R8 l_3] a w) ?_ ?_
 · refine SC.r tk [(0, vi .i64 size_1), (1, vi .u64 v_2), (5, vs 0), (6, vi .i64 0)] [] [] [] (by kernel_rfl) ?_
   refine SC.block ?_
   obtain ⟨o1, hi1, ho1⟩ := bind_inv hp
   clear hp
   refine SC.loop (fun n a w => ∃ (x_4 : Int) (l_5 : (List Int)) (x_6 : Int), iter (fun s => wirelessref02_Num_l1 F size_1 s.1 s.2.1 s.2.2) n (x_4, l_5, x_6) = some o1 ∧ A 22 0 fx [(0, vi .i64 size_1), (1, vi .u64 x_4), (5, vs 0), (6, vi .i64 x_6)] [.own 1 5 R8 l_5] a w) F (fun a w h => ⟨v_2, ([] : (List Int)), 0, hi1, h.at (js := [.g 0]) (by kernel_rfl)⟩) ?_
   rintro n1 a w ⟨x_4, l_5, x_6, hi1, h⟩
   obtain ⟨n1, q1, rfl, hp, hs1⟩ := iter_inv hi1
   replace hp : wirelessref02_Num_l1 F size_1 x_4 l_5 x_6 = some q1 := hp
   clear hi1
   refine h.go ?_
   refine SC.seq ?_
   refine SC.r tk [(0, vi .i64 size_1), (1, vi .u64 x_4), (5, vs 0), (6, vi .i64 x_6), (10, vb (decide (x_6 < size_1)))] [] [] [] (by kernel_rfl) ?_
   refine SC.if' rfl hp (fun hp => ?_) (fun hp => ?_)
   · refine SC.skipThen ?_
     refine SC.seq ?_
     refine SC.block ?_
     refine SC.seq ?_
     refine SC.reg ?_
     refine SL.sim tk 4 [(0, vi .i64 size_1), (1, vi .u64 x_4), (5, vs 0), (6, vi .i64 x_6), (13, vs 0), (16, vi .u8 (wu8 (remp x_4 256)))] [] [.bin .rem .u64 x_4 256 (remp x_4 256) (by kernel_rfl)] [x_4, 256] (by kernel_rfl) ?_
     refine SL.eff (e_lit (sz := 1) (E := 5) (R := R8) (by_ := 1) tk [[ci .u8 (wu8 (remp x_4 256))]] [wu8 (remp x_4 256)] (by kernel_rfl) ⟨Clo.int, trivial⟩ rfl (by kernel_rfl) (by kernel_rfl)) rfl (by kernel_rfl) ?_
     obtain ⟨l_7, e_l_7, hp⟩ := bind_inv hp
     refine SL.eff (e_app (i := 0) (l := l_5) (sz := 1) (E := 5) (R := R8) (by_ := 1) (m := [wu8 (remp x_4 256)]) tk rfl (by kernel_rfl) rfl (.o 5 (by kernel_rfl)) e_l_7 (by kernel_rfl)) rfl (by kernel_rfl) ?_
     refine SL.sim tk 1 [(0, vi .i64 size_1), (1, vi .u64 x_4), (5, vs 2), (6, vi .i64 x_6)] [] [] [] (by kernel_rfl) ?_
     refine SL.nilThen ?_
     refine SC.reg ?_
     refine SL.sim tk 3 [(0, vi .i64 size_1), (1, vi .u64 (quop .u64 x_4 256)), (5, vs 2), (6, vi .i64 x_6)] [] [.bin .quo .u64 x_4 256 (quop .u64 x_4 256) (by kernel_rfl)] [x_4, 256] (by kernel_rfl) ?_
     refine SL.nilThen ?_
     refine SC.reg ?_
     refine SL.sim tk 3 [(0, vi .i64 size_1), (1, vi .u64 (quop .u64 x_4 256)), (5, vs 2), (6, vi .i64 (w64 (x_6 + 1)))] [] [] [] (by kernel_rfl) ?_
     refine SL.nilJ fun a w h => ?_
     exact ⟨n1, Nat.lt_succ_self _, (quop .u64 x_4 256), l_7, w64 (x_6 + 1), next_inv hp hs1, h.at (js := [.g 2]) (by kernel_rfl)⟩
   · refine SC.exitJ rfl fun a w h => ?_
     have ho := done_inv hp hs1
     replace hp := ho1
     try rw [ho] at hp
     exact ⟨l_5, hp, h.at (js := [.g 0]) (by kernel_rfl)⟩
 · rintro a w ⟨l_3, hp, h⟩
   refine h.go ?_
   refine SC.r tk [(4, vs 0)] [] [] [] (by kernel_rfl) ?_
   obtain rfl := some_inv' hp
   exact SC.re (js := [.z 0]) tk (by kernel_rfl)

theorem ok_wirelessref06_Derive (F : Nat) (k_1 : Int) (label_2 : List Int) (parts_3 : (List Int)) (r : Int) (hp : wirelessref06_Derive F k_1 label_2 parts_3 = some r) : Spec Try.prog 64 [vi .u64 k_1, vt 0, vs 1] [.str label_2, .rd 1 (RInt .u64) parts_3] (vi .u64 r) [.gone, .gone] := by
 refine Spec.enter Try.func64 rfl Try.ntmps64 rfl rfl fun fx => ?_
 refine SC.r tk [(0, vi .u64 k_1), (1, vt 0), (2, vs 1)] [] [] [] (by kernel_rfl) ?_
 refine SC.seq ?_
 refine SC.reg ?_
 refine SL.sim tk 1 [(0, vi .u64 k_1), (2, vs 1), (9, vt 0)] [] [] [] (by kernel_rfl) ?_
 obtain ⟨l_4, e_l_4, hp⟩ := bind_inv hp
 refine SL.eff (e_s2b (E := 5) tk rfl (.t rfl) e_l_4 (by kernel_rfl)) rfl (by kernel_rfl) ?_
 refine SL.eff (e_lit (sz := 1) (E := 5) (R := R8) (by_ := 1) tk [[ci .u8 0]] [0] (by kernel_rfl) ⟨Clo.int, trivial⟩ rfl (by kernel_rfl) (by kernel_rfl)) rfl (by kernel_rfl) ?_
 obtain ⟨l_5, e_l_5, hp⟩ := bind_inv hp
 refine SL.eff (e_app (i := 2) (l := l_4) (sz := 1) (E := 5) (R := R8) (by_ := 1) (m := [0]) tk rfl (by kernel_rfl) rfl (.o 5 (by kernel_rfl)) e_l_5 (by kernel_rfl)) rfl (by kernel_rfl) ?_
 refine SL.sim tk 1 [(0, vi .u64 k_1), (2, vs 1), (7, vs 4)] [] [] [] (by kernel_rfl) ?_
 refine SL.nilThen ?_
 refine SC.cut (fun a w => ∃ (l_6 : (List Int)), wirelessref06_Derive_j1 F k_1 l_6 = some r ∧ A 29 2 fx [(0, vi .u64 k_1), (7, vs 2)] [.gone, .gone, .own 1 5 R8 l_6] a w) ?_ ?_
 · refine SC.r tk [(0, vi .u64 k_1), (2, vs 1), (7, vs 4), (8, vi .i64 0)] [] [] [] (by kernel_rfl) ?_
   refine SC.block ?_
   obtain ⟨o1, hi1, ho1⟩ := bind_inv hp
   clear hp
   refine SC.loop (fun n a w => ∃ (l_8 : (List Int)) (x_9 : Int), iter (fun s => wirelessref06_Derive_l1 F parts_3 s.1 s.2) n (l_8, x_9) = some o1 ∧ A 29 2 fx [(0, vi .u64 k_1), (2, vs 1), (7, vs 2), (8, vi .i64 x_9)] [.gone, .rd 1 (RInt .u64) parts_3, .own 1 5 R8 l_8] a w) F (fun a w h => ⟨l_5, 0, hi1, h.at (js := [.g 0, .g 1, .g 4]) (by kernel_rfl)⟩) ?_
   rintro n1 a w ⟨l_8, x_9, hi1, h⟩
   obtain ⟨n1, q1, rfl, hp, hs1⟩ := iter_inv hi1
   replace hp : wirelessref06_Derive_l1 F parts_3 l_8 x_9 = some q1 := hp
   clear hi1
   refine h.go ?_
   refine SC.seq ?_
   refine SC.r tk [(0, vi .u64 k_1), (2, vs 1), (7, vs 2), (8, vi .i64 x_9), (16, vb (decide (x_9 < (len parts_3))))] [] [] [] (by kernel_rfl) ?_
   refine SC.if' rfl hp (fun hp => ?_) (fun hp => ?_)
   · refine SC.skipThen ?_
     refine SC.seq ?_
     refine SC.block ?_
     refine SC.reg ?_
     obtain ⟨x_10, e_x_10, hp⟩ := bind_inv hp
     refine SL.pre (pre_ix (i := 1) (iv := x_9) (sz := 1) (R := (RInt .u64)) (l := parts_3) (by kernel_rfl) rfl e_x_10) ?_
     refine SL.sim tk 5 [(0, vi .u64 k_1), (2, vs 1), (7, vs 2), (8, vi .i64 x_9), (19, vs 2), (23, vi .u64 x_10)] [] [.el 3] [x_9] (by kernel_rfl) ?_
     obtain ⟨x_11, e_x_11, hp⟩ := bind_inv hp
     refine SL.eff (e_c Try.call82 (ok_wirelessref02_Num F 8 x_10 _ e_x_11) [] [vi .i64 8, vi .u64 x_10] (vs 4) (by kernel_rfl) (.inl rfl)) rfl (by kernel_rfl) ?_
     obtain ⟨l_12, e_l_12, hp⟩ := bind_inv hp
     refine SL.eff (e_app (i := 2) (l := l_8) (sz := 1) (E := 5) (R := R8) (by_ := 1) (m := x_11) tk rfl (by kernel_rfl) rfl (.r (by kernel_rfl)) e_l_12 (by kernel_rfl)) rfl (by kernel_rfl) ?_
     refine SL.norm (itsN := [.gone, .rd 1 (RInt .u64) parts_3, .gone, .elt (some (1, x_9)) false [ci .u64 x_10], .rd 1 R8 x_11, .own 1 5 R8 l_12]) (by kernel_rfl) ?_
     refine SL.sim tk 1 [(0, vi .u64 k_1), (2, vs 1), (7, vs 5), (8, vi .i64 x_9)] [] [] [] (by kernel_rfl) ?_
     refine SL.nilThen ?_
     refine SC.reg ?_
     refine SL.sim tk 3 [(0, vi .u64 k_1), (2, vs 1), (7, vs 5), (8, vi .i64 (w64 (x_9 + 1)))] [] [] [] (by kernel_rfl) ?_
     refine SL.nilJ fun a w h => ?_
     exact ⟨n1, Nat.lt_succ_self _, l_12, w64 (x_9 + 1), next_inv hp hs1, h.at (js := [.g 0, .g 1, .g 5]) (by kernel_rfl)⟩
   · refine SC.exitJ rfl fun a w h => ?_
     have ho := done_inv hp hs1
     replace hp := ho1
     try rw [ho] at hp
     exact ⟨l_8, hp, h.at (js := [.g 0, .g 1, .g 2]) (by kernel_rfl)⟩
 · rintro a w ⟨l_6, hp, h⟩
   refine h.go ?_
   refine SC.seq ?_
   refine SC.reg ?_
   refine SL.sim tk 2 [(26, vi .u64 k_1), (27, vs 2)] [] [] [] (by kernel_rfl) ?_
   obtain ⟨x_7, e_x_7, hp⟩ := bind_inv hp
   refine SL.eff (e_c Try.call65 (ok_wirelessref06_Tag F k_1 l_6 _ e_x_7) [.l 2] [vi .u64 k_1, vs 2] (vi .u64 x_7) (by kernel_rfl) (.inr ⟨trivial, trivial⟩)) rfl (by kernel_rfl) ?_
   refine SL.sim tk 1 [(6, vi .u64 x_7)] [] [] [] (by kernel_rfl) ?_
   refine SL.nilThen ?_
   obtain rfl := some_inv' hp
   exact SC.re (js := [.g 0, .g 1]) tk (by kernel_rfl)

theorem ok_wirelessref43_Hash (F : Nat) (db_1 : (List T_api_Attribute)) (r : Int) (hp : wirelessref43_Hash F db_1 = some r) : Spec Try.prog 29 [vs 0] [.rd 5 R_T_api_Attribute db_1] (vi .u64 r) [.gone] := by
 refine Spec.enter Try.func29 rfl Try.ntmps29 rfl rfl fun fx => ?_
 refine SC.r tk [(0, vs 0)] [] [] [] (by kernel_rfl) ?_
 refine SC.r tk [(0, vs 0), (3, vn)] [] [] [] (by kernel_rfl) ?_
 refine SC.cut (fun a w => ∃ (l_2 : (List Int)), wirelessref43_Hash_j1 F l_2 = some r ∧ A 66 1 fx [(3, vs 1)] [.gone, .own 1 5 R8 l_2] a w) ?_ ?_
 · refine SC.r tk [(0, vs 0), (3, vn), (4, vi .i64 0)] [] [] [] (by kernel_rfl) ?_
   refine SC.block ?_
   obtain ⟨o1, hi1, ho1⟩ := bind_inv hp
   clear hp
   refine SC.loop (fun n a w => ∃ (l_5 : (List Int)) (x_6 : Int), iter (fun s => wirelessref43_Hash_l1 F db_1 s.1 s.2) n (l_5, x_6) = some o1 ∧ A 66 1 fx [(0, vs 0), (3, vs 1), (4, vi .i64 x_6)] [.rd 5 R_T_api_Attribute db_1, .own 1 5 R8 l_5] a w) F (fun a w h => ⟨[], 0, hi1, h.at (js := [.g 0, .n]) (by kernel_rfl)⟩) ?_
   rintro n1 a w ⟨l_5, x_6, hi1, h⟩
   obtain ⟨n1, q1, rfl, hp, hs1⟩ := iter_inv hi1
   replace hp : wirelessref43_Hash_l1 F db_1 l_5 x_6 = some q1 := hp
   clear hi1
   refine h.go ?_
   refine SC.seq ?_
   refine SC.r tk [(0, vs 0), (3, vs 1), (4, vi .i64 x_6), (8, vb (decide (x_6 < (len db_1))))] [] [] [] (by kernel_rfl) ?_
   refine SC.if' rfl hp (fun hp => ?_) (fun hp => ?_)
   · refine SC.skipThen ?_
     refine SC.cut (fun a w => ∃ (l_7 : (List Int)), wirelessref43_Hash_j2 F x_6 l_7 = some q1 ∧ A 66 1 fx [(0, vs 0), (3, vs 1), (4, vi .i64 x_6)] [.rd 5 R_T_api_Attribute db_1, .own 1 5 R8 l_7] a w) ?_ ?_
     · refine SC.block ?_
       refine SC.seq ?_
       refine SC.reg ?_
       obtain ⟨x_8, e_x_8, hp⟩ := bind_inv hp
       refine SL.pre (pre_ix (i := 0) (iv := x_6) (sz := 5) (R := R_T_api_Attribute) (l := db_1) (by kernel_rfl) rfl e_x_8) ?_
       refine SL.sim tk 7 [(0, vs 0), (3, vs 1), (4, vi .i64 x_6), (11, vs 1), (17, vi .u64 (wu64 x_8.Handle))] [] [.el 2] [x_6] (by kernel_rfl) ?_
       obtain ⟨x_9, e_x_9, hp⟩ := bind_inv hp
       refine SL.eff (e_c Try.call62 (ok_wirelessref23_Put F (wu64 x_8.Handle) 2 _ e_x_9) [] [vi .u64 (wu64 x_8.Handle), vi .i64 2] (vs 4) (by kernel_rfl) (.inl rfl)) rfl (by kernel_rfl) ?_
       obtain ⟨l_10, e_l_10, hp⟩ := bind_inv hp
       refine SL.eff (e_app (i := 1) (l := l_5) (sz := 1) (E := 5) (R := R8) (by_ := 1) (m := x_9) tk rfl (by kernel_rfl) rfl (.o 5 (by kernel_rfl)) e_l_10 (by kernel_rfl)) rfl (by kernel_rfl) ?_
       refine SL.norm (itsN := [.rd 5 R_T_api_Attribute db_1, .gone, .elt (some (0, x_6)) false (C_api_Attribute x_8 (.s 3)), .rd 1 R8 x_8.Value, .own 1 5 R8 x_9, .own 1 5 R8 l_10]) (by kernel_rfl) ?_
       refine SL.sim tk 1 [(0, vs 0), (3, vs 5), (4, vi .i64 x_6)] [] [] [] (by kernel_rfl) ?_
       refine SL.nilThen ?_
       refine SC.seq ?_
       refine SC.reg ?_
       obtain ⟨x_11, e_x_11, hp⟩ := bind_inv hp
       refine SL.pre (pre_ix (i := 0) (iv := x_6) (sz := 5) (R := R_T_api_Attribute) (l := db_1) (by kernel_rfl) rfl e_x_11) ?_
       refine SL.sim tk 7 [(0, vs 0), (3, vs 5), (4, vi .i64 x_6), (20, vs 5), (26, vi .u64 x_11.f_Type.Low)] [] [.el 6] [x_6] (by kernel_rfl) ?_
       obtain ⟨x_12, e_x_12, hp⟩ := bind_inv hp
       refine SL.eff (e_c Try.call62 (ok_wirelessref23_Put F x_11.f_Type.Low 8 _ e_x_12) [] [vi .u64 x_11.f_Type.Low, vi .i64 8] (vs 8) (by kernel_rfl) (.inl rfl)) rfl (by kernel_rfl) ?_
       obtain ⟨l_13, e_l_13, hp⟩ := bind_inv hp
       refine SL.eff (e_app (i := 5) (l := l_10) (sz := 1) (E := 5) (R := R8) (by_ := 1) (m := x_12) tk rfl (by kernel_rfl) rfl (.o 5 (by kernel_rfl)) e_l_13 (by kernel_rfl)) rfl (by kernel_rfl) ?_
       refine SL.norm (itsN := [.rd 5 R_T_api_Attribute db_1, .gone, .elt (some (0, x_6)) false (C_api_Attribute x_8 (.s 3)), .rd 1 R8 x_8.Value, .own 1 5 R8 x_9, .gone, .elt (some (0, x_6)) false (C_api_Attribute x_11 (.s 7)), .rd 1 R8 x_11.Value, .own 1 5 R8 x_12, .own 1 5 R8 l_13]) (by kernel_rfl) ?_
       refine SL.sim tk 1 [(0, vs 0), (3, vs 9), (4, vi .i64 x_6)] [] [] [] (by kernel_rfl) ?_
       refine SL.nilThen ?_
       refine SC.seq ?_
       refine SC.reg ?_
       obtain ⟨x_14, e_x_14, hp⟩ := bind_inv hp
       refine SL.pre (pre_ix (i := 0) (iv := x_6) (sz := 5) (R := R_T_api_Attribute) (l := db_1) (by kernel_rfl) rfl e_x_14) ?_
       refine SL.sim tk 7 [(0, vs 0), (3, vs 9), (4, vi .i64 x_6), (29, vs 9), (35, vi .u64 x_14.f_Type.High)] [] [.el 10] [x_6] (by kernel_rfl) ?_
       obtain ⟨x_15, e_x_15, hp⟩ := bind_inv hp
       refine SL.eff (e_c Try.call62 (ok_wirelessref23_Put F x_14.f_Type.High 8 _ e_x_15) [] [vi .u64 x_14.f_Type.High, vi .i64 8] (vs 12) (by kernel_rfl) (.inl rfl)) rfl (by kernel_rfl) ?_
       obtain ⟨l_16, e_l_16, hp⟩ := bind_inv hp
       refine SL.eff (e_app (i := 9) (l := l_13) (sz := 1) (E := 5) (R := R8) (by_ := 1) (m := x_15) tk rfl (by kernel_rfl) rfl (.o 5 (by kernel_rfl)) e_l_16 (by kernel_rfl)) rfl (by kernel_rfl) ?_
       refine SL.norm (itsN := [.rd 5 R_T_api_Attribute db_1, .gone, .elt (some (0, x_6)) false (C_api_Attribute x_8 (.s 3)), .rd 1 R8 x_8.Value, .own 1 5 R8 x_9, .gone, .elt (some (0, x_6)) false (C_api_Attribute x_11 (.s 7)), .rd 1 R8 x_11.Value, .own 1 5 R8 x_12, .gone, .elt (some (0, x_6)) false (C_api_Attribute x_14 (.s 11)), .rd 1 R8 x_14.Value, .own 1 5 R8 x_15, .own 1 5 R8 l_16]) (by kernel_rfl) ?_
       refine SL.sim tk 1 [(0, vs 0), (3, vs 13), (4, vi .i64 x_6)] [] [] [] (by kernel_rfl) ?_
       refine SL.nilThen ?_
       refine SC.seq ?_
       refine SC.reg ?_
       obtain ⟨x_17, e_x_17, hp⟩ := bind_inv hp
       refine SL.pre (pre_ix (i := 0) (iv := x_6) (sz := 5) (R := R_T_api_Attribute) (l := db_1) (by kernel_rfl) rfl e_x_17) ?_
       refine SL.sim tk 5 [(0, vs 0), (3, vs 13), (4, vi .i64 x_6), (42, .g (C_api_UUID x_17.f_Type))] [] [.el 14] [x_6] (by kernel_rfl) ?_
       obtain ⟨x_18, e_x_18, hp⟩ := bind_inv hp
       refine SL.eff (e_c Try.call63 (ok_wirelessref43_declares F x_17.f_Type _ e_x_18) [] [.g (C_api_UUID x_17.f_Type)] (vb x_18) (by kernel_rfl) (.inl rfl)) rfl (by kernel_rfl) ?_
       refine SL.nilThen ?_
       refine SC.if' rfl hp (fun hp => ?_) (fun hp => ?_)
       · refine SC.seq ?_
         refine SC.reg ?_
         obtain ⟨x_19, e_x_19, hp⟩ := bind_inv hp
         refine SL.pre (pre_ix (i := 0) (iv := x_6) (sz := 5) (R := R_T_api_Attribute) (l := db_1) (by kernel_rfl) rfl e_x_19) ?_
         refine SL.sim tk 8 [(0, vs 0), (3, vs 13), (4, vi .i64 x_6), (44, vs 13), (51, vi .u64 (wu64 (len x_19.Value)))] [] [.el 16] [x_6] (by kernel_rfl) ?_
         obtain ⟨x_20, e_x_20, hp⟩ := bind_inv hp
         refine SL.eff (e_c Try.call62 (ok_wirelessref23_Put F (wu64 (len x_19.Value)) 2 _ e_x_20) [] [vi .u64 (wu64 (len x_19.Value)), vi .i64 2] (vs 18) (by kernel_rfl) (.inl rfl)) rfl (by kernel_rfl) ?_
         refine SL.norm (itsN := [.rd 5 R_T_api_Attribute db_1, .gone, .elt (some (0, x_6)) false (C_api_Attribute x_8 (.s 3)), .rd 1 R8 x_8.Value, .own 1 5 R8 x_9, .gone, .elt (some (0, x_6)) false (C_api_Attribute x_11 (.s 7)), .rd 1 R8 x_11.Value, .own 1 5 R8 x_12, .gone, .elt (some (0, x_6)) false (C_api_Attribute x_14 (.s 11)), .rd 1 R8 x_14.Value, .own 1 5 R8 x_15, .own 1 5 R8 l_16, .elt (some (0, x_6)) false (C_api_Attribute x_17 (.s 15)), .rd 1 R8 x_17.Value, .elt (some (0, x_6)) false (C_api_Attribute x_19 (.s 17)), .rd 1 R8 x_19.Value, .own 1 5 R8 x_20]) (by kernel_rfl) ?_
         obtain ⟨l_21, e_l_21, hp⟩ := bind_inv hp
         refine SL.eff (e_app (i := 13) (l := l_16) (sz := 1) (E := 5) (R := R8) (by_ := 1) (m := x_20) tk rfl (by kernel_rfl) rfl (.o 5 (by kernel_rfl)) e_l_21 (by kernel_rfl)) rfl (by kernel_rfl) ?_
         refine SL.sim tk 1 [(0, vs 0), (3, vs 19), (4, vi .i64 x_6)] [] [] [] (by kernel_rfl) ?_
         refine SL.nilThen ?_
         refine SC.reg ?_
         obtain ⟨x_22, e_x_22, hp⟩ := bind_inv hp
         refine SL.pre (pre_ix (i := 0) (iv := x_6) (sz := 5) (R := R_T_api_Attribute) (l := db_1) (by kernel_rfl) rfl e_x_22) ?_
         refine SL.sim tk 6 [(0, vs 0), (3, vs 19), (4, vi .i64 x_6), (54, vs 19), (59, vs 21)] [] [.el 20] [x_6] (by kernel_rfl) ?_
         obtain ⟨l_23, e_l_23, hp⟩ := bind_inv hp
         refine SL.eff (e_app (i := 19) (l := l_21) (sz := 1) (E := 5) (R := R8) (by_ := 1) (m := x_22.Value) tk rfl (by kernel_rfl) rfl (.r (by kernel_rfl)) e_l_23 (by kernel_rfl)) rfl (by kernel_rfl) ?_
         refine SL.sim tk 1 [(0, vs 0), (3, vs 22), (4, vi .i64 x_6)] [] [] [] (by kernel_rfl) ?_
         refine SL.nilJ fun a w h => ?_
         exact ⟨l_23, hp, h.at (js := [.g 0, .g 22]) (by kernel_rfl)⟩
       · refine SC.skipJ fun a w h => ?_
         exact ⟨l_16, hp, h.at (js := [.g 0, .g 13]) (by kernel_rfl)⟩
     · rintro a w ⟨l_7, hp, h⟩
       refine h.go ?_
       refine SC.reg ?_
       refine SL.sim tk 3 [(0, vs 0), (3, vs 1), (4, vi .i64 (w64 (x_6 + 1)))] [] [] [] (by kernel_rfl) ?_
       refine SL.nilJ fun a w h => ?_
       exact ⟨n1, Nat.lt_succ_self _, l_7, w64 (x_6 + 1), next_inv hp hs1, h.at (js := [.g 0, .g 1]) (by kernel_rfl)⟩
   · refine SC.exitJ rfl fun a w h => ?_
     have ho := done_inv hp hs1
     replace hp := ho1
     try rw [ho] at hp
     exact ⟨l_5, hp, h.at (js := [.g 0, .g 1]) (by kernel_rfl)⟩
 · rintro a w ⟨l_2, hp, h⟩
   refine h.go ?_
   refine SC.seq ?_
   refine SC.reg ?_
   refine SL.sim tk 1 [(61, vs 1)] [] [] [] (by kernel_rfl) ?_
   obtain ⟨x_3, e_x_3, hp⟩ := bind_inv hp
   refine SL.eff (e_c Try.call65 (ok_wirelessref06_Tag F 0 l_2 _ e_x_3) [.l 1] [vi .u64 0, vs 1] (vi .u64 x_3) (by kernel_rfl) (.inr ⟨trivial, trivial⟩)) rfl (by kernel_rfl) ?_
   refine SL.eff (e_lit (sz := 1) (E := 34) (R := (RInt .u64)) (by_ := 8) tk [[ci .u64 x_3]] [x_3] (by kernel_rfl) ⟨Clo.int, trivial⟩ rfl (by kernel_rfl) (by kernel_rfl)) rfl (by kernel_rfl) ?_
   obtain ⟨x_4, e_x_4, hp⟩ := bind_inv hp
   refine SL.eff (e_c Try.call64 (ok_wirelessref06_Derive F 0 [104, 97, 115, 104] [x_3] _ e_x_4) [.k ⟨#[104, 97, 115, 104]⟩, .l 2] [vi .u64 0, .c (.v (.string ⟨#[104, 97, 115, 104]⟩)), vs 2] (vi .u64 x_4) (by kernel_rfl) (.inr ⟨trivial, trivial, trivial⟩)) rfl (by kernel_rfl) ?_
   refine SL.norm (itsN := [.gone, .own 1 5 R8 l_2, .own 1 34 (RInt .u64) [x_3]]) (by kernel_rfl) ?_
   refine SL.sim tk 2 [(2, vi .u64 (imax 1 x_4))] [] [] [] (by kernel_rfl) ?_
   refine SL.nilThen ?_
   obtain rfl := some_inv' hp
   exact SC.re (js := [.g 0]) tk (by kernel_rfl)

theorem ok_wirelesslaw43_DatabaseFounds (F : Nat) (db_1 : (List T_api_Attribute)) (r : Bool) (hp : wirelesslaw43_DatabaseFounds F db_1 = some r) : Spec Try.prog 8 [vs 0] [.rd 5 R_T_api_Attribute db_1] (vb r) [.gone] := by
 refine Spec.enter Try.func8 rfl Try.ntmps8 rfl rfl fun fx => ?_
 refine SC.r tk [(0, vs 0)] [] [] [] (by kernel_rfl) ?_
 refine SC.seq ?_
 refine SC.seq ?_
 refine SC.reg ?_
 refine SL.sim tk 1 [(0, vs 0), (3, vs 0)] [] [] [] (by kernel_rfl) ?_
 obtain ⟨x_2, e_x_2, hp⟩ := bind_inv hp
 refine SL.eff (e_c Try.call19 (ok_wirelesslaw43_fine F db_1 _ e_x_2) [.g 0] [vs 0] (vb x_2) (by kernel_rfl) (.inl rfl)) rfl (by kernel_rfl) ?_
 refine SL.sim tk 1 [(0, vs 0), (5, vb (!x_2))] [] [] [] (by kernel_rfl) ?_
 refine SL.nilThen ?_
 refine SC.if' rfl hp (fun hp => ?_) (fun hp => ?_)
 · refine SC.seq ?_
   refine SC.reg ?_
   obtain ⟨x_3, e_x_3, hp⟩ := bind_inv hp
   refine SL.eff (e_c Try.call11 (ok_wirelesslaw43_exampleHolds F  _ e_x_3) [] [] (vb x_3) (by kernel_rfl) (.inl rfl)) rfl (by kernel_rfl) ?_
   refine SL.norm (itsN := [.rd 5 R_T_api_Attribute db_1]) (by kernel_rfl) ?_
   refine SL.sim tk 1 [(2, vb x_3)] [] [] [] (by kernel_rfl) ?_
   refine SL.nilThen ?_
   obtain rfl := some_inv' hp
   exact SC.re (js := [.g 0]) tk (by kernel_rfl)
 · refine SC.skipThen ?_
   refine SC.seq ?_
   refine SC.reg ?_
   refine SL.sim tk 1 [(0, vs 0), (7, vs 0)] [] [] [] (by kernel_rfl) ?_
   obtain ⟨x_4, e_x_4, hp⟩ := bind_inv hp
   refine SL.eff (e_c Try.call18 (ok_database_Found F db_1 _ e_x_4) [.g 0] [vs 0] (vs 1) (by kernel_rfl) (.inl rfl)) rfl (by kernel_rfl) ?_
   refine SL.norm (itsN := [.rd 5 R_T_api_Attribute db_1, .rd 6 R_T_api_Found x_4]) (by kernel_rfl) ?_
   refine SL.sim tk 1 [(0, vs 0), (8, vs 1), (9, vs 0)] [] [] [] (by kernel_rfl) ?_
   obtain ⟨x_5, e_x_5, hp⟩ := bind_inv hp
   refine SL.eff (e_c Try.call27 (ok_wirelessref43_Found F db_1 _ e_x_5) [.g 0] [vs 0] (vs 2) (by kernel_rfl) (.inl rfl)) rfl (by kernel_rfl) ?_
   obtain ⟨x_6, e_x_6, hp⟩ := bind_inv hp
   refine SL.eff (e_c Try.call26 (ok_wirelessref43_SameFound F x_4 x_5 _ e_x_6) [.g 1, .g 2] [vs 1, vs 2] (vb x_6) (by kernel_rfl) (.inl rfl)) rfl (by kernel_rfl) ?_
   refine SL.norm (itsN := [.rd 5 R_T_api_Attribute db_1, .rd 6 R_T_api_Found x_4, .rd 6 R_T_api_Found x_5]) (by kernel_rfl) ?_
   refine SL.sim tk 1 [(0, vs 0), (12, vb x_6)] [] [] [] (by kernel_rfl) ?_
   obtain ⟨z_8, hz, hpr⟩ := bind_inv hp
   clear hp
   refine SL.cutAt 6 (fun a w => A 22 1 fx [(18, vb z_8)] [.gone] a w) ?_ ?_
   · have hp := hz
     rcases Bool.eq_false_or_eq_true (x_6) with hg_7 | hg_7
     · replace hp := if_t hp hg_7
       refine SL.yes rfl rfl hg_7 ?_
       refine SL.sim tk 1 [(0, vs 0), (12, vb x_6), (13, vs 0)] [] [] [] (by kernel_rfl) ?_
       refine SL.yes rfl rfl hg_7 ?_
       obtain ⟨x_14, e_x_14, hp⟩ := bind_inv hp
       refine SL.eff (e_c Try.call28 (ok_database_Hash F db_1 _ e_x_14) [.g 0] [vs 0] (vi .u64 x_14) (by kernel_rfl) (.inl rfl)) rfl (by kernel_rfl) ?_
       refine SL.yes rfl rfl hg_7 ?_
       refine SL.sim tk 1 [(12, vb x_6), (14, vi .u64 x_14), (15, vs 0)] [] [] [] (by kernel_rfl) ?_
       refine SL.yes rfl rfl hg_7 ?_
       obtain ⟨x_15, e_x_15, hp⟩ := bind_inv hp
       refine SL.eff (e_c Try.call29 (ok_wirelessref43_Hash F db_1 _ e_x_15) [.g 0] [vs 0] (vi .u64 x_15) (by kernel_rfl) (.inl rfl)) rfl (by kernel_rfl) ?_
       refine SL.norm (itsN := [.rd 5 R_T_api_Attribute db_1, .rd 6 R_T_api_Found x_4, .rd 6 R_T_api_Found x_5]) (by kernel_rfl) ?_
       refine SL.yes rfl rfl hg_7 ?_
       refine SL.sim tk 1 [(12, vb x_6), (17, vb (x_14 == x_15))] [] [] [] (by kernel_rfl) ?_
       refine SL.pickt rfl hg_7 rfl rfl ?_
       refine SL.nilJ fun a w h => ?_
       obtain rfl := some_inv' hp
       exact h.at (js := [.g 0]) (by kernel_rfl)
     · replace hp := if_f hp hg_7
       refine SL.no rfl rfl hg_7 rfl ?_
       refine SL.no rfl rfl hg_7 rfl ?_
       refine SL.no rfl rfl hg_7 rfl ?_
       refine SL.no rfl rfl hg_7 rfl ?_
       refine SL.no rfl rfl hg_7 rfl ?_
       refine SL.pickf rfl hg_7 rfl rfl ?_
       refine SL.nilJ fun a w h => ?_
       obtain rfl := some_inv' hp
       exact h.at (js := [.g 0]) (by kernel_rfl)
   · intro a w h
     have hp := hpr; clear hpr hz
     refine h.goL ?_
     refine SL.sim tk 1 [(19, vb z_8)] [] [] [] (by kernel_rfl) ?_
     obtain ⟨z_10, hz, hpr⟩ := bind_inv hp
     clear hp
     refine SL.cutAt 2 (fun a w => A 22 1 fx [(21, vb z_10)] [.gone] a w) ?_ ?_
     · have hp := hz
       rcases Bool.eq_false_or_eq_true (z_8) with hg_9 | hg_9
       · replace hp := if_t hp hg_9
         refine SL.yes rfl rfl hg_9 ?_
         obtain ⟨x_12, e_x_12, hp⟩ := bind_inv hp
         refine SL.eff (e_c Try.call11 (ok_wirelesslaw43_exampleHolds F  _ e_x_12) [] [] (vb x_12) (by kernel_rfl) (.inl rfl)) rfl (by kernel_rfl) ?_
         refine SL.pickt rfl hg_9 rfl rfl ?_
         refine SL.nilJ fun a w h => ?_
         obtain rfl := some_inv' hp
         exact h.at (js := [.g 0]) (by kernel_rfl)
       · replace hp := if_f hp hg_9
         refine SL.no rfl rfl hg_9 rfl ?_
         refine SL.pickf rfl hg_9 rfl rfl ?_
         refine SL.nilJ fun a w h => ?_
         obtain rfl := some_inv' hp
         exact h.at (js := [.g 0]) (by kernel_rfl)
     · intro a w h
       have hp := hpr; clear hpr hz
       refine h.goL ?_
       refine SL.sim tk 1 [(2, vb z_10)] [] [] [] (by kernel_rfl) ?_
       refine SL.nilThen ?_
       obtain rfl := some_inv' hp
       exact SC.re (js := [.g 0]) tk (by kernel_rfl)
end V
end Go.Proofs.Ytchlimkophmjlaa
