/-
  Walks, written by program: each Go function returns what its pure twin says.
-/
import Derived.Test.YtchlimkophmjlaaW0
namespace Go.Proofs.Ytchlimkophmjlaa
namespace V
theorem ok_database_wrong (F : Nat) (db_1 : (List T_api_Attribute)) (i_2 : Int) (at_3 : T_database_place) (r : Bool) (hp : database_wrong F db_1 i_2 at_3 = some r) : Spec Try.prog 35 [vs 0, vi .i64 i_2, .g (C_database_place at_3)] [.rd 5 R_T_api_Attribute db_1] (vb r) [.gone] := by
 refine Spec.enter Try.func35 rfl Try.ntmps35 rfl rfl fun fx => ?_
 refine SC.seq ?_
 refine SC.reg ?_
 refine SL.eff (e_box (E := 63) (C_database_place at_3) (by kernel_rfl)) rfl (by kernel_rfl) ?_
 refine SL.sim tk 1 [(0, vs 0), (1, vi .i64 i_2), (5, vp 1 0)] [] [] [] (by kernel_rfl) ?_
 refine SL.nilThen ?_
 refine SC.seq ?_
 refine SC.reg ?_
 obtain ⟨x_4, e_x_4, hp⟩ := bind_inv hp
 refine SL.pre (pre_ix (i := 0) (iv := i_2) (sz := 5) (R := R_T_api_Attribute) (l := db_1) (by kernel_rfl) rfl e_x_4) ?_
 refine SL.sim tk 4 [(0, vs 0), (1, vi .i64 i_2), (5, vp 1 0), (17, .g (C_api_Attribute x_4 (.s 3)))] [] [.el 2] [i_2] (by kernel_rfl) ?_
 refine SL.eff (e_alloc (E := 39) tk [ci .u16 0, ci .u64 0, ci .u64 0, ci .i64 0, nl] (by kernel_rfl)) rfl (by kernel_rfl) ?_
 refine SL.sim tk 1 [(0, vs 0), (1, vi .i64 i_2), (5, vp 1 0), (7, vp 4 0)] [(4, 39, (C_api_Attribute x_4 (.s 3)))] [] [] (by kernel_rfl) ?_
 refine SL.nilThen ?_
 refine SC.seq ?_
 refine SC.block ?_
 refine SC.cut (fun a w => ∃ (z_5 : Bool), database_wrong_j1 F db_1 i_2 at_3 x_4 z_5 = some r ∧ A 112 1 fx [(0, vs 0), (1, vi .i64 i_2), (5, vp 1 0), (7, vp 2 0), (18, vb z_5)] [.rd 5 R_T_api_Attribute db_1, .blk 63 (C_database_place at_3), .blk 39 (C_api_Attribute x_4 (.s 3)), .rd 1 R8 x_4.Value] a w) ?_ ?_
 · refine SC.seq ?_
   refine SC.reg ?_
   refine SL.sim tk 3 [(0, vs 0), (1, vi .i64 i_2), (5, vp 1 0), (7, vp 4 0), (21, vb (i_2 == 0))] [] [] [] (by kernel_rfl) ?_
   obtain ⟨z_25, hz, hpr⟩ := bind_inv hp
   clear hp
   refine SL.cutAt 5 (fun a w => A 112 1 fx [(0, vs 0), (1, vi .i64 i_2), (5, vp 1 0), (7, vp 2 0), (26, vb z_25)] [.rd 5 R_T_api_Attribute db_1, .blk 63 (C_database_place at_3), .blk 39 (C_api_Attribute x_4 (.s 3)), .rd 1 R8 x_4.Value] a w) ?_ ?_
   · have hp := hz
     rcases Bool.eq_false_or_eq_true ((i_2 == 0)) with hg_24 | hg_24
     · replace hp := if_t hp hg_24
       refine SL.yes rfl rfl hg_24 ?_
       refine SL.sim tk 1 [(0, vs 0), (1, vi .i64 i_2), (5, vp 1 0), (7, vp 4 0), (21, vb (i_2 == 0)), (22, vp 4 1)] [] [] [] (by kernel_rfl) ?_
       refine SL.yes rfl rfl hg_24 ?_
       refine SL.sim tk 1 [(0, vs 0), (1, vi .i64 i_2), (5, vp 1 0), (7, vp 4 0), (21, vb (i_2 == 0)), (23, .g (C_api_UUID x_4.f_Type))] [] [] [] (by kernel_rfl) ?_
       refine SL.yes rfl rfl hg_24 ?_
       obtain ⟨x_28, e_x_28, hp⟩ := bind_inv hp
       refine SL.eff (e_c Try.call36 (ok_database_service F x_4.f_Type _ e_x_28) [] [.g (C_api_UUID x_4.f_Type)] (vb x_28) (by kernel_rfl) (.inl rfl)) rfl (by kernel_rfl) ?_
       refine SL.norm (itsN := [.rd 5 R_T_api_Attribute db_1, .blk 63 (C_database_place at_3), .elt (some (0, i_2)) false (C_api_Attribute x_4 (.s 3)), .rd 1 R8 x_4.Value, .blk 39 (C_api_Attribute x_4 (.s 3))]) (by kernel_rfl) ?_
       refine SL.yes rfl rfl hg_24 ?_
       refine SL.sim tk 1 [(0, vs 0), (1, vi .i64 i_2), (5, vp 1 0), (7, vp 4 0), (21, vb (i_2 == 0)), (25, vb (!x_28))] [] [] [] (by kernel_rfl) ?_
       refine SL.pickt rfl hg_24 rfl rfl ?_
       refine SL.nilJ fun a w h => ?_
       obtain rfl := some_inv' hp
       exact h.at (js := [.g 0, .g 1, .g 4, .g 3]) (by kernel_rfl)
     · replace hp := if_f hp hg_24
       refine SL.no rfl rfl hg_24 rfl ?_
       refine SL.no rfl rfl hg_24 rfl ?_
       refine SL.no rfl rfl hg_24 rfl ?_
       refine SL.no rfl rfl hg_24 rfl ?_
       refine SL.pickf rfl hg_24 rfl rfl ?_
       refine SL.nilJ fun a w h => ?_
       obtain rfl := some_inv' hp
       exact h.at (js := [.g 0, .g 1, .g 4, .g 3]) (by kernel_rfl)
   · intro a w h
     have hp := hpr; clear hpr hz
     refine h.goL ?_
     refine SL.sim tk 1 [(0, vs 0), (1, vi .i64 i_2), (5, vp 1 0), (7, vp 2 0), (18, vb z_25)] [] [] [] (by kernel_rfl) ?_
     refine SL.nilThen ?_
     refine SC.if' rfl hp (fun hp => ?_) (fun hp => ?_)
     · refine SC.skipJ fun a w h => ?_
       exact ⟨z_25, hp, h.at (js := [.g 0, .g 1, .g 2, .g 3]) (by kernel_rfl)⟩
     · refine SC.reg ?_
       refine SL.sim tk 2 [(0, vs 0), (1, vi .i64 i_2), (5, vp 1 0), (7, vp 2 0), (18, vb z_25), (28, .g (C_api_UUID x_4.f_Type))] [] [] [] (by kernel_rfl) ?_
       obtain ⟨x_26, e_x_26, hp⟩ := bind_inv hp
       refine SL.eff (e_c Try.call59 (ok_database_declaration F x_4.f_Type _ e_x_26) [] [.g (C_api_UUID x_4.f_Type)] (vb x_26) (by kernel_rfl) (.inl rfl)) rfl (by kernel_rfl) ?_
       refine SL.sim tk 7 [(0, vs 0), (1, vi .i64 i_2), (5, vp 1 0), (7, vp 2 0), (18, vb (x_26 && ((iand .i64 x_4.Perms 2) != 0)))] [] [] [] (by kernel_rfl) ?_
       refine SL.nilJ fun a w h => ?_
       exact ⟨(x_26 && ((iand .i64 x_4.Perms 2) != 0)), hp, h.at (js := [.g 0, .g 1, .g 2, .g 3]) (by kernel_rfl)⟩
 · rintro a w ⟨z_5, hp, h⟩
   refine h.go ?_
   refine SC.if' rfl hp (fun hp => ?_) (fun hp => ?_)
   · refine SC.r tk [(6, vb true)] [] [] [] (by kernel_rfl) ?_
     obtain rfl := some_inv' hp
     exact SC.re (js := [.g 0]) tk (by kernel_rfl)
   · refine SC.seq ?_
     refine SC.reg ?_
     refine SL.sim tk 2 [(0, vs 0), (1, vi .i64 i_2), (5, vp 1 0), (7, vp 2 0), (38, .g (C_api_UUID x_4.f_Type))] [] [] [] (by kernel_rfl) ?_
     obtain ⟨x_6, e_x_6, hp⟩ := bind_inv hp
     refine SL.eff (e_c Try.call36 (ok_database_service F x_4.f_Type _ e_x_6) [] [.g (C_api_UUID x_4.f_Type)] (vb x_6) (by kernel_rfl) (.inl rfl)) rfl (by kernel_rfl) ?_
     refine SL.sim tk 1 [(0, vs 0), (1, vi .i64 i_2), (5, vp 1 0), (7, vp 2 0), (36, vb x_6)] [] [] [] (by kernel_rfl) ?_
     refine SL.nilThen ?_
     refine SC.if' rfl hp (fun hp => ?_) (fun hp => ?_)
     · refine SC.seq ?_
       refine SC.reg ?_
       refine SL.sim tk 2 [(42, vs 3)] [] [] [] (by kernel_rfl) ?_
       obtain ⟨x_7, e_x_7, hp⟩ := bind_inv hp
       refine SL.eff (e_c Try.call49 (ok_uuid_Decode F x_4.Value _ e_x_7) [.g 3] [vs 3] (.u [.inr (C_api_UUID x_7.1), .inl (ci .i64 x_7.2)]) (by kernel_rfl) (.inl rfl)) rfl (by kernel_rfl) ?_
       refine SL.norm (itsN := [.rd 5 R_T_api_Attribute db_1, .blk 63 (C_database_place at_3), .blk 39 (C_api_Attribute x_4 (.s 3)), .rd 1 R8 x_4.Value]) (by kernel_rfl) ?_
       refine SL.sim tk 3 [(44, .g (C_api_UUID x_7.1)), (45, vi .i64 x_7.2)] [] [] [] (by kernel_rfl) ?_
       refine SL.eff (e_alloc (E := 36) tk [ci .u64 0, ci .u64 0] (by kernel_rfl)) rfl (by kernel_rfl) ?_
       refine SL.sim tk 2 [(9, vi .i64 x_7.2)] [(4, 36, (C_api_UUID x_7.1))] [] [] (by kernel_rfl) ?_
       refine SL.nilThen ?_
       refine SC.r tk [(6, vb (x_7.2 != 0))] [] [] [] (by kernel_rfl) ?_
       obtain rfl := some_inv' hp
       exact SC.re (js := [.g 0]) tk (by kernel_rfl)
     · refine SC.seq ?_
       refine SC.reg ?_
       refine SL.sim tk 2 [(0, vs 0), (1, vi .i64 i_2), (5, vp 1 0), (7, vp 2 0), (50, .g (C_api_UUID x_4.f_Type))] [] [] [] (by kernel_rfl) ?_
       refine SL.eff (e_lit (sz := 1) (E := 28) (R := (RInt .u16)) (by_ := 2) tk [[ci .u16 10243]] [10243] (by kernel_rfl) ⟨Clo.int, trivial⟩ rfl (by kernel_rfl) (by kernel_rfl)) rfl (by kernel_rfl) ?_
       obtain ⟨x_8, e_x_8, hp⟩ := bind_inv hp
       refine SL.eff (e_c Try.call37 (ok_database_is F x_4.f_Type [10243] _ e_x_8) [.l 4] [.g (C_api_UUID x_4.f_Type), vs 4] (vb x_8) (by kernel_rfl) (.inr ⟨trivial, trivial⟩)) rfl (by kernel_rfl) ?_
       refine SL.norm (itsN := [.rd 5 R_T_api_Attribute db_1, .blk 63 (C_database_place at_3), .blk 39 (C_api_Attribute x_4 (.s 3)), .rd 1 R8 x_4.Value, .own 1 28 (RInt .u16) [10243]]) (by kernel_rfl) ?_
       refine SL.sim tk 1 [(0, vs 0), (1, vi .i64 i_2), (5, vp 1 0), (7, vp 2 0), (48, vb x_8)] [] [] [] (by kernel_rfl) ?_
       refine SL.nilThen ?_
       refine SC.if' rfl hp (fun hp => ?_) (fun hp => ?_)
       · refine SC.seq ?_
         refine SC.reg ?_
         refine SL.sim tk 2 [(0, vs 0), (1, vi .i64 i_2), (55, vs 3)] [] [] [] (by kernel_rfl) ?_
         obtain ⟨x_9, e_x_9, hp⟩ := bind_inv hp
         refine SL.eff (e_c Try.call50 (ok_database_described F x_4.Value _ e_x_9) [.g 3] [vs 3] (.u [.inl (ci .i64 x_9.1), .inl (ci .u16 x_9.2.1), .inr (C_api_UUID x_9.2.2.1), .inl (cb x_9.2.2.2)]) (by kernel_rfl) (.inl rfl)) rfl (by kernel_rfl) ?_
         refine SL.sim tk 5 [(0, vs 0), (1, vi .i64 i_2), (57, vi .i64 x_9.1), (58, vi .u16 x_9.2.1), (59, .g (C_api_UUID x_9.2.2.1)), (60, vb x_9.2.2.2)] [] [] [] (by kernel_rfl) ?_
         refine SL.eff (e_alloc (E := 36) tk [ci .u64 0, ci .u64 0] (by kernel_rfl)) rfl (by kernel_rfl) ?_
         refine SL.sim tk 4 [(0, vs 0), (1, vi .i64 i_2), (11, vi .u16 x_9.2.1), (12, vp 5 0), (13, vb x_9.2.2.2)] [(5, 36, (C_api_UUID x_9.2.2.1))] [] [] (by kernel_rfl) ?_
         refine SL.nilThen ?_
         refine SC.cut (fun a w => ∃ (z_10 : Bool), database_wrong_j2 F z_10 = some r ∧ A 112 1 fx [(6, vb z_10)] [.gone] a w) ?_ ?_
         · refine SC.draw MO [true, true, true, true, true, true] (by kernel_rfl) fun kap_11 D_12 => ?_
           refine SD.takes tk D_12 [] kn0 [0, 1, 2] [] [] [true, true, true, false, false, false, false, false, false, false, false, false, false, false, false, false, false, false, false, false, false, false, false, false, false, false, false, false, false, false, false, false, false, false] [(0, vs 0), (1, vi .i64 i_2), (11, vi .u16 x_9.2.1), (12, vp 5 0), (63, vb (!x_9.2.2.2))] rfl (by kernel_rfl) (by kernel_rfl) (by kernel_rfl) ?_
           rcases Bool.eq_false_or_eq_true ((!x_9.2.2.2)) with hg_13 | hg_13
           · replace hp := if_t hp hg_13
             refine SD.takes tk D_12 [(63, true)] (knS rfl hg_13 kn0) [3, 4, 5, 6, 7, 8, 9, 10, 11, 12, 13] [] [] [true, true, true, true, true, true, true, true, true, true, true, true, true, true, false, false, false, false, false, false, false, false, false, false, false, false, false, false, false, false, false, false, false, false] [(0, vs 0), (1, vi .i64 i_2), (11, vi .u16 x_9.2.1), (12, vp 5 0), (74, vb (true || (decide ((w64 (i_2 + 1)) ≥ (len db_1)))))] rfl (by kernel_rfl) (by kernel_rfl) (by kernel_rfl) ?_
             rcases Bool.eq_false_or_eq_true ((true || (decide ((w64 (i_2 + 1)) ≥ (len db_1))))) with hg_14 | hg_14
             · replace hp := if_t hp hg_14
               refine SD.takes tk D_12 [(74, true)] (knS rfl hg_14 kn0) [14, 15, 16, 17, 18, 19, 20, 21, 22, 23] [] [] [true, true, true, true, true, true, true, true, true, true, true, true, true, true, true, true, true, true, true, true, true, true, true, true, false, false, false, false, false, false, false, false, false, false] [(0, vs 0), (1, vi .i64 i_2), (12, vp 5 0), (84, vb true)] rfl (by kernel_rfl) (by kernel_rfl) (by kernel_rfl) ?_
               refine SD.takes tk D_12 [(84, true)] (knS rfl rfl kn0) [24, 25, 26, 27, 28, 29, 30, 31, 32, 33] [] [] [true, true, true, true, true, true, true, true, true, true, true, true, true, true, true, true, true, true, true, true, true, true, true, true, true, true, true, true, true, true, true, true, true, true] [(6, vb true)] rfl (by kernel_rfl) (by kernel_rfl) (by kernel_rfl) ?_
               refine SD.done (by kernel_rfl) fun a w h => ?_
               exact ⟨true, hp, h.at (js := [.g 0]) (by kernel_rfl)⟩
             · replace hp := if_f hp hg_14
               refine SD.takes tk D_12 [(74, false)] (knS rfl hg_14 kn0) [14, 15, 16, 20] [] [] [true, true, true, true, true, true, true, true, true, true, true, true, true, true, true, true, true, false, false, false, true, false, false, false, false, false, false, false, false, false, false, false, false, false] [(0, vs 0), (1, vi .i64 i_2), (12, vp 5 0), (74, vb (true || (decide ((w64 (i_2 + 1)) ≥ (len db_1))))), (75, vs 0), (77, vi .i64 (w64 (i_2 + 1))), (81, vi .u16 x_9.2.1)] rfl (by kernel_rfl) (by kernel_rfl) (by kernel_rfl) ?_
               obtain ⟨x_15, e_x_15, hp⟩ := bind_inv hp
               refine SD.pre (pre_ix (i := 0) (iv := w64 (i_2 + 1)) (sz := 5) (R := R_T_api_Attribute) (l := db_1) (by kernel_rfl) rfl e_x_15) ?_
               refine SD.all1 (i := 17) (by kernel_rfl) ?_
               refine SW.eff D_12 (i := 17) (v := vp 6 0) (bs' := [true, true, true, true, true, true, true, true, true, true, true, true, true, true, true, true, true, true, false, false, true, false, false, false, false, false, false, false, false, false, false, false, false, false]) rfl (.inr ⟨_, _, _, _, rfl, rfl, rfl, hg_14⟩) rfl (e_valE tk (.el 6) [w64 (i_2 + 1)] (by kernel_rfl)) (by kernel_rfl) rfl (by kernel_rfl) ?_
               refine SD.norm (itsN := [.rd 5 R_T_api_Attribute db_1, .blk 63 (C_database_place at_3), .blk 39 (C_api_Attribute x_4 (.s 3)), .rd 1 R8 x_4.Value, .own 1 28 (RInt .u16) [10243], .blk 36 (C_api_UUID x_9.2.2.1), .elt (some (0, w64 (i_2 + 1))) false (C_api_Attribute x_15 (.s 7)), .rd 1 R8 x_15.Value]) (by kernel_rfl) ?_
               refine SD.all1 (i := 18) (by kernel_rfl) ?_
               refine SW.eff D_12 (i := 18) (v := vp 6 0) (bs' := [true, true, true, true, true, true, true, true, true, true, true, true, true, true, true, true, true, true, true, false, true, false, false, false, false, false, false, false, false, false, false, false, false, false]) rfl (.inr ⟨_, _, _, _, rfl, rfl, rfl, hg_14⟩) rfl (e_val tk (by kernel_rfl)) (by kernel_rfl) rfl (by kernel_rfl) ?_
               refine SD.all1 (i := 19) (by kernel_rfl) ?_
               refine SW.eff D_12 (i := 19) (v := vi .u16 x_15.Handle) (bs' := [true, true, true, true, true, true, true, true, true, true, true, true, true, true, true, true, true, true, true, true, true, false, false, false, false, false, false, false, false, false, false, false, false, false]) rfl (.inr ⟨_, _, _, _, rfl, rfl, rfl, hg_14⟩) rfl (e_val tk (by kernel_rfl)) (by kernel_rfl) rfl (by kernel_rfl) ?_
               refine SD.norm (itsN := [.rd 5 R_T_api_Attribute db_1, .blk 63 (C_database_place at_3), .blk 39 (C_api_Attribute x_4 (.s 3)), .rd 1 R8 x_4.Value, .own 1 28 (RInt .u16) [10243], .blk 36 (C_api_UUID x_9.2.2.1), .elt (some (0, w64 (i_2 + 1))) false (C_api_Attribute x_15 (.s 7)), .rd 1 R8 x_15.Value]) (by kernel_rfl) ?_
               refine SD.takes tk D_12 [(74, false)] (knS rfl hg_14 kn0) [21, 22, 23] [] [] [true, true, true, true, true, true, true, true, true, true, true, true, true, true, true, true, true, true, true, true, true, true, true, true, false, false, false, false, false, false, false, false, false, false] [(0, vs 0), (1, vi .i64 i_2), (12, vp 5 0), (84, vb (x_15.Handle != x_9.2.1))] rfl (by kernel_rfl) (by kernel_rfl) (by kernel_rfl) ?_
               rcases Bool.eq_false_or_eq_true ((x_15.Handle != x_9.2.1)) with hg_16 | hg_16
               · replace hp := if_t hp hg_16
                 refine SD.takes tk D_12 [(84, true)] (knS rfl hg_16 kn0) [24, 25, 26, 27, 28, 29, 30, 31, 32, 33] [] [] [true, true, true, true, true, true, true, true, true, true, true, true, true, true, true, true, true, true, true, true, true, true, true, true, true, true, true, true, true, true, true, true, true, true] [(6, vb true)] rfl (by kernel_rfl) (by kernel_rfl) (by kernel_rfl) ?_
                 refine SD.done (by kernel_rfl) fun a w h => ?_
                 exact ⟨true, hp, h.at (js := [.g 0]) (by kernel_rfl)⟩
               · replace hp := if_f hp hg_16
                 refine SD.takes tk D_12 [(84, false)] (knS rfl hg_16 kn0) [24, 25, 26, 30] [] [] [true, true, true, true, true, true, true, true, true, true, true, true, true, true, true, true, true, true, true, true, true, true, true, true, true, true, true, false, false, false, true, false, false, false] [(84, vb (x_15.Handle != x_9.2.1)), (85, vs 0), (87, vi .i64 (w64 (i_2 + 1))), (91, .g (C_api_UUID x_9.2.2.1))] rfl (by kernel_rfl) (by kernel_rfl) (by kernel_rfl) ?_
                 obtain ⟨x_17, e_x_17, hp⟩ := bind_inv hp
                 refine SD.pre (pre_ix (i := 0) (iv := w64 (i_2 + 1)) (sz := 5) (R := R_T_api_Attribute) (l := db_1) (by kernel_rfl) rfl e_x_17) ?_
                 refine SD.all1 (i := 27) (by kernel_rfl) ?_
                 refine SW.eff D_12 (i := 27) (v := vp 8 0) (bs' := [true, true, true, true, true, true, true, true, true, true, true, true, true, true, true, true, true, true, true, true, true, true, true, true, true, true, true, true, false, false, true, false, false, false]) rfl (.inr ⟨_, _, _, _, rfl, rfl, rfl, hg_16⟩) rfl (e_valE tk (.el 8) [w64 (i_2 + 1)] (by kernel_rfl)) (by kernel_rfl) rfl (by kernel_rfl) ?_
                 refine SD.all1 (i := 28) (by kernel_rfl) ?_
                 refine SW.eff D_12 (i := 28) (v := vp 8 1) (bs' := [true, true, true, true, true, true, true, true, true, true, true, true, true, true, true, true, true, true, true, true, true, true, true, true, true, true, true, true, true, false, true, false, false, false]) rfl (.inr ⟨_, _, _, _, rfl, rfl, rfl, hg_16⟩) rfl (e_val tk (by kernel_rfl)) (by kernel_rfl) rfl (by kernel_rfl) ?_
                 refine SD.norm (itsN := [.rd 5 R_T_api_Attribute db_1, .blk 63 (C_database_place at_3), .blk 39 (C_api_Attribute x_4 (.s 3)), .rd 1 R8 x_4.Value, .own 1 28 (RInt .u16) [10243], .blk 36 (C_api_UUID x_9.2.2.1), .elt (some (0, w64 (i_2 + 1))) false (C_api_Attribute x_15 (.s 7)), .rd 1 R8 x_15.Value, .elt (some (0, w64 (i_2 + 1))) false (C_api_Attribute x_17 (.s 9)), .rd 1 R8 x_17.Value]) (by kernel_rfl) ?_
                 refine SD.all1 (i := 29) (by kernel_rfl) ?_
                 refine SW.eff D_12 (i := 29) (v := .g (C_api_UUID x_17.f_Type)) (bs' := [true, true, true, true, true, true, true, true, true, true, true, true, true, true, true, true, true, true, true, true, true, true, true, true, true, true, true, true, true, true, true, false, false, false]) rfl (.inr ⟨_, _, _, _, rfl, rfl, rfl, hg_16⟩) rfl (e_val tk (by kernel_rfl)) (by kernel_rfl) rfl (by kernel_rfl) ?_
                 refine SD.all1 (i := 31) (by kernel_rfl) ?_
                 refine SW.eff D_12 (i := 31) (bs' := [true, true, true, true, true, true, true, true, true, true, true, true, true, true, true, true, true, true, true, true, true, true, true, true, true, true, true, true, true, true, true, true, false, false]) rfl (.inr ⟨_, _, _, _, rfl, rfl, rfl, hg_16⟩) rfl (e_eqs tk (cs := (C_api_UUID x_17.f_Type)) (ds := (C_api_UUID x_9.2.2.1)) [(x_17.f_Type.High == x_9.2.2.1.High), (x_17.f_Type.Low == x_9.2.2.1.Low)] (!((x_17.f_Type.High == x_9.2.2.1.High) && (x_17.f_Type.Low == x_9.2.2.1.Low))) rfl rfl (by kernel_rfl) (by kernel_rfl) (by kernel_rfl) (.inr ⟨rfl, (by kernel_rfl)⟩)) (by kernel_rfl) rfl (by kernel_rfl) ?_
                 refine SD.norm (itsN := [.rd 5 R_T_api_Attribute db_1, .blk 63 (C_database_place at_3), .blk 39 (C_api_Attribute x_4 (.s 3)), .rd 1 R8 x_4.Value, .own 1 28 (RInt .u16) [10243], .blk 36 (C_api_UUID x_9.2.2.1), .elt (some (0, w64 (i_2 + 1))) false (C_api_Attribute x_15 (.s 7)), .rd 1 R8 x_15.Value, .elt (some (0, w64 (i_2 + 1))) false (C_api_Attribute x_17 (.s 9)), .rd 1 R8 x_17.Value]) (by kernel_rfl) ?_
                 refine SD.takes tk D_12 [(84, false)] (knS rfl hg_16 kn0) [32, 33] [] [] [true, true, true, true, true, true, true, true, true, true, true, true, true, true, true, true, true, true, true, true, true, true, true, true, true, true, true, true, true, true, true, true, true, true] [(6, vb (!((x_17.f_Type.High == x_9.2.2.1.High) && (x_17.f_Type.Low == x_9.2.2.1.Low))))] rfl (by kernel_rfl) (by kernel_rfl) (by kernel_rfl) ?_
                 refine SD.done (by kernel_rfl) fun a w h => ?_
                 exact ⟨(!((x_17.f_Type.High == x_9.2.2.1.High) && (x_17.f_Type.Low == x_9.2.2.1.Low))), hp, h.at (js := [.g 0]) (by kernel_rfl)⟩
           · replace hp := if_f hp hg_13
             refine SD.takes tk D_12 [(63, false)] (knS rfl hg_13 kn0) [3] [] [] [true, true, true, true, false, false, false, false, false, false, false, false, false, false, false, false, false, false, false, false, false, false, false, false, false, false, false, false, false, false, false, false, false, false] [(0, vs 0), (1, vi .i64 i_2), (11, vi .u16 x_9.2.1), (12, vp 5 0), (63, vb (!x_9.2.2.2)), (64, .g (C_api_UUID x_9.2.2.1))] rfl (by kernel_rfl) (by kernel_rfl) (by kernel_rfl) ?_
             obtain ⟨x_18, e_x_18, hp⟩ := bind_inv hp
             refine SD.all1 (i := 4) (by kernel_rfl) ?_
             refine SW.eff D_12 (i := 4) (bs' := [true, true, true, true, true, false, false, false, false, false, false, false, false, false, false, false, false, false, false, false, false, false, false, false, false, false, false, false, false, false, false, false, false, false]) rfl (.inr ⟨_, _, _, _, rfl, rfl, rfl, hg_13⟩) rfl (e_c Try.call66 (ok_database_reserved F x_9.2.2.1 _ e_x_18) [] [.g (C_api_UUID x_9.2.2.1)] (vb x_18) (by kernel_rfl) (.inl rfl)) (by kernel_rfl) rfl (by kernel_rfl) ?_
             refine SD.norm (itsN := [.rd 5 R_T_api_Attribute db_1, .blk 63 (C_database_place at_3), .blk 39 (C_api_Attribute x_4 (.s 3)), .rd 1 R8 x_4.Value, .own 1 28 (RInt .u16) [10243], .blk 36 (C_api_UUID x_9.2.2.1)]) (by kernel_rfl) ?_
             refine SD.takes tk D_12 [(63, false)] (knS rfl hg_13 kn0) [5, 6, 7, 8, 9, 10, 11, 12, 13] [] [] [true, true, true, true, true, true, true, true, true, true, true, true, true, true, false, false, false, false, false, false, false, false, false, false, false, false, false, false, false, false, false, false, false, false] [(0, vs 0), (1, vi .i64 i_2), (11, vi .u16 x_9.2.1), (12, vp 5 0), (74, vb (x_18 || (decide ((w64 (i_2 + 1)) ≥ (len db_1)))))] rfl (by kernel_rfl) (by kernel_rfl) (by kernel_rfl) ?_
             rcases Bool.eq_false_or_eq_true ((x_18 || (decide ((w64 (i_2 + 1)) ≥ (len db_1))))) with hg_19 | hg_19
             · replace hp := if_t hp hg_19
               refine SD.takes tk D_12 [(74, true)] (knS rfl hg_19 kn0) [14, 15, 16, 17, 18, 19, 20, 21, 22, 23] [] [] [true, true, true, true, true, true, true, true, true, true, true, true, true, true, true, true, true, true, true, true, true, true, true, true, false, false, false, false, false, false, false, false, false, false] [(0, vs 0), (1, vi .i64 i_2), (12, vp 5 0), (84, vb true)] rfl (by kernel_rfl) (by kernel_rfl) (by kernel_rfl) ?_
               refine SD.takes tk D_12 [(84, true)] (knS rfl rfl kn0) [24, 25, 26, 27, 28, 29, 30, 31, 32, 33] [] [] [true, true, true, true, true, true, true, true, true, true, true, true, true, true, true, true, true, true, true, true, true, true, true, true, true, true, true, true, true, true, true, true, true, true] [(6, vb true)] rfl (by kernel_rfl) (by kernel_rfl) (by kernel_rfl) ?_
               refine SD.done (by kernel_rfl) fun a w h => ?_
               exact ⟨true, hp, h.at (js := [.g 0]) (by kernel_rfl)⟩
             · replace hp := if_f hp hg_19
               refine SD.takes tk D_12 [(74, false)] (knS rfl hg_19 kn0) [14, 15, 16, 20] [] [] [true, true, true, true, true, true, true, true, true, true, true, true, true, true, true, true, true, false, false, false, true, false, false, false, false, false, false, false, false, false, false, false, false, false] [(0, vs 0), (1, vi .i64 i_2), (12, vp 5 0), (74, vb (x_18 || (decide ((w64 (i_2 + 1)) ≥ (len db_1))))), (75, vs 0), (77, vi .i64 (w64 (i_2 + 1))), (81, vi .u16 x_9.2.1)] rfl (by kernel_rfl) (by kernel_rfl) (by kernel_rfl) ?_
               obtain ⟨x_20, e_x_20, hp⟩ := bind_inv hp
               refine SD.pre (pre_ix (i := 0) (iv := w64 (i_2 + 1)) (sz := 5) (R := R_T_api_Attribute) (l := db_1) (by kernel_rfl) rfl e_x_20) ?_
               refine SD.all1 (i := 17) (by kernel_rfl) ?_
               refine SW.eff D_12 (i := 17) (v := vp 6 0) (bs' := [true, true, true, true, true, true, true, true, true, true, true, true, true, true, true, true, true, true, false, false, true, false, false, false, false, false, false, false, false, false, false, false, false, false]) rfl (.inr ⟨_, _, _, _, rfl, rfl, rfl, hg_19⟩) rfl (e_valE tk (.el 6) [w64 (i_2 + 1)] (by kernel_rfl)) (by kernel_rfl) rfl (by kernel_rfl) ?_
               refine SD.all1 (i := 18) (by kernel_rfl) ?_
               refine SW.eff D_12 (i := 18) (v := vp 6 0) (bs' := [true, true, true, true, true, true, true, true, true, true, true, true, true, true, true, true, true, true, true, false, true, false, false, false, false, false, false, false, false, false, false, false, false, false]) rfl (.inr ⟨_, _, _, _, rfl, rfl, rfl, hg_19⟩) rfl (e_val tk (by kernel_rfl)) (by kernel_rfl) rfl (by kernel_rfl) ?_
               refine SD.norm (itsN := [.rd 5 R_T_api_Attribute db_1, .blk 63 (C_database_place at_3), .blk 39 (C_api_Attribute x_4 (.s 3)), .rd 1 R8 x_4.Value, .own 1 28 (RInt .u16) [10243], .blk 36 (C_api_UUID x_9.2.2.1), .elt (some (0, w64 (i_2 + 1))) false (C_api_Attribute x_20 (.s 7)), .rd 1 R8 x_20.Value]) (by kernel_rfl) ?_
               refine SD.all1 (i := 19) (by kernel_rfl) ?_
               refine SW.eff D_12 (i := 19) (v := vi .u16 x_20.Handle) (bs' := [true, true, true, true, true, true, true, true, true, true, true, true, true, true, true, true, true, true, true, true, true, false, false, false, false, false, false, false, false, false, false, false, false, false]) rfl (.inr ⟨_, _, _, _, rfl, rfl, rfl, hg_19⟩) rfl (e_val tk (by kernel_rfl)) (by kernel_rfl) rfl (by kernel_rfl) ?_
               refine SD.takes tk D_12 [(74, false)] (knS rfl hg_19 kn0) [21, 22, 23] [] [] [true, true, true, true, true, true, true, true, true, true, true, true, true, true, true, true, true, true, true, true, true, true, true, true, false, false, false, false, false, false, false, false, false, false] [(0, vs 0), (1, vi .i64 i_2), (12, vp 5 0), (84, vb (x_20.Handle != x_9.2.1))] rfl (by kernel_rfl) (by kernel_rfl) (by kernel_rfl) ?_
               rcases Bool.eq_false_or_eq_true ((x_20.Handle != x_9.2.1)) with hg_21 | hg_21
               · replace hp := if_t hp hg_21
                 refine SD.takes tk D_12 [(84, true)] (knS rfl hg_21 kn0) [24, 25, 26, 27, 28, 29, 30, 31, 32, 33] [] [] [true, true, true, true, true, true, true, true, true, true, true, true, true, true, true, true, true, true, true, true, true, true, true, true, true, true, true, true, true, true, true, true, true, true] [(6, vb true)] rfl (by kernel_rfl) (by kernel_rfl) (by kernel_rfl) ?_
                 refine SD.done (by kernel_rfl) fun a w h => ?_
                 exact ⟨true, hp, h.at (js := [.g 0]) (by kernel_rfl)⟩
               · replace hp := if_f hp hg_21
                 refine SD.takes tk D_12 [(84, false)] (knS rfl hg_21 kn0) [24, 25, 26, 30] [] [] [true, true, true, true, true, true, true, true, true, true, true, true, true, true, true, true, true, true, true, true, true, true, true, true, true, true, true, false, false, false, true, false, false, false] [(84, vb (x_20.Handle != x_9.2.1)), (85, vs 0), (87, vi .i64 (w64 (i_2 + 1))), (91, .g (C_api_UUID x_9.2.2.1))] rfl (by kernel_rfl) (by kernel_rfl) (by kernel_rfl) ?_
                 obtain ⟨x_22, e_x_22, hp⟩ := bind_inv hp
                 refine SD.pre (pre_ix (i := 0) (iv := w64 (i_2 + 1)) (sz := 5) (R := R_T_api_Attribute) (l := db_1) (by kernel_rfl) rfl e_x_22) ?_
                 refine SD.all1 (i := 27) (by kernel_rfl) ?_
                 refine SW.eff D_12 (i := 27) (v := vp 8 0) (bs' := [true, true, true, true, true, true, true, true, true, true, true, true, true, true, true, true, true, true, true, true, true, true, true, true, true, true, true, true, false, false, true, false, false, false]) rfl (.inr ⟨_, _, _, _, rfl, rfl, rfl, hg_21⟩) rfl (e_valE tk (.el 8) [w64 (i_2 + 1)] (by kernel_rfl)) (by kernel_rfl) rfl (by kernel_rfl) ?_
                 refine SD.norm (itsN := [.rd 5 R_T_api_Attribute db_1, .blk 63 (C_database_place at_3), .blk 39 (C_api_Attribute x_4 (.s 3)), .rd 1 R8 x_4.Value, .own 1 28 (RInt .u16) [10243], .blk 36 (C_api_UUID x_9.2.2.1), .elt (some (0, w64 (i_2 + 1))) false (C_api_Attribute x_20 (.s 7)), .rd 1 R8 x_20.Value, .elt (some (0, w64 (i_2 + 1))) false (C_api_Attribute x_22 (.s 9)), .rd 1 R8 x_22.Value]) (by kernel_rfl) ?_
                 refine SD.all1 (i := 28) (by kernel_rfl) ?_
                 refine SW.eff D_12 (i := 28) (v := vp 8 1) (bs' := [true, true, true, true, true, true, true, true, true, true, true, true, true, true, true, true, true, true, true, true, true, true, true, true, true, true, true, true, true, false, true, false, false, false]) rfl (.inr ⟨_, _, _, _, rfl, rfl, rfl, hg_21⟩) rfl (e_val tk (by kernel_rfl)) (by kernel_rfl) rfl (by kernel_rfl) ?_
                 refine SD.all1 (i := 29) (by kernel_rfl) ?_
                 refine SW.eff D_12 (i := 29) (v := .g (C_api_UUID x_22.f_Type)) (bs' := [true, true, true, true, true, true, true, true, true, true, true, true, true, true, true, true, true, true, true, true, true, true, true, true, true, true, true, true, true, true, true, false, false, false]) rfl (.inr ⟨_, _, _, _, rfl, rfl, rfl, hg_21⟩) rfl (e_val tk (by kernel_rfl)) (by kernel_rfl) rfl (by kernel_rfl) ?_
                 refine SD.norm (itsN := [.rd 5 R_T_api_Attribute db_1, .blk 63 (C_database_place at_3), .blk 39 (C_api_Attribute x_4 (.s 3)), .rd 1 R8 x_4.Value, .own 1 28 (RInt .u16) [10243], .blk 36 (C_api_UUID x_9.2.2.1), .elt (some (0, w64 (i_2 + 1))) false (C_api_Attribute x_20 (.s 7)), .rd 1 R8 x_20.Value, .elt (some (0, w64 (i_2 + 1))) false (C_api_Attribute x_22 (.s 9)), .rd 1 R8 x_22.Value]) (by kernel_rfl) ?_
                 refine SD.all1 (i := 31) (by kernel_rfl) ?_
                 refine SW.eff D_12 (i := 31) (bs' := [true, true, true, true, true, true, true, true, true, true, true, true, true, true, true, true, true, true, true, true, true, true, true, true, true, true, true, true, true, true, true, true, false, false]) rfl (.inr ⟨_, _, _, _, rfl, rfl, rfl, hg_21⟩) rfl (e_eqs tk (cs := (C_api_UUID x_22.f_Type)) (ds := (C_api_UUID x_9.2.2.1)) [(x_22.f_Type.High == x_9.2.2.1.High), (x_22.f_Type.Low == x_9.2.2.1.Low)] (!((x_22.f_Type.High == x_9.2.2.1.High) && (x_22.f_Type.Low == x_9.2.2.1.Low))) rfl rfl (by kernel_rfl) (by kernel_rfl) (by kernel_rfl) (.inr ⟨rfl, (by kernel_rfl)⟩)) (by kernel_rfl) rfl (by kernel_rfl) ?_
                 refine SD.takes tk D_12 [(84, false)] (knS rfl hg_21 kn0) [32, 33] [] [] [true, true, true, true, true, true, true, true, true, true, true, true, true, true, true, true, true, true, true, true, true, true, true, true, true, true, true, true, true, true, true, true, true, true] [(6, vb (!((x_22.f_Type.High == x_9.2.2.1.High) && (x_22.f_Type.Low == x_9.2.2.1.Low))))] rfl (by kernel_rfl) (by kernel_rfl) (by kernel_rfl) ?_
                 refine SD.done (by kernel_rfl) fun a w h => ?_
                 exact ⟨(!((x_22.f_Type.High == x_9.2.2.1.High) && (x_22.f_Type.Low == x_9.2.2.1.Low))), hp, h.at (js := [.g 0]) (by kernel_rfl)⟩
         · rintro a w ⟨z_10, hp, h⟩
           refine h.go ?_
           obtain rfl := some_inv' hp
           exact SC.re (js := [.g 0]) tk (by kernel_rfl)
       · refine SC.seq ?_
         refine SC.reg ?_
         refine SL.sim tk 2 [(5, vp 1 0), (7, vp 2 0), (96, .g (C_api_UUID x_4.f_Type))] [] [] [] (by kernel_rfl) ?_
         refine SL.eff (e_lit (sz := 1) (E := 28) (R := (RInt .u16)) (by_ := 2) tk [[ci .u16 10498]] [10498] (by kernel_rfl) ⟨Clo.int, trivial⟩ rfl (by kernel_rfl) (by kernel_rfl)) rfl (by kernel_rfl) ?_
         obtain ⟨x_23, e_x_23, hp⟩ := bind_inv hp
         refine SL.eff (e_c Try.call37 (ok_database_is F x_4.f_Type [10498] _ e_x_23) [.l 5] [.g (C_api_UUID x_4.f_Type), vs 5] (vb x_23) (by kernel_rfl) (.inr ⟨trivial, trivial⟩)) rfl (by kernel_rfl) ?_
         refine SL.sim tk 1 [(5, vp 1 0), (7, vp 2 0), (94, vb x_23)] [] [] [] (by kernel_rfl) ?_
         refine SL.nilThen ?_
         refine SC.if' rfl hp (fun hp => ?_) (fun hp => ?_)
         · refine SC.r tk [(6, vb ((((len x_4.Value) != 2) || (!at_3.char)) || at_3.config))] [] [] [] (by kernel_rfl) ?_
           obtain rfl := some_inv' hp
           exact SC.re (js := [.g 0]) tk (by kernel_rfl)
         · refine SC.skipThen ?_
           refine SC.r tk [(6, vb false)] [] [] [] (by kernel_rfl) ?_
           obtain rfl := some_inv' hp
           exact SC.re (js := [.g 0]) tk (by kernel_rfl)

theorem ok_database_Check (F : Nat) (db_1 : (List T_api_Attribute)) (r : Int) (hp : database_Check F db_1 = some r) : Spec Try.prog 12 [vs 0] [.rd 5 R_T_api_Attribute db_1] (vi .i64 r) [.gone] := by
 refine Spec.enter Try.func12 rfl Try.ntmps12 rfl rfl fun fx => ?_
 refine SC.r tk [(0, vs 0)] [] [] [] (by kernel_rfl) ?_
 refine SC.seq ?_
 refine SC.r tk [(0, vs 0), (9, vb (decide ((len db_1) > 1000)))] [] [] [] (by kernel_rfl) ?_
 refine SC.if' rfl hp (fun hp => ?_) (fun hp => ?_)
 · refine SC.r tk [(2, vi .i64 4)] [] [] [] (by kernel_rfl) ?_
   obtain rfl := some_inv' hp
   exact SC.re (js := [.g 0]) tk (by kernel_rfl)
 · refine SC.skipThen ?_
   refine SC.seq ?_
   refine SC.reg ?_
   refine SL.sim tk 1 [(0, vs 0), (10, .g [cb false, cb false])] [] [] [] (by kernel_rfl) ?_
   refine SL.eff (e_alloc (E := 63) tk [cb false, cb false] (by kernel_rfl)) rfl (by kernel_rfl) ?_
   refine SL.sim tk 2 [(0, vs 0), (3, vi .u16 0), (4, vp 1 0)] [(1, 63, [cb false, cb false])] [] [] (by kernel_rfl) ?_
   refine SL.nilThen ?_
   refine SC.cut (fun a w => database_Check_j1 F = some r ∧ A 62 1 fx [] [.gone] a w) ?_ ?_
   · refine SC.r tk [(0, vs 0), (3, vi .u16 0), (4, vp 1 0), (11, vs 0), (12, vi .i64 (len db_1)), (13, vi .i64 0)] [] [] [] (by kernel_rfl) ?_
     refine SC.block ?_
     obtain ⟨o1, hi1, ho1⟩ := bind_inv hp
     clear hp
     refine SC.loop (fun n a w => ∃ (x_2 : Int) (c_5 : T_database_place) (x_6 : Int), iter (fun s => database_Check_l1 F db_1 s.1 s.2.1 s.2.2) n (x_2, c_5, x_6) = some o1 ∧ A 62 1 fx [(0, vs 0), (3, vi .u16 x_2), (4, vp 1 0), (11, vs 0), (12, vi .i64 (len db_1)), (13, vi .i64 x_6)] [.rd 5 R_T_api_Attribute db_1, .blk 63 (C_database_place c_5)] a w) F (fun a w h => ⟨0, (T_database_place.mk false false), 0, hi1, h.at (js := [.g 0, .g 1]) (by kernel_rfl)⟩) ?_
     rintro n1 a w ⟨x_2, c_5, x_6, hi1, h⟩
     obtain ⟨n1, q1, rfl, hp, hs1⟩ := iter_inv hi1
     replace hp : database_Check_l1 F db_1 x_2 c_5 x_6 = some q1 := hp
     clear hi1
     refine h.go ?_
     refine SC.r tk [(0, vs 0), (3, vi .u16 x_2), (4, vp 1 0), (11, vs 0), (12, vi .i64 (len db_1)), (13, vi .i64 x_6), (14, vb (decide (x_6 < (len db_1))))] [] [] [] (by kernel_rfl) ?_
     refine SC.seq ?_
     refine SC.if' rfl hp (fun hp => ?_) (fun hp => ?_)
     · refine SC.skipThen ?_
       refine SC.cut (fun a w => ∃ (x_7 : Int) (c_10 : T_database_place), database_Check_j2 F x_6 x_7 c_10 = some q1 ∧ A 62 1 fx [(0, vs 0), (3, vi .u16 x_7), (4, vp 1 0), (11, vs 0), (12, vi .i64 (len db_1)), (13, vi .i64 x_6)] [.rd 5 R_T_api_Attribute db_1, .blk 63 (C_database_place c_10)] a w) ?_ ?_
       · refine SC.block ?_
         refine SC.seq ?_
         refine SC.reg ?_
         obtain ⟨x_11, e_x_11, hp⟩ := bind_inv hp
         refine SL.pre (pre_ix (i := 0) (iv := x_6) (sz := 5) (R := R_T_api_Attribute) (l := db_1) (by kernel_rfl) rfl e_x_11) ?_
         refine SL.sim tk 3 [(0, vs 0), (3, vi .u16 x_2), (4, vp 1 0), (11, vs 0), (12, vi .i64 (len db_1)), (13, vi .i64 x_6), (15, vi .i64 x_6), (17, .g (C_api_Attribute x_11 (.s 3)))] [] [.el 2] [x_6] (by kernel_rfl) ?_
         refine SL.eff (e_alloc (E := 39) tk [ci .u16 0, ci .u64 0, ci .u64 0, ci .i64 0, nl] (by kernel_rfl)) rfl (by kernel_rfl) ?_
         refine SL.sim tk 2 [(0, vs 0), (3, vi .u16 x_2), (4, vp 1 0), (5, vi .i64 x_6), (6, vp 4 0), (11, vs 0), (12, vi .i64 (len db_1)), (13, vi .i64 x_6)] [(4, 39, (C_api_Attribute x_11 (.s 3)))] [] [] (by kernel_rfl) ?_
         refine SL.nilThen ?_
         refine SC.seq ?_
         refine SC.block ?_
         refine SC.r tk [(0, vs 0), (4, vp 1 0), (5, vi .i64 x_6), (6, vp 4 0), (11, vs 0), (12, vi .i64 (len db_1)), (13, vi .i64 x_6), (18, vb (decide (x_11.Handle ≤ x_2)))] [] [] [] (by kernel_rfl) ?_
         refine SC.if' rfl hp (fun hp => ?_) (fun hp => ?_)
         · refine SC.r tk [(2, vi .i64 13)] [] [] [] (by kernel_rfl) ?_
           have ho := done_inv hp hs1
           replace hp := ho1
           try rw [ho] at hp
           obtain rfl := some_inv' hp
           exact SC.re (js := [.g 0]) tk (by kernel_rfl)
         · refine SC.r tk [(0, vs 0), (4, vp 1 0), (5, vi .i64 x_6), (6, vp 4 0), (11, vs 0), (12, vi .i64 (len db_1)), (13, vi .i64 x_6), (23, vb ((decide (x_11.Perms < 0)) || (decide (x_11.Perms > 15))))] [] [] [] (by kernel_rfl) ?_
           refine SC.if' rfl hp (fun hp => ?_) (fun hp => ?_)
           · refine SC.r tk [(2, vi .i64 5)] [] [] [] (by kernel_rfl) ?_
             have ho := done_inv hp hs1
             replace hp := ho1
             try rw [ho] at hp
             obtain rfl := some_inv' hp
             exact SC.re (js := [.g 0]) tk (by kernel_rfl)
           · refine SC.r tk [(0, vs 0), (4, vp 1 0), (5, vi .i64 x_6), (6, vp 4 0), (11, vs 0), (12, vi .i64 (len db_1)), (13, vi .i64 x_6), (32, vb (decide ((len x_11.Value) > 512)))] [] [] [] (by kernel_rfl) ?_
             refine SC.if' rfl hp (fun hp => ?_) (fun hp => ?_)
             · refine SC.r tk [(2, vi .i64 4)] [] [] [] (by kernel_rfl) ?_
               have ho := done_inv hp hs1
               replace hp := ho1
               try rw [ho] at hp
               obtain rfl := some_inv' hp
               exact SC.re (js := [.g 0]) tk (by kernel_rfl)
             · refine SC.seq ?_
               refine SC.reg ?_
               refine SL.sim tk 3 [(0, vs 0), (4, vp 1 0), (6, vp 4 0), (11, vs 0), (12, vi .i64 (len db_1)), (13, vi .i64 x_6), (38, vs 0), (39, vi .i64 x_6), (40, .g (C_database_place c_5))] [] [] [] (by kernel_rfl) ?_
               obtain ⟨x_12, e_x_12, hp⟩ := bind_inv hp
               refine SL.eff (e_c Try.call35 (ok_database_wrong F db_1 x_6 c_5 _ e_x_12) [.g 0] [vs 0, vi .i64 x_6, .g (C_database_place c_5)] (vb x_12) (by kernel_rfl) (.inl rfl)) rfl (by kernel_rfl) ?_
               refine SL.norm (itsN := [.rd 5 R_T_api_Attribute db_1, .blk 63 (C_database_place c_5), .elt (some (0, x_6)) false (C_api_Attribute x_11 (.s 3)), .rd 1 R8 x_11.Value, .blk 39 (C_api_Attribute x_11 (.s 3))]) (by kernel_rfl) ?_
               refine SL.sim tk 1 [(0, vs 0), (4, vp 1 0), (6, vp 4 0), (11, vs 0), (12, vi .i64 (len db_1)), (13, vi .i64 x_6), (37, vb x_12)] [] [] [] (by kernel_rfl) ?_
               refine SL.nilThen ?_
               refine SC.if' rfl hp (fun hp => ?_) (fun hp => ?_)
               · refine SC.r tk [(2, vi .i64 1)] [] [] [] (by kernel_rfl) ?_
                 have ho := done_inv hp hs1
                 replace hp := ho1
                 try rw [ho] at hp
                 obtain rfl := some_inv' hp
                 exact SC.re (js := [.g 0]) tk (by kernel_rfl)
               · refine SC.skipThen ?_
                 refine SC.r tk [(0, vs 0), (3, vi .u16 x_11.Handle), (4, vp 1 0), (6, vp 4 0), (11, vs 0), (12, vi .i64 (len db_1)), (13, vi .i64 x_6)] [] [] [] (by kernel_rfl) ?_
                 refine SC.block ?_
                 refine SC.seq ?_
                 refine SC.reg ?_
                 refine SL.sim tk 2 [(0, vs 0), (3, vi .u16 x_11.Handle), (4, vp 1 0), (6, vp 4 0), (11, vs 0), (12, vi .i64 (len db_1)), (13, vi .i64 x_6), (46, .g (C_api_UUID x_11.f_Type))] [] [] [] (by kernel_rfl) ?_
                 obtain ⟨x_13, e_x_13, hp⟩ := bind_inv hp
                 refine SL.eff (e_c Try.call36 (ok_database_service F x_11.f_Type _ e_x_13) [] [.g (C_api_UUID x_11.f_Type)] (vb x_13) (by kernel_rfl) (.inl rfl)) rfl (by kernel_rfl) ?_
                 refine SL.sim tk 1 [(0, vs 0), (3, vi .u16 x_11.Handle), (4, vp 1 0), (6, vp 4 0), (11, vs 0), (12, vi .i64 (len db_1)), (13, vi .i64 x_6), (44, vb x_13)] [] [] [] (by kernel_rfl) ?_
                 refine SL.nilThen ?_
                 refine SC.if' rfl hp (fun hp => ?_) (fun hp => ?_)
                 · refine SC.reg ?_
                   refine SL.sim tk 2 [(0, vs 0), (3, vi .u16 x_11.Handle), (4, vp 1 0), (11, vs 0), (12, vi .i64 (len db_1)), (13, vi .i64 x_6)] [(1, 63, [cb false, cb false])] [] [] (by kernel_rfl) ?_
                   refine SL.nilJ fun a w h => ?_
                   exact ⟨x_11.Handle, (T_database_place.mk false false), hp, h.at (js := [.g 0, .g 1]) (by kernel_rfl)⟩
                 · refine SC.seq ?_
                   refine SC.reg ?_
                   refine SL.sim tk 2 [(0, vs 0), (3, vi .u16 x_11.Handle), (4, vp 1 0), (6, vp 4 0), (11, vs 0), (12, vi .i64 (len db_1)), (13, vi .i64 x_6), (51, .g (C_api_UUID x_11.f_Type))] [] [] [] (by kernel_rfl) ?_
                   refine SL.eff (e_lit (sz := 1) (E := 28) (R := (RInt .u16)) (by_ := 2) tk [[ci .u16 10243]] [10243] (by kernel_rfl) ⟨Clo.int, trivial⟩ rfl (by kernel_rfl) (by kernel_rfl)) rfl (by kernel_rfl) ?_
                   obtain ⟨x_14, e_x_14, hp⟩ := bind_inv hp
                   refine SL.eff (e_c Try.call37 (ok_database_is F x_11.f_Type [10243] _ e_x_14) [.l 5] [.g (C_api_UUID x_11.f_Type), vs 5] (vb x_14) (by kernel_rfl) (.inr ⟨trivial, trivial⟩)) rfl (by kernel_rfl) ?_
                   refine SL.norm (itsN := [.rd 5 R_T_api_Attribute db_1, .blk 63 (C_database_place c_5), .elt (some (0, x_6)) false (C_api_Attribute x_11 (.s 3)), .rd 1 R8 x_11.Value, .blk 39 (C_api_Attribute x_11 (.s 3)), .own 1 28 (RInt .u16) [10243]]) (by kernel_rfl) ?_
                   refine SL.sim tk 1 [(0, vs 0), (3, vi .u16 x_11.Handle), (4, vp 1 0), (6, vp 4 0), (11, vs 0), (12, vi .i64 (len db_1)), (13, vi .i64 x_6), (49, vb x_14)] [] [] [] (by kernel_rfl) ?_
                   refine SL.nilThen ?_
                   refine SC.if' rfl hp (fun hp => ?_) (fun hp => ?_)
                   · refine SC.reg ?_
                     refine SL.sim tk 2 [(0, vs 0), (3, vi .u16 x_11.Handle), (4, vp 1 0), (11, vs 0), (12, vi .i64 (len db_1)), (13, vi .i64 x_6)] [(1, 63, [cb true, cb false])] [] [] (by kernel_rfl) ?_
                     refine SL.nilJ fun a w h => ?_
                     exact ⟨x_11.Handle, (T_database_place.mk true false), hp, h.at (js := [.g 0, .g 1]) (by kernel_rfl)⟩
                   · refine SC.seq ?_
                     refine SC.reg ?_
                     refine SL.sim tk 2 [(0, vs 0), (3, vi .u16 x_11.Handle), (4, vp 1 0), (11, vs 0), (12, vi .i64 (len db_1)), (13, vi .i64 x_6), (57, .g (C_api_UUID x_11.f_Type))] [] [] [] (by kernel_rfl) ?_
                     refine SL.eff (e_lit (sz := 1) (E := 28) (R := (RInt .u16)) (by_ := 2) tk [[ci .u16 10498]] [10498] (by kernel_rfl) ⟨Clo.int, trivial⟩ rfl (by kernel_rfl) (by kernel_rfl)) rfl (by kernel_rfl) ?_
                     obtain ⟨x_15, e_x_15, hp⟩ := bind_inv hp
                     refine SL.eff (e_c Try.call37 (ok_database_is F x_11.f_Type [10498] _ e_x_15) [.l 6] [.g (C_api_UUID x_11.f_Type), vs 6] (vb x_15) (by kernel_rfl) (.inr ⟨trivial, trivial⟩)) rfl (by kernel_rfl) ?_
                     refine SL.sim tk 1 [(0, vs 0), (3, vi .u16 x_11.Handle), (4, vp 1 0), (11, vs 0), (12, vi .i64 (len db_1)), (13, vi .i64 x_6), (55, vb x_15)] [] [] [] (by kernel_rfl) ?_
                     refine SL.nilThen ?_
                     refine SC.if' rfl hp (fun hp => ?_) (fun hp => ?_)
                     · refine SC.reg ?_
                       refine SL.sim tk 2 [(0, vs 0), (3, vi .u16 x_11.Handle), (4, vp 1 0), (11, vs 0), (12, vi .i64 (len db_1)), (13, vi .i64 x_6)] [(1, 63, [cb c_5.char, cb true])] [] [] (by kernel_rfl) ?_
                       refine SL.nilJ fun a w h => ?_
                       exact ⟨x_11.Handle, { c_5 with config := true }, hp, h.at (js := [.g 0, .g 1]) (by kernel_rfl)⟩
                     · refine SC.skipJ fun a w h => ?_
                       exact ⟨x_11.Handle, c_5, hp, h.at (js := [.g 0, .g 1]) (by kernel_rfl)⟩
       · rintro a w ⟨x_7, c_10, hp, h⟩
         refine h.go ?_
         refine SC.reg ?_
         refine SL.sim tk 2 [(0, vs 0), (3, vi .u16 x_7), (4, vp 1 0), (11, vs 0), (12, vi .i64 (len db_1)), (13, vi .i64 (w64 (x_6 + 1)))] [] [] [] (by kernel_rfl) ?_
         refine SL.nilJ fun a w h => ?_
         exact ⟨n1, Nat.lt_succ_self _, x_7, c_10, w64 (x_6 + 1), next_inv hp hs1, h.at (js := [.g 0, .g 1]) (by kernel_rfl)⟩
     · refine SC.exitJ rfl fun a w h => ?_
       have ho := done_inv hp hs1
       replace hp := ho1
       try rw [ho] at hp
       exact ⟨hp, h.at (js := [.g 0]) (by kernel_rfl)⟩
   · rintro a w ⟨hp, h⟩
     refine h.go ?_
     refine SC.r tk [(2, vi .i64 0)] [] [] [] (by kernel_rfl) ?_
     obtain rfl := some_inv' hp
     exact SC.re (js := [.g 0]) tk (by kernel_rfl)

theorem ok_wirelesslaw43_exampleHolds (F : Nat) (r : Bool) (hp : wirelesslaw43_exampleHolds F = some r) : Spec Try.prog 11 [] [] (vb r) [] := by
 refine Spec.enter Try.func11 rfl Try.ntmps11 rfl rfl fun fx => ?_
 refine SC.r tk [] [] [] [] (by kernel_rfl) ?_
 refine SC.seq ?_
 refine SC.reg ?_
 obtain ⟨x_1, e_x_1, hp⟩ := bind_inv hp
 refine SL.eff (e_c Try.call32 (ok_wirelesslaw43_sample F  _ e_x_1) [] [] (vs 0) (by kernel_rfl) (.inl rfl)) rfl (by kernel_rfl) ?_
 obtain ⟨x_2, e_x_2, hp⟩ := bind_inv hp
 refine SL.eff (e_c Try.call15 (ok_database_Build F x_1 1 _ e_x_2) [.g 0] [vs 0, vi .u16 1] (.u [.inl (.s 1), .inl (ci .i64 x_2.2)]) (by kernel_rfl) (.inl rfl)) rfl (by kernel_rfl) ?_
 refine SL.norm (itsN := [.rd 4 R_T_api_Service x_1, .rd 5 R_T_api_Attribute x_2.1]) (by kernel_rfl) ?_
 refine SL.sim tk 5 [(1, vs 1), (2, vi .i64 x_2.2)] [] [] [] (by kernel_rfl) ?_
 refine SL.nilThen ?_
 refine SC.seq ?_
 refine SC.reg ?_
 refine SL.sim tk 1 [(1, vs 1), (2, vi .i64 x_2.2), (16, vs 1)] [] [] [] (by kernel_rfl) ?_
 obtain ⟨x_3, e_x_3, hp⟩ := bind_inv hp
 refine SL.eff (e_c Try.call30 (ok_database_Set F x_2.1 4 [] _ e_x_3) [.g 1, .n] [vs 1, vi .u16 4, vn] (.u [.inl (.s 2), .inl (ci .i64 x_3.2)]) (by kernel_rfl) (.inl rfl)) rfl (by kernel_rfl) ?_
 refine SL.sim tk 5 [(1, vs 1), (2, vi .i64 x_2.2), (4, vi .i64 x_3.2)] [] [] [] (by kernel_rfl) ?_
 refine SL.nilThen ?_
 refine SC.seq ?_
 refine SC.reg ?_
 refine SL.sim tk 1 [(1, vs 1), (2, vi .i64 x_2.2), (4, vi .i64 x_3.2), (21, vs 1)] [] [] [] (by kernel_rfl) ?_
 obtain ⟨x_4, e_x_4, hp⟩ := bind_inv hp
 refine SL.eff (e_c Try.call30 (ok_database_Set F x_2.1 5 [] _ e_x_4) [.g 1, .n] [vs 1, vi .u16 5, vn] (.u [.inl (.s 3), .inl (ci .i64 x_4.2)]) (by kernel_rfl) (.inl rfl)) rfl (by kernel_rfl) ?_
 refine SL.norm (itsN := [.rd 4 R_T_api_Service x_1, .rd 5 R_T_api_Attribute x_2.1, .rd 5 R_T_api_Attribute x_3.1, .rd 5 R_T_api_Attribute x_4.1]) (by kernel_rfl) ?_
 refine SL.sim tk 5 [(1, vs 1), (2, vi .i64 x_2.2), (4, vi .i64 x_3.2), (6, vi .i64 x_4.2)] [] [] [] (by kernel_rfl) ?_
 refine SL.nilThen ?_
 refine SC.seq ?_
 refine SC.reg ?_
 refine SL.sim tk 1 [(1, vs 1), (2, vi .i64 x_2.2), (4, vi .i64 x_3.2), (6, vi .i64 x_4.2), (25, vs 1)] [] [] [] (by kernel_rfl) ?_
 obtain ⟨x_5, e_x_5, hp⟩ := bind_inv hp
 refine SL.eff (e_c Try.call18 (ok_database_Found F x_2.1 _ e_x_5) [.g 1] [vs 1] (vs 4) (by kernel_rfl) (.inl rfl)) rfl (by kernel_rfl) ?_
 refine SL.sim tk 1 [(1, vs 1), (2, vi .i64 x_2.2), (4, vi .i64 x_3.2), (6, vi .i64 x_4.2), (7, vs 4)] [] [] [] (by kernel_rfl) ?_
 refine SL.nilThen ?_
 refine SC.seq ?_
 refine SC.r tk [(1, vs 1), (7, vs 4), (46, vb (((((x_2.2 != 0) || ((len x_2.1) != 4)) || ((len x_5) != 3)) || (x_3.2 != 14)) || (x_4.2 != 6)))] [] [] [] (by kernel_rfl) ?_
 refine SC.if' rfl hp (fun hp => ?_) (fun hp => ?_)
 · refine SC.r tk [(0, vb false)] [] [] [] (by kernel_rfl) ?_
   obtain rfl := some_inv' hp
   exact SC.re (js := []) tk (by kernel_rfl)
 · refine SC.skipThen ?_
   refine SC.seq ?_
   refine SC.reg ?_
   refine SL.sim tk 1 [(1, vs 1), (7, vs 4), (48, vs 1)] [] [] [] (by kernel_rfl) ?_
   obtain ⟨x_6, e_x_6, hp⟩ := bind_inv hp
   refine SL.eff (e_c Try.call20 (ok_database_Group F x_2.1 1 _ e_x_6) [.g 1] [vs 1, vi .u16 1] (.u [.inl (ci .u16 x_6.1), .inl (cb x_6.2)]) (by kernel_rfl) (.inl rfl)) rfl (by kernel_rfl) ?_
   refine SL.norm (itsN := [.rd 4 R_T_api_Service x_1, .rd 5 R_T_api_Attribute x_2.1, .rd 5 R_T_api_Attribute x_3.1, .rd 5 R_T_api_Attribute x_4.1, .rd 6 R_T_api_Found x_5]) (by kernel_rfl) ?_
   refine SL.sim tk 5 [(1, vs 1), (7, vs 4), (8, vi .u16 x_6.1), (9, vb x_6.2)] [] [] [] (by kernel_rfl) ?_
   refine SL.nilThen ?_
   refine SC.cut (fun a w => ∃ (z_7 : Bool), wirelesslaw43_exampleHolds_j1 F z_7 = some r ∧ A 110 0 fx [(0, vb z_7)] [] a w) ?_ ?_
   · refine SC.draw MO [true, true, true, true, true] (by kernel_rfl) fun kap_8 D_9 => ?_
     refine SD.takes tk D_9 [] kn0 [0, 1, 2, 3, 4, 5] [] [] [true, true, true, true, true, true, false, false, false, false, false, false, false, false, false, false, false, false, false, false, false, false, false, false, false, false, false, false, false, false, false, false, false, false, false, false, false, false, false, false, false, false, false, false, false, false, false, false, false, false, false, false, false, false, false, false, false, false, false] [(1, vs 1), (7, vs 4), (57, vb ((x_6.1 == 4) && x_6.2))] rfl (by kernel_rfl) (by kernel_rfl) (by kernel_rfl) ?_
     rcases Bool.eq_false_or_eq_true (((x_6.1 == 4) && x_6.2)) with hg_10 | hg_10
     · replace hp := if_t hp hg_10
       refine SD.takes tk D_9 [(57, true)] (knS rfl hg_10 kn0) [6] [] [] [true, true, true, true, true, true, true, false, false, false, false, false, false, false, false, false, false, false, false, false, false, false, false, false, false, false, false, false, false, false, false, false, false, false, false, false, false, false, false, false, false, false, false, false, false, false, false, false, false, false, false, false, false, false, false, false, false, false, false] [(1, vs 1), (7, vs 4), (57, vb ((x_6.1 == 4) && x_6.2)), (58, vs 1)] rfl (by kernel_rfl) (by kernel_rfl) (by kernel_rfl) ?_
       obtain ⟨x_571, e_x_571, hp⟩ := bind_inv hp
       obtain ⟨x_891, e_x_891, hp⟩ := bind_inv hp
       refine SD.lay 45 [true, true, true, true, true, true, true, true, true, true, true, true, true, true, false, false, false, false, false, false, false, false, false, false, false, false, false, false, false, false, false, false, false, false, false, false, false, false, false, false, false, false, false, false, false, false, false, false, false, false, false, false, false, false, false, false, false, false, false] [(1, vs 1), (7, vs 4), (65, vb x_891)] [.rd 4 R_T_api_Service x_1, .rd 5 R_T_api_Attribute x_2.1, .rd 5 R_T_api_Attribute x_3.1, .rd 5 R_T_api_Attribute x_4.1, .rd 6 R_T_api_Found x_5] ?_ (fun c_10_0 => ?_)
       · rcases Bool.eq_false_or_eq_true (x_891) with hg_4811 | hg_4811
         · replace hp := if_t hp hg_4811
           refine SD.takes tk D_9 [(65, true)] (knS rfl hg_4811 kn0) [14] [] [] [true, true, true, true, true, true, true, true, true, true, true, true, true, true, true, false, false, false, false, false, false, false, false, false, false, false, false, false, false, false, false, false, false, false, false, false, false, false, false, false, false, false, false, false, false, false, false, false, false, false, false, false, false, false, false, false, false, false, false] [(1, vs 1), (7, vs 4), (65, vb x_891), (66, vs 1)] rfl (by kernel_rfl) (by kernel_rfl) (by kernel_rfl) ?_
           obtain ⟨x_6012, e_x_6012, hp⟩ := bind_inv hp
           obtain ⟨x_6332, e_x_6332, hp⟩ := bind_inv hp
           refine SD.lay 37 [true, true, true, true, true, true, true, true, true, true, true, true, true, true, true, true, true, true, true, true, true, true, false, false, false, false, false, false, false, false, false, false, false, false, false, false, false, false, false, false, false, false, false, false, false, false, false, false, false, false, false, false, false, false, false, false, false, false, false] [(1, vs 1), (7, vs 4), (73, vb x_6332)] [.rd 4 R_T_api_Service x_1, .rd 5 R_T_api_Attribute x_2.1, .rd 5 R_T_api_Attribute x_3.1, .rd 5 R_T_api_Attribute x_4.1, .rd 6 R_T_api_Found x_5] ?_ (fun c_4811_0 => ?_)
           · rcases Bool.eq_false_or_eq_true (x_6332) with hg_9612 | hg_9612
             · replace hp := if_t hp hg_9612
               refine SD.takes tk D_9 [(73, true)] (knS rfl hg_9612 kn0) [22] [] [] [true, true, true, true, true, true, true, true, true, true, true, true, true, true, true, true, true, true, true, true, true, true, true, false, false, false, false, false, false, false, false, false, false, false, false, false, false, false, false, false, false, false, false, false, false, false, false, false, false, false, false, false, false, false, false, false, false, false, false] [(1, vs 1), (7, vs 4), (73, vb x_6332), (74, vs 1)] rfl (by kernel_rfl) (by kernel_rfl) (by kernel_rfl) ?_
               obtain ⟨x_9613, e_x_9613, hp⟩ := bind_inv hp
               refine SD.pre (pre_ix (i := 1) (iv := 3) (sz := 5) (R := R_T_api_Attribute) (l := x_2.1) (by kernel_rfl) rfl e_x_9613) ?_
               refine SD.all1 (i := 23) (by kernel_rfl) ?_
               refine SW.eff D_9 (i := 23) (v := vp 5 0) (bs' := [true, true, true, true, true, true, true, true, true, true, true, true, true, true, true, true, true, true, true, true, true, true, true, true, false, false, false, false, false, false, false, false, false, false, false, false, false, false, false, false, false, false, false, false, false, false, false, false, false, false, false, false, false, false, false, false, false, false, false]) rfl (.inr ⟨_, _, _, _, rfl, rfl, rfl, hg_9612⟩) rfl (e_valE tk (.el 5) [3] (by kernel_rfl)) (by kernel_rfl) rfl (by kernel_rfl) ?_
               refine SD.all1 (i := 24) (by kernel_rfl) ?_
               refine SW.eff D_9 (i := 24) (v := vp 5 4) (bs' := [true, true, true, true, true, true, true, true, true, true, true, true, true, true, true, true, true, true, true, true, true, true, true, true, true, false, false, false, false, false, false, false, false, false, false, false, false, false, false, false, false, false, false, false, false, false, false, false, false, false, false, false, false, false, false, false, false, false, false]) rfl (.inr ⟨_, _, _, _, rfl, rfl, rfl, hg_9612⟩) rfl (e_val tk (by kernel_rfl)) (by kernel_rfl) rfl (by kernel_rfl) ?_
               refine SD.norm (itsN := [.rd 4 R_T_api_Service x_1, .rd 5 R_T_api_Attribute x_2.1, .rd 5 R_T_api_Attribute x_3.1, .rd 5 R_T_api_Attribute x_4.1, .rd 6 R_T_api_Found x_5, .elt (some (1, 3)) false (C_api_Attribute x_9613 (.s 6)), .rd 1 R8 x_9613.Value]) (by kernel_rfl) ?_
               refine SD.all1 (i := 25) (by kernel_rfl) ?_
               refine SW.eff D_9 (i := 25) (v := vs 6) (bs' := [true, true, true, true, true, true, true, true, true, true, true, true, true, true, true, true, true, true, true, true, true, true, true, true, true, true, false, false, false, false, false, false, false, false, false, false, false, false, false, false, false, false, false, false, false, false, false, false, false, false, false, false, false, false, false, false, false, false, false]) rfl (.inr ⟨_, _, _, _, rfl, rfl, rfl, hg_9612⟩) rfl (e_val tk (by kernel_rfl)) (by kernel_rfl) rfl (by kernel_rfl) ?_
               refine SD.all1 (i := 26) (by kernel_rfl) ?_
               refine SW.eff D_9 (i := 26) (v := vi .i64 (len x_9613.Value)) (bs' := [true, true, true, true, true, true, true, true, true, true, true, true, true, true, true, true, true, true, true, true, true, true, true, true, true, true, true, false, false, false, false, false, false, false, false, false, false, false, false, false, false, false, false, false, false, false, false, false, false, false, false, false, false, false, false, false, false, false, false]) rfl (.inr ⟨_, _, _, _, rfl, rfl, rfl, hg_9612⟩) rfl (e_val tk (by kernel_rfl)) (by kernel_rfl) rfl (by kernel_rfl) ?_
               refine SD.norm (itsN := [.rd 4 R_T_api_Service x_1, .rd 5 R_T_api_Attribute x_2.1, .rd 5 R_T_api_Attribute x_3.1, .rd 5 R_T_api_Attribute x_4.1, .rd 6 R_T_api_Found x_5, .elt (some (1, 3)) false (C_api_Attribute x_9613 (.s 6)), .rd 1 R8 x_9613.Value]) (by kernel_rfl) ?_
               refine SD.takes tk D_9 [(73, true)] (knS rfl hg_9612 kn0) [27, 28, 29] [] [] [true, true, true, true, true, true, true, true, true, true, true, true, true, true, true, true, true, true, true, true, true, true, true, true, true, true, true, true, true, true, false, false, false, false, false, false, false, false, false, false, false, false, false, false, false, false, false, false, false, false, false, false, false, false, false, false, false, false, false] [(1, vs 1), (7, vs 4), (81, vb ((len x_9613.Value) == 2))] rfl (by kernel_rfl) (by kernel_rfl) (by kernel_rfl) ?_
               rcases Bool.eq_false_or_eq_true (((len x_9613.Value) == 2)) with hg_9614 | hg_9614
               · replace hp := if_t hp hg_9614
                 refine SD.takes tk D_9 [(81, true)] (knS rfl hg_9614 kn0) [30] [] [] [true, true, true, true, true, true, true, true, true, true, true, true, true, true, true, true, true, true, true, true, true, true, true, true, true, true, true, true, true, true, true, false, false, false, false, false, false, false, false, false, false, false, false, false, false, false, false, false, false, false, false, false, false, false, false, false, false, false, false] [(1, vs 1), (7, vs 4), (81, vb ((len x_9613.Value) == 2)), (82, vs 4)] rfl (by kernel_rfl) (by kernel_rfl) (by kernel_rfl) ?_
                 obtain ⟨x_12095, e_x_12095, hp⟩ := bind_inv hp
                 obtain ⟨x_12255, e_x_12255, hp⟩ := bind_inv hp
                 refine SD.lay 21 [true, true, true, true, true, true, true, true, true, true, true, true, true, true, true, true, true, true, true, true, true, true, true, true, true, true, true, true, true, true, true, true, true, true, true, true, true, true, false, false, false, false, false, false, false, false, false, false, false, false, false, false, false, false, false, false, false, false, false] [(1, vs 1), (7, vs 4), (89, vb ((x_12095.Handle == 1) && ((x_12095.Last == 4) && ((x_12095.Value == 0) && ((x_12095.Props == 0) && ((x_12095.f_Type.High == x_12255.High) && (x_12095.f_Type.Low == x_12255.Low)))))))] [.rd 4 R_T_api_Service x_1, .rd 5 R_T_api_Attribute x_2.1, .rd 5 R_T_api_Attribute x_3.1, .rd 5 R_T_api_Attribute x_4.1, .rd 6 R_T_api_Found x_5] ?_ (fun c_9614_0 => ?_)
                 · rcases Bool.eq_false_or_eq_true (((x_12095.Handle == 1) && ((x_12095.Last == 4) && ((x_12095.Value == 0) && ((x_12095.Props == 0) && ((x_12095.f_Type.High == x_12255.High) && (x_12095.f_Type.Low == x_12255.Low))))))) with hg_14415 | hg_14415
                   · replace hp := if_t hp hg_14415
                     refine SD.takes tk D_9 [(89, true)] (knS rfl hg_14415 kn0) [38] [] [] [true, true, true, true, true, true, true, true, true, true, true, true, true, true, true, true, true, true, true, true, true, true, true, true, true, true, true, true, true, true, true, true, true, true, true, true, true, true, true, false, false, false, false, false, false, false, false, false, false, false, false, false, false, false, false, false, false, false, false] [(1, vs 1), (7, vs 4), (89, vb ((x_12095.Handle == 1) && ((x_12095.Last == 4) && ((x_12095.Value == 0) && ((x_12095.Props == 0) && ((x_12095.f_Type.High == x_12255.High) && (x_12095.f_Type.Low == x_12255.Low))))))), (90, vs 4)] rfl (by kernel_rfl) (by kernel_rfl) (by kernel_rfl) ?_
                     obtain ⟨x_17536, e_x_17536, hp⟩ := bind_inv hp
                     obtain ⟨x_17696, e_x_17696, hp⟩ := bind_inv hp
                     refine SD.lay 13 [true, true, true, true, true, true, true, true, true, true, true, true, true, true, true, true, true, true, true, true, true, true, true, true, true, true, true, true, true, true, true, true, true, true, true, true, true, true, true, true, true, true, true, true, true, true, false, false, false, false, false, false, false, false, false, false, false, false, false] [(1, vs 1), (7, vs 4), (97, vb ((x_17536.Handle == 2) && ((x_17536.Last == 0) && ((x_17536.Value == 3) && ((x_17536.Props == 32) && ((x_17536.f_Type.High == x_17696.High) && (x_17536.f_Type.Low == x_17696.Low)))))))] [.rd 4 R_T_api_Service x_1, .rd 5 R_T_api_Attribute x_2.1, .rd 5 R_T_api_Attribute x_3.1, .rd 5 R_T_api_Attribute x_4.1, .rd 6 R_T_api_Found x_5] ?_ (fun c_14415_0 => ?_)
                     · rcases Bool.eq_false_or_eq_true (((x_17536.Handle == 2) && ((x_17536.Last == 0) && ((x_17536.Value == 3) && ((x_17536.Props == 32) && ((x_17536.f_Type.High == x_17696.High) && (x_17536.f_Type.Low == x_17696.Low))))))) with hg_19216 | hg_19216
                       · replace hp := if_t hp hg_19216
                         refine SD.takes tk D_9 [(97, true)] (knS rfl hg_19216 kn0) [46] [] [] [true, true, true, true, true, true, true, true, true, true, true, true, true, true, true, true, true, true, true, true, true, true, true, true, true, true, true, true, true, true, true, true, true, true, true, true, true, true, true, true, true, true, true, true, true, true, true, false, false, false, false, false, false, false, false, false, false, false, false] [(1, vs 1), (97, vb ((x_17536.Handle == 2) && ((x_17536.Last == 0) && ((x_17536.Value == 3) && ((x_17536.Props == 32) && ((x_17536.f_Type.High == x_17696.High) && (x_17536.f_Type.Low == x_17696.Low))))))), (98, vs 4)] rfl (by kernel_rfl) (by kernel_rfl) (by kernel_rfl) ?_
                         obtain ⟨x_22977, e_x_22977, hp⟩ := bind_inv hp
                         obtain ⟨x_23137, e_x_23137, hp⟩ := bind_inv hp
                         refine SD.lay 5 [true, true, true, true, true, true, true, true, true, true, true, true, true, true, true, true, true, true, true, true, true, true, true, true, true, true, true, true, true, true, true, true, true, true, true, true, true, true, true, true, true, true, true, true, true, true, true, true, true, true, true, true, true, true, false, false, false, false, false] [(1, vs 1), (105, vb ((x_22977.Handle == 4) && ((x_22977.Last == 0) && ((x_22977.Value == 0) && ((x_22977.Props == 0) && ((x_22977.f_Type.High == x_23137.High) && (x_22977.f_Type.Low == x_23137.Low)))))))] [.rd 4 R_T_api_Service x_1, .rd 5 R_T_api_Attribute x_2.1, .rd 5 R_T_api_Attribute x_3.1, .rd 5 R_T_api_Attribute x_4.1, .rd 6 R_T_api_Found x_5] ?_ (fun c_19216_0 => ?_)
                         · rcases Bool.eq_false_or_eq_true (((x_22977.Handle == 4) && ((x_22977.Last == 0) && ((x_22977.Value == 0) && ((x_22977.Props == 0) && ((x_22977.f_Type.High == x_23137.High) && (x_22977.f_Type.Low == x_23137.Low))))))) with hg_24017 | hg_24017
                           · replace hp := if_t hp hg_24017
                             refine SD.takes tk D_9 [(105, true)] (knS rfl hg_24017 kn0) [54] [] [] [true, true, true, true, true, true, true, true, true, true, true, true, true, true, true, true, true, true, true, true, true, true, true, true, true, true, true, true, true, true, true, true, true, true, true, true, true, true, true, true, true, true, true, true, true, true, true, true, true, true, true, true, true, true, true, false, false, false, false] [(105, vb ((x_22977.Handle == 4) && ((x_22977.Last == 0) && ((x_22977.Value == 0) && ((x_22977.Props == 0) && ((x_22977.f_Type.High == x_23137.High) && (x_22977.f_Type.Low == x_23137.Low))))))), (106, vs 1)] rfl (by kernel_rfl) (by kernel_rfl) (by kernel_rfl) ?_
                             obtain ⟨x_24018, e_x_24018, hp⟩ := bind_inv hp
                             refine SD.all1 (i := 55) (by kernel_rfl) ?_
                             refine SW.eff D_9 (i := 55) (bs' := [true, true, true, true, true, true, true, true, true, true, true, true, true, true, true, true, true, true, true, true, true, true, true, true, true, true, true, true, true, true, true, true, true, true, true, true, true, true, true, true, true, true, true, true, true, true, true, true, true, true, true, true, true, true, true, true, false, false, false]) rfl (.inr ⟨_, _, _, _, rfl, rfl, rfl, hg_24017⟩) rfl (e_c Try.call12 (ok_database_Check F x_2.1 _ e_x_24018) [.g 1] [vs 1] (vi .i64 x_24018) (by kernel_rfl) (.inl rfl)) (by kernel_rfl) rfl (by kernel_rfl) ?_
                             refine SD.takes tk D_9 [(105, true)] (knS rfl hg_24017 kn0) [56, 57, 58] [] [] [true, true, true, true, true, true, true, true, true, true, true, true, true, true, true, true, true, true, true, true, true, true, true, true, true, true, true, true, true, true, true, true, true, true, true, true, true, true, true, true, true, true, true, true, true, true, true, true, true, true, true, true, true, true, true, true, true, true, true] [(0, vb (x_24018 == 0))] rfl (by kernel_rfl) (by kernel_rfl) (by kernel_rfl) ?_
                             refine SD.done (by kernel_rfl) fun a w h => ?_
                             exact ⟨(x_24018 == 0), hp, h.at (js := []) (by kernel_rfl)⟩
                           · replace hp := if_f hp hg_24017
                             refine SD.takes tk D_9 [(105, false)] (knS rfl hg_24017 kn0) [54, 55, 56, 57, 58] [] [] [true, true, true, true, true, true, true, true, true, true, true, true, true, true, true, true, true, true, true, true, true, true, true, true, true, true, true, true, true, true, true, true, true, true, true, true, true, true, true, true, true, true, true, true, true, true, true, true, true, true, true, true, true, true, true, true, true, true, true] [(0, vb false)] rfl (by kernel_rfl) (by kernel_rfl) (by kernel_rfl) ?_
                             refine SD.done (by kernel_rfl) fun a w h => ?_
                             exact ⟨false, hp, h.at (js := []) (by kernel_rfl)⟩
                         · refine SD.lay 8 [true, true, true, true, true, true, true, true, true, true, true, true, true, true, true, true, true, true, true, true, true, true, true, true, true, true, true, true, true, true, true, true, true, true, true, true, true, true, true, true, true, true, true, true, true, true, true, true, true, true, true, false, false, false, false, false, false, false, false] [(1, vs 1), (97, vb ((x_17536.Handle == 2) && ((x_17536.Last == 0) && ((x_17536.Value == 3) && ((x_17536.Props == 32) && ((x_17536.f_Type.High == x_17696.High) && (x_17536.f_Type.Low == x_17696.Low))))))), (100, .g (C_api_Found x_22977)), (102, .g (C_api_Found (T_api_Found.mk 4 0 0 0 x_23137)))] [.rd 4 R_T_api_Service x_1, .rd 5 R_T_api_Attribute x_2.1, .rd 5 R_T_api_Attribute x_3.1, .rd 5 R_T_api_Attribute x_4.1, .rd 6 R_T_api_Found x_5] ?_ (fun c_19216_1 => ?_)
                           · refine SD.all1 (i := 51) (by kernel_rfl) ?_
                             refine SW.eff D_9 (i := 51) (bs' := [true, true, true, true, true, true, true, true, true, true, true, true, true, true, true, true, true, true, true, true, true, true, true, true, true, true, true, true, true, true, true, true, true, true, true, true, true, true, true, true, true, true, true, true, true, true, true, true, true, true, true, true, false, false, false, false, false, false, false]) rfl (.inr ⟨_, _, _, _, rfl, rfl, rfl, hg_19216⟩) rfl (e_eqs tk (cs := (C_api_Found x_22977)) (ds := (C_api_Found (T_api_Found.mk 4 0 0 0 x_23137))) [(x_22977.Handle == 4), (x_22977.Last == 0), (x_22977.Value == 0), (x_22977.Props == 0), (x_22977.f_Type.High == x_23137.High), (x_22977.f_Type.Low == x_23137.Low)] ((x_22977.Handle == 4) && ((x_22977.Last == 0) && ((x_22977.Value == 0) && ((x_22977.Props == 0) && ((x_22977.f_Type.High == x_23137.High) && (x_22977.f_Type.Low == x_23137.Low)))))) rfl rfl (by kernel_rfl) (by kernel_rfl) (by kernel_rfl) (.inl ⟨rfl, (by kernel_rfl)⟩)) (by kernel_rfl) rfl (by kernel_rfl) ?_
                             refine SD.takes tk D_9 [(97, true)] (knS rfl hg_19216 kn0) [52, 53] [] [] [true, true, true, true, true, true, true, true, true, true, true, true, true, true, true, true, true, true, true, true, true, true, true, true, true, true, true, true, true, true, true, true, true, true, true, true, true, true, true, true, true, true, true, true, true, true, true, true, true, true, true, true, true, true, false, false, false, false, false] [(1, vs 1), (105, vb ((x_22977.Handle == 4) && ((x_22977.Last == 0) && ((x_22977.Value == 0) && ((x_22977.Props == 0) && ((x_22977.f_Type.High == x_23137.High) && (x_22977.f_Type.Low == x_23137.Low)))))))] rfl (by kernel_rfl) (by kernel_rfl) (by kernel_rfl) ?_
                             exact SD.vie D_9 [.g 0, .g 1, .g 2, .g 3, .g 4] c_19216_0 (by kernel_rfl)
                           · refine SD.lay 10 [true, true, true, true, true, true, true, true, true, true, true, true, true, true, true, true, true, true, true, true, true, true, true, true, true, true, true, true, true, true, true, true, true, true, true, true, true, true, true, true, true, true, true, true, true, true, true, true, true, false, false, false, false, false, false, false, false, false, false] [(1, vs 1), (97, vb ((x_17536.Handle == 2) && ((x_17536.Last == 0) && ((x_17536.Value == 3) && ((x_17536.Props == 32) && ((x_17536.f_Type.High == x_17696.High) && (x_17536.f_Type.Low == x_17696.Low))))))), (100, .g (C_api_Found x_22977))] [.rd 4 R_T_api_Service x_1, .rd 5 R_T_api_Attribute x_2.1, .rd 5 R_T_api_Attribute x_3.1, .rd 5 R_T_api_Attribute x_4.1, .rd 6 R_T_api_Found x_5] ?_ (fun c_19216_2 => ?_)
                             · refine SD.all1 (i := 49) (by kernel_rfl) ?_
                               refine SW.eff D_9 (i := 49) (bs' := [true, true, true, true, true, true, true, true, true, true, true, true, true, true, true, true, true, true, true, true, true, true, true, true, true, true, true, true, true, true, true, true, true, true, true, true, true, true, true, true, true, true, true, true, true, true, true, true, true, true, false, false, false, false, false, false, false, false, false]) rfl (.inr ⟨_, _, _, _, rfl, rfl, rfl, hg_19216⟩) rfl (e_c Try.call34 (ok_wirelessref41_Short F 10498 _ e_x_23137) [] [vi .u16 10498] (.g (C_api_UUID x_23137)) (by kernel_rfl) (.inl rfl)) (by kernel_rfl) rfl (by kernel_rfl) ?_
                               refine SD.takes tk D_9 [(97, true)] (knS rfl hg_19216 kn0) [50] [] [] [true, true, true, true, true, true, true, true, true, true, true, true, true, true, true, true, true, true, true, true, true, true, true, true, true, true, true, true, true, true, true, true, true, true, true, true, true, true, true, true, true, true, true, true, true, true, true, true, true, true, true, false, false, false, false, false, false, false, false] [(1, vs 1), (97, vb ((x_17536.Handle == 2) && ((x_17536.Last == 0) && ((x_17536.Value == 3) && ((x_17536.Props == 32) && ((x_17536.f_Type.High == x_17696.High) && (x_17536.f_Type.Low == x_17696.Low))))))), (100, .g (C_api_Found x_22977)), (102, .g (C_api_Found (T_api_Found.mk 4 0 0 0 x_23137)))] rfl (by kernel_rfl) (by kernel_rfl) (by kernel_rfl) ?_
                               exact SD.vie D_9 [.g 0, .g 1, .g 2, .g 3, .g 4] c_19216_1 (by kernel_rfl)
                             · refine SD.lay 9 [true, true, true, true, true, true, true, true, true, true, true, true, true, true, true, true, true, true, true, true, true, true, true, true, true, true, true, true, true, true, true, true, true, true, true, true, true, true, true, true, true, true, true, true, true, true, true, true, false, true, true, false, false, false, false, false, false, false, false] [(1, vs 1), (97, vb ((x_17536.Handle == 2) && ((x_17536.Last == 0) && ((x_17536.Value == 3) && ((x_17536.Props == 32) && ((x_17536.f_Type.High == x_17696.High) && (x_17536.f_Type.Low == x_17696.Low))))))), (99, vp 5 0), (102, .g (C_api_Found (T_api_Found.mk 4 0 0 0 x_23137)))] [.rd 4 R_T_api_Service x_1, .rd 5 R_T_api_Attribute x_2.1, .rd 5 R_T_api_Attribute x_3.1, .rd 5 R_T_api_Attribute x_4.1, .rd 6 R_T_api_Found x_5, .elt none false (C_api_Found x_22977)] ?_ (fun c_19216_3 => ?_)
                               · refine SD.all1 (i := 48) (by kernel_rfl) ?_
                                 refine SW.eff D_9 (i := 48) (v := .g (C_api_Found x_22977)) (bs' := [true, true, true, true, true, true, true, true, true, true, true, true, true, true, true, true, true, true, true, true, true, true, true, true, true, true, true, true, true, true, true, true, true, true, true, true, true, true, true, true, true, true, true, true, true, true, true, true, true, true, true, false, false, false, false, false, false, false, false]) rfl (.inr ⟨_, _, _, _, rfl, rfl, rfl, hg_19216⟩) rfl (e_val tk (by kernel_rfl)) (by kernel_rfl) rfl (by kernel_rfl) ?_
                                 exact SD.vie D_9 [.g 0, .g 1, .g 2, .g 3, .g 4] c_19216_1 (by kernel_rfl)
                               · refine SD.lay 11 [true, true, true, true, true, true, true, true, true, true, true, true, true, true, true, true, true, true, true, true, true, true, true, true, true, true, true, true, true, true, true, true, true, true, true, true, true, true, true, true, true, true, true, true, true, true, true, true, false, false, false, false, false, false, false, false, false, false, false] [(1, vs 1), (97, vb ((x_17536.Handle == 2) && ((x_17536.Last == 0) && ((x_17536.Value == 3) && ((x_17536.Props == 32) && ((x_17536.f_Type.High == x_17696.High) && (x_17536.f_Type.Low == x_17696.Low))))))), (99, vp 5 0)] [.rd 4 R_T_api_Service x_1, .rd 5 R_T_api_Attribute x_2.1, .rd 5 R_T_api_Attribute x_3.1, .rd 5 R_T_api_Attribute x_4.1, .rd 6 R_T_api_Found x_5, .elt none false (C_api_Found x_22977)] ?_ (fun c_19216_4 => ?_)
                                 · refine SD.all2 (i := 48) (j := 49) (by kernel_rfl) ?_ ?_
                                   · refine SW.eff D_9 (i := 48) (v := .g (C_api_Found x_22977)) (bs' := [true, true, true, true, true, true, true, true, true, true, true, true, true, true, true, true, true, true, true, true, true, true, true, true, true, true, true, true, true, true, true, true, true, true, true, true, true, true, true, true, true, true, true, true, true, true, true, true, true, false, false, false, false, false, false, false, false, false, false]) rfl (.inr ⟨_, _, _, _, rfl, rfl, rfl, hg_19216⟩) rfl (e_val tk (by kernel_rfl)) (by kernel_rfl) rfl (by kernel_rfl) ?_
                                     exact SD.vie D_9 [.g 0, .g 1, .g 2, .g 3, .g 4] c_19216_2 (by kernel_rfl)
                                   · refine SW.eff D_9 (i := 49) (bs' := [true, true, true, true, true, true, true, true, true, true, true, true, true, true, true, true, true, true, true, true, true, true, true, true, true, true, true, true, true, true, true, true, true, true, true, true, true, true, true, true, true, true, true, true, true, true, true, true, false, true, false, false, false, false, false, false, false, false, false]) rfl (.inr ⟨_, _, _, _, rfl, rfl, rfl, hg_19216⟩) rfl (e_c Try.call34 (ok_wirelessref41_Short F 10498 _ e_x_23137) [] [vi .u16 10498] (.g (C_api_UUID x_23137)) (by kernel_rfl) (.inl rfl)) (by kernel_rfl) rfl (by kernel_rfl) ?_
                                     refine SD.takes tk D_9 [(97, true)] (knS rfl hg_19216 kn0) [50] [] [] [true, true, true, true, true, true, true, true, true, true, true, true, true, true, true, true, true, true, true, true, true, true, true, true, true, true, true, true, true, true, true, true, true, true, true, true, true, true, true, true, true, true, true, true, true, true, true, true, false, true, true, false, false, false, false, false, false, false, false] [(1, vs 1), (97, vb ((x_17536.Handle == 2) && ((x_17536.Last == 0) && ((x_17536.Value == 3) && ((x_17536.Props == 32) && ((x_17536.f_Type.High == x_17696.High) && (x_17536.f_Type.Low == x_17696.Low))))))), (99, vp 5 0), (102, .g (C_api_Found (T_api_Found.mk 4 0 0 0 x_23137)))] rfl (by kernel_rfl) (by kernel_rfl) (by kernel_rfl) ?_
                                     exact SD.vie D_9 [.g 0, .g 1, .g 2, .g 3, .g 4, .g 5] c_19216_3 (by kernel_rfl)
                                 · refine SD.lay 10 [true, true, true, true, true, true, true, true, true, true, true, true, true, true, true, true, true, true, true, true, true, true, true, true, true, true, true, true, true, true, true, true, true, true, true, true, true, true, true, true, true, true, true, true, true, true, true, false, false, true, true, false, false, false, false, false, false, false, false] [(1, vs 1), (97, vb ((x_17536.Handle == 2) && ((x_17536.Last == 0) && ((x_17536.Value == 3) && ((x_17536.Props == 32) && ((x_17536.f_Type.High == x_17696.High) && (x_17536.f_Type.Low == x_17696.Low))))))), (98, vs 4), (102, .g (C_api_Found (T_api_Found.mk 4 0 0 0 x_23137)))] [.rd 4 R_T_api_Service x_1, .rd 5 R_T_api_Attribute x_2.1, .rd 5 R_T_api_Attribute x_3.1, .rd 5 R_T_api_Attribute x_4.1, .rd 6 R_T_api_Found x_5] ?_ (fun c_19216_5 => ?_)
                                   · refine SD.pre (pre_ix (i := 4) (iv := 2) (sz := 6) (R := R_T_api_Found) (l := x_5) (by kernel_rfl) rfl e_x_22977) ?_
                                     refine SD.all1 (i := 47) (by kernel_rfl) ?_
                                     refine SW.eff D_9 (i := 47) (v := vp 5 0) (bs' := [true, true, true, true, true, true, true, true, true, true, true, true, true, true, true, true, true, true, true, true, true, true, true, true, true, true, true, true, true, true, true, true, true, true, true, true, true, true, true, true, true, true, true, true, true, true, true, true, false, true, true, false, false, false, false, false, false, false, false]) rfl (.inr ⟨_, _, _, _, rfl, rfl, rfl, hg_19216⟩) rfl (e_valE tk (.el 5) [2] (by kernel_rfl)) (by kernel_rfl) rfl (by kernel_rfl) ?_
                                     exact SD.vie D_9 [.g 0, .g 1, .g 2, .g 3, .g 4, .g 5] c_19216_3 (by kernel_rfl)
                                   · refine SD.all2 (i := 47) (j := 49) (by kernel_rfl) ?_ ?_
                                     · refine SW.pre (pre_ix (i := 4) (iv := 2) (sz := 6) (R := R_T_api_Found) (l := x_5) (by kernel_rfl) rfl e_x_22977) ?_
                                       refine SW.eff D_9 (i := 47) (v := vp 5 0) (bs' := [true, true, true, true, true, true, true, true, true, true, true, true, true, true, true, true, true, true, true, true, true, true, true, true, true, true, true, true, true, true, true, true, true, true, true, true, true, true, true, true, true, true, true, true, true, true, true, true, false, false, false, false, false, false, false, false, false, false, false]) rfl (.inr ⟨_, _, _, _, rfl, rfl, rfl, hg_19216⟩) rfl (e_valE tk (.el 5) [2] (by kernel_rfl)) (by kernel_rfl) rfl (by kernel_rfl) ?_
                                       exact SD.vie D_9 [.g 0, .g 1, .g 2, .g 3, .g 4, .g 5] c_19216_4 (by kernel_rfl)
                                     · refine SW.eff D_9 (i := 49) (bs' := [true, true, true, true, true, true, true, true, true, true, true, true, true, true, true, true, true, true, true, true, true, true, true, true, true, true, true, true, true, true, true, true, true, true, true, true, true, true, true, true, true, true, true, true, true, true, true, false, false, true, false, false, false, false, false, false, false, false, false]) rfl (.inr ⟨_, _, _, _, rfl, rfl, rfl, hg_19216⟩) rfl (e_c Try.call34 (ok_wirelessref41_Short F 10498 _ e_x_23137) [] [vi .u16 10498] (.g (C_api_UUID x_23137)) (by kernel_rfl) (.inl rfl)) (by kernel_rfl) rfl (by kernel_rfl) ?_
                                       refine SD.takes tk D_9 [(97, true)] (knS rfl hg_19216 kn0) [50] [] [] [true, true, true, true, true, true, true, true, true, true, true, true, true, true, true, true, true, true, true, true, true, true, true, true, true, true, true, true, true, true, true, true, true, true, true, true, true, true, true, true, true, true, true, true, true, true, true, false, false, true, true, false, false, false, false, false, false, false, false] [(1, vs 1), (97, vb ((x_17536.Handle == 2) && ((x_17536.Last == 0) && ((x_17536.Value == 3) && ((x_17536.Props == 32) && ((x_17536.f_Type.High == x_17696.High) && (x_17536.f_Type.Low == x_17696.Low))))))), (98, vs 4), (102, .g (C_api_Found (T_api_Found.mk 4 0 0 0 x_23137)))] rfl (by kernel_rfl) (by kernel_rfl) (by kernel_rfl) ?_
                                       exact SD.vie D_9 [.g 0, .g 1, .g 2, .g 3, .g 4] c_19216_5 (by kernel_rfl)
                       · replace hp := if_f hp hg_19216
                         refine SD.takes tk D_9 [(97, false)] (knS rfl hg_19216 kn0) [46, 47, 48, 49, 50, 51, 52, 53] [] [] [true, true, true, true, true, true, true, true, true, true, true, true, true, true, true, true, true, true, true, true, true, true, true, true, true, true, true, true, true, true, true, true, true, true, true, true, true, true, true, true, true, true, true, true, true, true, true, true, true, true, true, true, true, true, false, false, false, false, false] [(1, vs 1), (105, vb false)] rfl (by kernel_rfl) (by kernel_rfl) (by kernel_rfl) ?_
                         refine SD.takes tk D_9 [(105, false)] (knS rfl rfl kn0) [54, 55, 56, 57, 58] [] [] [true, true, true, true, true, true, true, true, true, true, true, true, true, true, true, true, true, true, true, true, true, true, true, true, true, true, true, true, true, true, true, true, true, true, true, true, true, true, true, true, true, true, true, true, true, true, true, true, true, true, true, true, true, true, true, true, true, true, true] [(0, vb false)] rfl (by kernel_rfl) (by kernel_rfl) (by kernel_rfl) ?_
                         refine SD.done (by kernel_rfl) fun a w h => ?_
                         exact ⟨false, hp, h.at (js := []) (by kernel_rfl)⟩
                     · refine SD.lay 16 [true, true, true, true, true, true, true, true, true, true, true, true, true, true, true, true, true, true, true, true, true, true, true, true, true, true, true, true, true, true, true, true, true, true, true, true, true, true, true, true, true, true, true, false, false, false, false, false, false, false, false, false, false, false, false, false, false, false, false] [(1, vs 1), (7, vs 4), (89, vb ((x_12095.Handle == 1) && ((x_12095.Last == 4) && ((x_12095.Value == 0) && ((x_12095.Props == 0) && ((x_12095.f_Type.High == x_12255.High) && (x_12095.f_Type.Low == x_12255.Low))))))), (92, .g (C_api_Found x_17536)), (94, .g (C_api_Found (T_api_Found.mk 2 0 3 32 x_17696)))] [.rd 4 R_T_api_Service x_1, .rd 5 R_T_api_Attribute x_2.1, .rd 5 R_T_api_Attribute x_3.1, .rd 5 R_T_api_Attribute x_4.1, .rd 6 R_T_api_Found x_5] ?_ (fun c_14415_1 => ?_)
                       · refine SD.all1 (i := 43) (by kernel_rfl) ?_
                         refine SW.eff D_9 (i := 43) (bs' := [true, true, true, true, true, true, true, true, true, true, true, true, true, true, true, true, true, true, true, true, true, true, true, true, true, true, true, true, true, true, true, true, true, true, true, true, true, true, true, true, true, true, true, true, false, false, false, false, false, false, false, false, false, false, false, false, false, false, false]) rfl (.inr ⟨_, _, _, _, rfl, rfl, rfl, hg_14415⟩) rfl (e_eqs tk (cs := (C_api_Found x_17536)) (ds := (C_api_Found (T_api_Found.mk 2 0 3 32 x_17696))) [(x_17536.Handle == 2), (x_17536.Last == 0), (x_17536.Value == 3), (x_17536.Props == 32), (x_17536.f_Type.High == x_17696.High), (x_17536.f_Type.Low == x_17696.Low)] ((x_17536.Handle == 2) && ((x_17536.Last == 0) && ((x_17536.Value == 3) && ((x_17536.Props == 32) && ((x_17536.f_Type.High == x_17696.High) && (x_17536.f_Type.Low == x_17696.Low)))))) rfl rfl (by kernel_rfl) (by kernel_rfl) (by kernel_rfl) (.inl ⟨rfl, (by kernel_rfl)⟩)) (by kernel_rfl) rfl (by kernel_rfl) ?_
                         refine SD.takes tk D_9 [(89, true)] (knS rfl hg_14415 kn0) [44, 45] [] [] [true, true, true, true, true, true, true, true, true, true, true, true, true, true, true, true, true, true, true, true, true, true, true, true, true, true, true, true, true, true, true, true, true, true, true, true, true, true, true, true, true, true, true, true, true, true, false, false, false, false, false, false, false, false, false, false, false, false, false] [(1, vs 1), (7, vs 4), (97, vb ((x_17536.Handle == 2) && ((x_17536.Last == 0) && ((x_17536.Value == 3) && ((x_17536.Props == 32) && ((x_17536.f_Type.High == x_17696.High) && (x_17536.f_Type.Low == x_17696.Low)))))))] rfl (by kernel_rfl) (by kernel_rfl) (by kernel_rfl) ?_
                         exact SD.vie D_9 [.g 0, .g 1, .g 2, .g 3, .g 4] c_14415_0 (by kernel_rfl)
                       · refine SD.lay 18 [true, true, true, true, true, true, true, true, true, true, true, true, true, true, true, true, true, true, true, true, true, true, true, true, true, true, true, true, true, true, true, true, true, true, true, true, true, true, true, true, true, false, false, false, false, false, false, false, false, false, false, false, false, false, false, false, false, false, false] [(1, vs 1), (7, vs 4), (89, vb ((x_12095.Handle == 1) && ((x_12095.Last == 4) && ((x_12095.Value == 0) && ((x_12095.Props == 0) && ((x_12095.f_Type.High == x_12255.High) && (x_12095.f_Type.Low == x_12255.Low))))))), (92, .g (C_api_Found x_17536))] [.rd 4 R_T_api_Service x_1, .rd 5 R_T_api_Attribute x_2.1, .rd 5 R_T_api_Attribute x_3.1, .rd 5 R_T_api_Attribute x_4.1, .rd 6 R_T_api_Found x_5] ?_ (fun c_14415_2 => ?_)
                         · refine SD.all1 (i := 41) (by kernel_rfl) ?_
                           refine SW.eff D_9 (i := 41) (bs' := [true, true, true, true, true, true, true, true, true, true, true, true, true, true, true, true, true, true, true, true, true, true, true, true, true, true, true, true, true, true, true, true, true, true, true, true, true, true, true, true, true, true, false, false, false, false, false, false, false, false, false, false, false, false, false, false, false, false, false]) rfl (.inr ⟨_, _, _, _, rfl, rfl, rfl, hg_14415⟩) rfl (e_c Try.call34 (ok_wirelessref41_Short F 10757 _ e_x_17696) [] [vi .u16 10757] (.g (C_api_UUID x_17696)) (by kernel_rfl) (.inl rfl)) (by kernel_rfl) rfl (by kernel_rfl) ?_
                           refine SD.takes tk D_9 [(89, true)] (knS rfl hg_14415 kn0) [42] [] [] [true, true, true, true, true, true, true, true, true, true, true, true, true, true, true, true, true, true, true, true, true, true, true, true, true, true, true, true, true, true, true, true, true, true, true, true, true, true, true, true, true, true, true, false, false, false, false, false, false, false, false, false, false, false, false, false, false, false, false] [(1, vs 1), (7, vs 4), (89, vb ((x_12095.Handle == 1) && ((x_12095.Last == 4) && ((x_12095.Value == 0) && ((x_12095.Props == 0) && ((x_12095.f_Type.High == x_12255.High) && (x_12095.f_Type.Low == x_12255.Low))))))), (92, .g (C_api_Found x_17536)), (94, .g (C_api_Found (T_api_Found.mk 2 0 3 32 x_17696)))] rfl (by kernel_rfl) (by kernel_rfl) (by kernel_rfl) ?_
                           exact SD.vie D_9 [.g 0, .g 1, .g 2, .g 3, .g 4] c_14415_1 (by kernel_rfl)
                         · refine SD.lay 17 [true, true, true, true, true, true, true, true, true, true, true, true, true, true, true, true, true, true, true, true, true, true, true, true, true, true, true, true, true, true, true, true, true, true, true, true, true, true, true, true, false, true, true, false, false, false, false, false, false, false, false, false, false, false, false, false, false, false, false] [(1, vs 1), (7, vs 4), (89, vb ((x_12095.Handle == 1) && ((x_12095.Last == 4) && ((x_12095.Value == 0) && ((x_12095.Props == 0) && ((x_12095.f_Type.High == x_12255.High) && (x_12095.f_Type.Low == x_12255.Low))))))), (91, vp 5 0), (94, .g (C_api_Found (T_api_Found.mk 2 0 3 32 x_17696)))] [.rd 4 R_T_api_Service x_1, .rd 5 R_T_api_Attribute x_2.1, .rd 5 R_T_api_Attribute x_3.1, .rd 5 R_T_api_Attribute x_4.1, .rd 6 R_T_api_Found x_5, .elt none false (C_api_Found x_17536)] ?_ (fun c_14415_3 => ?_)
                           · refine SD.all1 (i := 40) (by kernel_rfl) ?_
                             refine SW.eff D_9 (i := 40) (v := .g (C_api_Found x_17536)) (bs' := [true, true, true, true, true, true, true, true, true, true, true, true, true, true, true, true, true, true, true, true, true, true, true, true, true, true, true, true, true, true, true, true, true, true, true, true, true, true, true, true, true, true, true, false, false, false, false, false, false, false, false, false, false, false, false, false, false, false, false]) rfl (.inr ⟨_, _, _, _, rfl, rfl, rfl, hg_14415⟩) rfl (e_val tk (by kernel_rfl)) (by kernel_rfl) rfl (by kernel_rfl) ?_
                             exact SD.vie D_9 [.g 0, .g 1, .g 2, .g 3, .g 4] c_14415_1 (by kernel_rfl)
                           · refine SD.lay 19 [true, true, true, true, true, true, true, true, true, true, true, true, true, true, true, true, true, true, true, true, true, true, true, true, true, true, true, true, true, true, true, true, true, true, true, true, true, true, true, true, false, false, false, false, false, false, false, false, false, false, false, false, false, false, false, false, false, false, false] [(1, vs 1), (7, vs 4), (89, vb ((x_12095.Handle == 1) && ((x_12095.Last == 4) && ((x_12095.Value == 0) && ((x_12095.Props == 0) && ((x_12095.f_Type.High == x_12255.High) && (x_12095.f_Type.Low == x_12255.Low))))))), (91, vp 5 0)] [.rd 4 R_T_api_Service x_1, .rd 5 R_T_api_Attribute x_2.1, .rd 5 R_T_api_Attribute x_3.1, .rd 5 R_T_api_Attribute x_4.1, .rd 6 R_T_api_Found x_5, .elt none false (C_api_Found x_17536)] ?_ (fun c_14415_4 => ?_)
                             · refine SD.all2 (i := 40) (j := 41) (by kernel_rfl) ?_ ?_
                               · refine SW.eff D_9 (i := 40) (v := .g (C_api_Found x_17536)) (bs' := [true, true, true, true, true, true, true, true, true, true, true, true, true, true, true, true, true, true, true, true, true, true, true, true, true, true, true, true, true, true, true, true, true, true, true, true, true, true, true, true, true, false, false, false, false, false, false, false, false, false, false, false, false, false, false, false, false, false, false]) rfl (.inr ⟨_, _, _, _, rfl, rfl, rfl, hg_14415⟩) rfl (e_val tk (by kernel_rfl)) (by kernel_rfl) rfl (by kernel_rfl) ?_
                                 exact SD.vie D_9 [.g 0, .g 1, .g 2, .g 3, .g 4] c_14415_2 (by kernel_rfl)
                               · refine SW.eff D_9 (i := 41) (bs' := [true, true, true, true, true, true, true, true, true, true, true, true, true, true, true, true, true, true, true, true, true, true, true, true, true, true, true, true, true, true, true, true, true, true, true, true, true, true, true, true, false, true, false, false, false, false, false, false, false, false, false, false, false, false, false, false, false, false, false]) rfl (.inr ⟨_, _, _, _, rfl, rfl, rfl, hg_14415⟩) rfl (e_c Try.call34 (ok_wirelessref41_Short F 10757 _ e_x_17696) [] [vi .u16 10757] (.g (C_api_UUID x_17696)) (by kernel_rfl) (.inl rfl)) (by kernel_rfl) rfl (by kernel_rfl) ?_
                                 refine SD.takes tk D_9 [(89, true)] (knS rfl hg_14415 kn0) [42] [] [] [true, true, true, true, true, true, true, true, true, true, true, true, true, true, true, true, true, true, true, true, true, true, true, true, true, true, true, true, true, true, true, true, true, true, true, true, true, true, true, true, false, true, true, false, false, false, false, false, false, false, false, false, false, false, false, false, false, false, false] [(1, vs 1), (7, vs 4), (89, vb ((x_12095.Handle == 1) && ((x_12095.Last == 4) && ((x_12095.Value == 0) && ((x_12095.Props == 0) && ((x_12095.f_Type.High == x_12255.High) && (x_12095.f_Type.Low == x_12255.Low))))))), (91, vp 5 0), (94, .g (C_api_Found (T_api_Found.mk 2 0 3 32 x_17696)))] rfl (by kernel_rfl) (by kernel_rfl) (by kernel_rfl) ?_
                                 exact SD.vie D_9 [.g 0, .g 1, .g 2, .g 3, .g 4, .g 5] c_14415_3 (by kernel_rfl)
                             · refine SD.lay 18 [true, true, true, true, true, true, true, true, true, true, true, true, true, true, true, true, true, true, true, true, true, true, true, true, true, true, true, true, true, true, true, true, true, true, true, true, true, true, true, false, false, true, true, false, false, false, false, false, false, false, false, false, false, false, false, false, false, false, false] [(1, vs 1), (7, vs 4), (89, vb ((x_12095.Handle == 1) && ((x_12095.Last == 4) && ((x_12095.Value == 0) && ((x_12095.Props == 0) && ((x_12095.f_Type.High == x_12255.High) && (x_12095.f_Type.Low == x_12255.Low))))))), (90, vs 4), (94, .g (C_api_Found (T_api_Found.mk 2 0 3 32 x_17696)))] [.rd 4 R_T_api_Service x_1, .rd 5 R_T_api_Attribute x_2.1, .rd 5 R_T_api_Attribute x_3.1, .rd 5 R_T_api_Attribute x_4.1, .rd 6 R_T_api_Found x_5] ?_ (fun c_14415_5 => ?_)
                               · refine SD.pre (pre_ix (i := 4) (iv := 1) (sz := 6) (R := R_T_api_Found) (l := x_5) (by kernel_rfl) rfl e_x_17536) ?_
                                 refine SD.all1 (i := 39) (by kernel_rfl) ?_
                                 refine SW.eff D_9 (i := 39) (v := vp 5 0) (bs' := [true, true, true, true, true, true, true, true, true, true, true, true, true, true, true, true, true, true, true, true, true, true, true, true, true, true, true, true, true, true, true, true, true, true, true, true, true, true, true, true, false, true, true, false, false, false, false, false, false, false, false, false, false, false, false, false, false, false, false]) rfl (.inr ⟨_, _, _, _, rfl, rfl, rfl, hg_14415⟩) rfl (e_valE tk (.el 5) [1] (by kernel_rfl)) (by kernel_rfl) rfl (by kernel_rfl) ?_
                                 exact SD.vie D_9 [.g 0, .g 1, .g 2, .g 3, .g 4, .g 5] c_14415_3 (by kernel_rfl)
                               · refine SD.all2 (i := 39) (j := 41) (by kernel_rfl) ?_ ?_
                                 · refine SW.pre (pre_ix (i := 4) (iv := 1) (sz := 6) (R := R_T_api_Found) (l := x_5) (by kernel_rfl) rfl e_x_17536) ?_
                                   refine SW.eff D_9 (i := 39) (v := vp 5 0) (bs' := [true, true, true, true, true, true, true, true, true, true, true, true, true, true, true, true, true, true, true, true, true, true, true, true, true, true, true, true, true, true, true, true, true, true, true, true, true, true, true, true, false, false, false, false, false, false, false, false, false, false, false, false, false, false, false, false, false, false, false]) rfl (.inr ⟨_, _, _, _, rfl, rfl, rfl, hg_14415⟩) rfl (e_valE tk (.el 5) [1] (by kernel_rfl)) (by kernel_rfl) rfl (by kernel_rfl) ?_
                                   exact SD.vie D_9 [.g 0, .g 1, .g 2, .g 3, .g 4, .g 5] c_14415_4 (by kernel_rfl)
                                 · refine SW.eff D_9 (i := 41) (bs' := [true, true, true, true, true, true, true, true, true, true, true, true, true, true, true, true, true, true, true, true, true, true, true, true, true, true, true, true, true, true, true, true, true, true, true, true, true, true, true, false, false, true, false, false, false, false, false, false, false, false, false, false, false, false, false, false, false, false, false]) rfl (.inr ⟨_, _, _, _, rfl, rfl, rfl, hg_14415⟩) rfl (e_c Try.call34 (ok_wirelessref41_Short F 10757 _ e_x_17696) [] [vi .u16 10757] (.g (C_api_UUID x_17696)) (by kernel_rfl) (.inl rfl)) (by kernel_rfl) rfl (by kernel_rfl) ?_
                                   refine SD.takes tk D_9 [(89, true)] (knS rfl hg_14415 kn0) [42] [] [] [true, true, true, true, true, true, true, true, true, true, true, true, true, true, true, true, true, true, true, true, true, true, true, true, true, true, true, true, true, true, true, true, true, true, true, true, true, true, true, false, false, true, true, false, false, false, false, false, false, false, false, false, false, false, false, false, false, false, false] [(1, vs 1), (7, vs 4), (89, vb ((x_12095.Handle == 1) && ((x_12095.Last == 4) && ((x_12095.Value == 0) && ((x_12095.Props == 0) && ((x_12095.f_Type.High == x_12255.High) && (x_12095.f_Type.Low == x_12255.Low))))))), (90, vs 4), (94, .g (C_api_Found (T_api_Found.mk 2 0 3 32 x_17696)))] rfl (by kernel_rfl) (by kernel_rfl) (by kernel_rfl) ?_
                                   exact SD.vie D_9 [.g 0, .g 1, .g 2, .g 3, .g 4] c_14415_5 (by kernel_rfl)
                   · replace hp := if_f hp hg_14415
                     refine SD.takes tk D_9 [(89, false)] (knS rfl hg_14415 kn0) [38, 39, 40, 41, 42, 43, 44, 45] [] [] [true, true, true, true, true, true, true, true, true, true, true, true, true, true, true, true, true, true, true, true, true, true, true, true, true, true, true, true, true, true, true, true, true, true, true, true, true, true, true, true, true, true, true, true, true, true, false, false, false, false, false, false, false, false, false, false, false, false, false] [(1, vs 1), (7, vs 4), (97, vb false)] rfl (by kernel_rfl) (by kernel_rfl) (by kernel_rfl) ?_
                     refine SD.takes tk D_9 [(97, false)] (knS rfl rfl kn0) [46, 47, 48, 49, 50, 51, 52, 53] [] [] [true, true, true, true, true, true, true, true, true, true, true, true, true, true, true, true, true, true, true, true, true, true, true, true, true, true, true, true, true, true, true, true, true, true, true, true, true, true, true, true, true, true, true, true, true, true, true, true, true, true, true, true, true, true, false, false, false, false, false] [(1, vs 1), (105, vb false)] rfl (by kernel_rfl) (by kernel_rfl) (by kernel_rfl) ?_
                     refine SD.takes tk D_9 [(105, false)] (knS rfl rfl kn0) [54, 55, 56, 57, 58] [] [] [true, true, true, true, true, true, true, true, true, true, true, true, true, true, true, true, true, true, true, true, true, true, true, true, true, true, true, true, true, true, true, true, true, true, true, true, true, true, true, true, true, true, true, true, true, true, true, true, true, true, true, true, true, true, true, true, true, true, true] [(0, vb false)] rfl (by kernel_rfl) (by kernel_rfl) (by kernel_rfl) ?_
                     refine SD.done (by kernel_rfl) fun a w h => ?_
                     exact ⟨false, hp, h.at (js := []) (by kernel_rfl)⟩
                 · refine SD.lay 24 [true, true, true, true, true, true, true, true, true, true, true, true, true, true, true, true, true, true, true, true, true, true, true, true, true, true, true, true, true, true, true, true, true, true, true, false, false, false, false, false, false, false, false, false, false, false, false, false, false, false, false, false, false, false, false, false, false, false, false] [(1, vs 1), (7, vs 4), (81, vb ((len x_9613.Value) == 2)), (84, .g (C_api_Found x_12095)), (86, .g (C_api_Found (T_api_Found.mk 1 4 0 0 x_12255)))] [.rd 4 R_T_api_Service x_1, .rd 5 R_T_api_Attribute x_2.1, .rd 5 R_T_api_Attribute x_3.1, .rd 5 R_T_api_Attribute x_4.1, .rd 6 R_T_api_Found x_5] ?_ (fun c_9614_1 => ?_)
                   · refine SD.all1 (i := 35) (by kernel_rfl) ?_
                     refine SW.eff D_9 (i := 35) (bs' := [true, true, true, true, true, true, true, true, true, true, true, true, true, true, true, true, true, true, true, true, true, true, true, true, true, true, true, true, true, true, true, true, true, true, true, true, false, false, false, false, false, false, false, false, false, false, false, false, false, false, false, false, false, false, false, false, false, false, false]) rfl (.inr ⟨_, _, _, _, rfl, rfl, rfl, hg_9614⟩) rfl (e_eqs tk (cs := (C_api_Found x_12095)) (ds := (C_api_Found (T_api_Found.mk 1 4 0 0 x_12255))) [(x_12095.Handle == 1), (x_12095.Last == 4), (x_12095.Value == 0), (x_12095.Props == 0), (x_12095.f_Type.High == x_12255.High), (x_12095.f_Type.Low == x_12255.Low)] ((x_12095.Handle == 1) && ((x_12095.Last == 4) && ((x_12095.Value == 0) && ((x_12095.Props == 0) && ((x_12095.f_Type.High == x_12255.High) && (x_12095.f_Type.Low == x_12255.Low)))))) rfl rfl (by kernel_rfl) (by kernel_rfl) (by kernel_rfl) (.inl ⟨rfl, (by kernel_rfl)⟩)) (by kernel_rfl) rfl (by kernel_rfl) ?_
                     refine SD.takes tk D_9 [(81, true)] (knS rfl hg_9614 kn0) [36, 37] [] [] [true, true, true, true, true, true, true, true, true, true, true, true, true, true, true, true, true, true, true, true, true, true, true, true, true, true, true, true, true, true, true, true, true, true, true, true, true, true, false, false, false, false, false, false, false, false, false, false, false, false, false, false, false, false, false, false, false, false, false] [(1, vs 1), (7, vs 4), (89, vb ((x_12095.Handle == 1) && ((x_12095.Last == 4) && ((x_12095.Value == 0) && ((x_12095.Props == 0) && ((x_12095.f_Type.High == x_12255.High) && (x_12095.f_Type.Low == x_12255.Low)))))))] rfl (by kernel_rfl) (by kernel_rfl) (by kernel_rfl) ?_
                     exact SD.vie D_9 [.g 0, .g 1, .g 2, .g 3, .g 4] c_9614_0 (by kernel_rfl)
                   · refine SD.lay 26 [true, true, true, true, true, true, true, true, true, true, true, true, true, true, true, true, true, true, true, true, true, true, true, true, true, true, true, true, true, true, true, true, true, false, false, false, false, false, false, false, false, false, false, false, false, false, false, false, false, false, false, false, false, false, false, false, false, false, false] [(1, vs 1), (7, vs 4), (81, vb ((len x_9613.Value) == 2)), (84, .g (C_api_Found x_12095))] [.rd 4 R_T_api_Service x_1, .rd 5 R_T_api_Attribute x_2.1, .rd 5 R_T_api_Attribute x_3.1, .rd 5 R_T_api_Attribute x_4.1, .rd 6 R_T_api_Found x_5] ?_ (fun c_9614_2 => ?_)
                     · refine SD.all1 (i := 33) (by kernel_rfl) ?_
                       refine SW.eff D_9 (i := 33) (bs' := [true, true, true, true, true, true, true, true, true, true, true, true, true, true, true, true, true, true, true, true, true, true, true, true, true, true, true, true, true, true, true, true, true, true, false, false, false, false, false, false, false, false, false, false, false, false, false, false, false, false, false, false, false, false, false, false, false, false, false]) rfl (.inr ⟨_, _, _, _, rfl, rfl, rfl, hg_9614⟩) rfl (e_c Try.call34 (ok_wirelessref41_Short F 6145 _ e_x_12255) [] [vi .u16 6145] (.g (C_api_UUID x_12255)) (by kernel_rfl) (.inl rfl)) (by kernel_rfl) rfl (by kernel_rfl) ?_
                       refine SD.takes tk D_9 [(81, true)] (knS rfl hg_9614 kn0) [34] [] [] [true, true, true, true, true, true, true, true, true, true, true, true, true, true, true, true, true, true, true, true, true, true, true, true, true, true, true, true, true, true, true, true, true, true, true, false, false, false, false, false, false, false, false, false, false, false, false, false, false, false, false, false, false, false, false, false, false, false, false] [(1, vs 1), (7, vs 4), (81, vb ((len x_9613.Value) == 2)), (84, .g (C_api_Found x_12095)), (86, .g (C_api_Found (T_api_Found.mk 1 4 0 0 x_12255)))] rfl (by kernel_rfl) (by kernel_rfl) (by kernel_rfl) ?_
                       exact SD.vie D_9 [.g 0, .g 1, .g 2, .g 3, .g 4] c_9614_1 (by kernel_rfl)
                     · refine SD.lay 25 [true, true, true, true, true, true, true, true, true, true, true, true, true, true, true, true, true, true, true, true, true, true, true, true, true, true, true, true, true, true, true, true, false, true, true, false, false, false, false, false, false, false, false, false, false, false, false, false, false, false, false, false, false, false, false, false, false, false, false] [(1, vs 1), (7, vs 4), (81, vb ((len x_9613.Value) == 2)), (83, vp 7 0), (86, .g (C_api_Found (T_api_Found.mk 1 4 0 0 x_12255)))] [.rd 4 R_T_api_Service x_1, .rd 5 R_T_api_Attribute x_2.1, .rd 5 R_T_api_Attribute x_3.1, .rd 5 R_T_api_Attribute x_4.1, .rd 6 R_T_api_Found x_5, .gone, .gone, .elt none false (C_api_Found x_12095)] ?_ (fun c_9614_3 => ?_)
                       · refine SD.all1 (i := 32) (by kernel_rfl) ?_
                         refine SW.eff D_9 (i := 32) (v := .g (C_api_Found x_12095)) (bs' := [true, true, true, true, true, true, true, true, true, true, true, true, true, true, true, true, true, true, true, true, true, true, true, true, true, true, true, true, true, true, true, true, true, true, true, false, false, false, false, false, false, false, false, false, false, false, false, false, false, false, false, false, false, false, false, false, false, false, false]) rfl (.inr ⟨_, _, _, _, rfl, rfl, rfl, hg_9614⟩) rfl (e_val tk (by kernel_rfl)) (by kernel_rfl) rfl (by kernel_rfl) ?_
                         exact SD.vie D_9 [.g 0, .g 1, .g 2, .g 3, .g 4] c_9614_1 (by kernel_rfl)
                       · refine SD.lay 27 [true, true, true, true, true, true, true, true, true, true, true, true, true, true, true, true, true, true, true, true, true, true, true, true, true, true, true, true, true, true, true, true, false, false, false, false, false, false, false, false, false, false, false, false, false, false, false, false, false, false, false, false, false, false, false, false, false, false, false] [(1, vs 1), (7, vs 4), (81, vb ((len x_9613.Value) == 2)), (83, vp 7 0)] [.rd 4 R_T_api_Service x_1, .rd 5 R_T_api_Attribute x_2.1, .rd 5 R_T_api_Attribute x_3.1, .rd 5 R_T_api_Attribute x_4.1, .rd 6 R_T_api_Found x_5, .gone, .gone, .elt none false (C_api_Found x_12095)] ?_ (fun c_9614_4 => ?_)
                         · refine SD.all2 (i := 32) (j := 33) (by kernel_rfl) ?_ ?_
                           · refine SW.eff D_9 (i := 32) (v := .g (C_api_Found x_12095)) (bs' := [true, true, true, true, true, true, true, true, true, true, true, true, true, true, true, true, true, true, true, true, true, true, true, true, true, true, true, true, true, true, true, true, true, false, false, false, false, false, false, false, false, false, false, false, false, false, false, false, false, false, false, false, false, false, false, false, false, false, false]) rfl (.inr ⟨_, _, _, _, rfl, rfl, rfl, hg_9614⟩) rfl (e_val tk (by kernel_rfl)) (by kernel_rfl) rfl (by kernel_rfl) ?_
                             exact SD.vie D_9 [.g 0, .g 1, .g 2, .g 3, .g 4] c_9614_2 (by kernel_rfl)
                           · refine SW.eff D_9 (i := 33) (bs' := [true, true, true, true, true, true, true, true, true, true, true, true, true, true, true, true, true, true, true, true, true, true, true, true, true, true, true, true, true, true, true, true, false, true, false, false, false, false, false, false, false, false, false, false, false, false, false, false, false, false, false, false, false, false, false, false, false, false, false]) rfl (.inr ⟨_, _, _, _, rfl, rfl, rfl, hg_9614⟩) rfl (e_c Try.call34 (ok_wirelessref41_Short F 6145 _ e_x_12255) [] [vi .u16 6145] (.g (C_api_UUID x_12255)) (by kernel_rfl) (.inl rfl)) (by kernel_rfl) rfl (by kernel_rfl) ?_
                             refine SD.takes tk D_9 [(81, true)] (knS rfl hg_9614 kn0) [34] [] [] [true, true, true, true, true, true, true, true, true, true, true, true, true, true, true, true, true, true, true, true, true, true, true, true, true, true, true, true, true, true, true, true, false, true, true, false, false, false, false, false, false, false, false, false, false, false, false, false, false, false, false, false, false, false, false, false, false, false, false] [(1, vs 1), (7, vs 4), (81, vb ((len x_9613.Value) == 2)), (83, vp 7 0), (86, .g (C_api_Found (T_api_Found.mk 1 4 0 0 x_12255)))] rfl (by kernel_rfl) (by kernel_rfl) (by kernel_rfl) ?_
                             exact SD.vie D_9 [.g 0, .g 1, .g 2, .g 3, .g 4, .n, .n, .g 7] c_9614_3 (by kernel_rfl)
                         · refine SD.lay 26 [true, true, true, true, true, true, true, true, true, true, true, true, true, true, true, true, true, true, true, true, true, true, true, true, true, true, true, true, true, true, true, false, false, true, true, false, false, false, false, false, false, false, false, false, false, false, false, false, false, false, false, false, false, false, false, false, false, false, false] [(1, vs 1), (7, vs 4), (81, vb ((len x_9613.Value) == 2)), (82, vs 4), (86, .g (C_api_Found (T_api_Found.mk 1 4 0 0 x_12255)))] [.rd 4 R_T_api_Service x_1, .rd 5 R_T_api_Attribute x_2.1, .rd 5 R_T_api_Attribute x_3.1, .rd 5 R_T_api_Attribute x_4.1, .rd 6 R_T_api_Found x_5] ?_ (fun c_9614_5 => ?_)
                           · refine SD.pre (pre_ix (i := 4) (iv := 0) (sz := 6) (R := R_T_api_Found) (l := x_5) (by kernel_rfl) rfl e_x_12095) ?_
                             refine SD.all1 (i := 31) (by kernel_rfl) ?_
                             refine SW.eff D_9 (i := 31) (v := vp 5 0) (bs' := [true, true, true, true, true, true, true, true, true, true, true, true, true, true, true, true, true, true, true, true, true, true, true, true, true, true, true, true, true, true, true, true, false, true, true, false, false, false, false, false, false, false, false, false, false, false, false, false, false, false, false, false, false, false, false, false, false, false, false]) rfl (.inr ⟨_, _, _, _, rfl, rfl, rfl, hg_9614⟩) rfl (e_valE tk (.el 5) [0] (by kernel_rfl)) (by kernel_rfl) rfl (by kernel_rfl) ?_
                             exact SD.vie D_9 [.g 0, .g 1, .g 2, .g 3, .g 4, .n, .n, .g 5] c_9614_3 (by kernel_rfl)
                           · refine SD.all2 (i := 31) (j := 33) (by kernel_rfl) ?_ ?_
                             · refine SW.pre (pre_ix (i := 4) (iv := 0) (sz := 6) (R := R_T_api_Found) (l := x_5) (by kernel_rfl) rfl e_x_12095) ?_
                               refine SW.eff D_9 (i := 31) (v := vp 7 0) (bs' := [true, true, true, true, true, true, true, true, true, true, true, true, true, true, true, true, true, true, true, true, true, true, true, true, true, true, true, true, true, true, true, true, false, false, false, false, false, false, false, false, false, false, false, false, false, false, false, false, false, false, false, false, false, false, false, false, false, false, false]) rfl (.inr ⟨_, _, _, _, rfl, rfl, rfl, hg_9614⟩) rfl (e_valE tk (.el 7) [0] (by kernel_rfl)) (by kernel_rfl) rfl (by kernel_rfl) ?_
                               exact SD.vie D_9 [.g 0, .g 1, .g 2, .g 3, .g 4, .n, .n, .g 7] c_9614_4 (by kernel_rfl)
                             · refine SW.eff D_9 (i := 33) (bs' := [true, true, true, true, true, true, true, true, true, true, true, true, true, true, true, true, true, true, true, true, true, true, true, true, true, true, true, true, true, true, true, false, false, true, false, false, false, false, false, false, false, false, false, false, false, false, false, false, false, false, false, false, false, false, false, false, false, false, false]) rfl (.inr ⟨_, _, _, _, rfl, rfl, rfl, hg_9614⟩) rfl (e_c Try.call34 (ok_wirelessref41_Short F 6145 _ e_x_12255) [] [vi .u16 6145] (.g (C_api_UUID x_12255)) (by kernel_rfl) (.inl rfl)) (by kernel_rfl) rfl (by kernel_rfl) ?_
                               refine SD.takes tk D_9 [(81, true)] (knS rfl hg_9614 kn0) [34] [] [] [true, true, true, true, true, true, true, true, true, true, true, true, true, true, true, true, true, true, true, true, true, true, true, true, true, true, true, true, true, true, true, false, false, true, true, false, false, false, false, false, false, false, false, false, false, false, false, false, false, false, false, false, false, false, false, false, false, false, false] [(1, vs 1), (7, vs 4), (81, vb ((len x_9613.Value) == 2)), (82, vs 4), (86, .g (C_api_Found (T_api_Found.mk 1 4 0 0 x_12255)))] rfl (by kernel_rfl) (by kernel_rfl) (by kernel_rfl) ?_
                               exact SD.vie D_9 [.g 0, .g 1, .g 2, .g 3, .g 4] c_9614_5 (by kernel_rfl)
               · replace hp := if_f hp hg_9614
                 refine SD.takes tk D_9 [(81, false)] (knS rfl hg_9614 kn0) [30, 31, 32, 33, 34, 35, 36, 37] [] [] [true, true, true, true, true, true, true, true, true, true, true, true, true, true, true, true, true, true, true, true, true, true, true, true, true, true, true, true, true, true, true, true, true, true, true, true, true, true, false, false, false, false, false, false, false, false, false, false, false, false, false, false, false, false, false, false, false, false, false] [(1, vs 1), (7, vs 4), (89, vb false)] rfl (by kernel_rfl) (by kernel_rfl) (by kernel_rfl) ?_
                 refine SD.takes tk D_9 [(89, false)] (knS rfl rfl kn0) [38, 39, 40, 41, 42, 43, 44, 45] [] [] [true, true, true, true, true, true, true, true, true, true, true, true, true, true, true, true, true, true, true, true, true, true, true, true, true, true, true, true, true, true, true, true, true, true, true, true, true, true, true, true, true, true, true, true, true, true, false, false, false, false, false, false, false, false, false, false, false, false, false] [(1, vs 1), (7, vs 4), (97, vb false)] rfl (by kernel_rfl) (by kernel_rfl) (by kernel_rfl) ?_
                 refine SD.takes tk D_9 [(97, false)] (knS rfl rfl kn0) [46, 47, 48, 49, 50, 51, 52, 53] [] [] [true, true, true, true, true, true, true, true, true, true, true, true, true, true, true, true, true, true, true, true, true, true, true, true, true, true, true, true, true, true, true, true, true, true, true, true, true, true, true, true, true, true, true, true, true, true, true, true, true, true, true, true, true, true, false, false, false, false, false] [(1, vs 1), (105, vb false)] rfl (by kernel_rfl) (by kernel_rfl) (by kernel_rfl) ?_
                 refine SD.takes tk D_9 [(105, false)] (knS rfl rfl kn0) [54, 55, 56, 57, 58] [] [] [true, true, true, true, true, true, true, true, true, true, true, true, true, true, true, true, true, true, true, true, true, true, true, true, true, true, true, true, true, true, true, true, true, true, true, true, true, true, true, true, true, true, true, true, true, true, true, true, true, true, true, true, true, true, true, true, true, true, true] [(0, vb false)] rfl (by kernel_rfl) (by kernel_rfl) (by kernel_rfl) ?_
                 refine SD.done (by kernel_rfl) fun a w h => ?_
                 exact ⟨false, hp, h.at (js := []) (by kernel_rfl)⟩
             · replace hp := if_f hp hg_9612
               refine SD.takes tk D_9 [(73, false)] (knS rfl hg_9612 kn0) [22, 23, 24, 25, 26, 27, 28, 29] [] [] [true, true, true, true, true, true, true, true, true, true, true, true, true, true, true, true, true, true, true, true, true, true, true, true, true, true, true, true, true, true, false, false, false, false, false, false, false, false, false, false, false, false, false, false, false, false, false, false, false, false, false, false, false, false, false, false, false, false, false] [(1, vs 1), (7, vs 4), (81, vb false)] rfl (by kernel_rfl) (by kernel_rfl) (by kernel_rfl) ?_
               refine SD.takes tk D_9 [(81, false)] (knS rfl rfl kn0) [30, 31, 32, 33, 34, 35, 36, 37] [] [] [true, true, true, true, true, true, true, true, true, true, true, true, true, true, true, true, true, true, true, true, true, true, true, true, true, true, true, true, true, true, true, true, true, true, true, true, true, true, false, false, false, false, false, false, false, false, false, false, false, false, false, false, false, false, false, false, false, false, false] [(1, vs 1), (7, vs 4), (89, vb false)] rfl (by kernel_rfl) (by kernel_rfl) (by kernel_rfl) ?_
               refine SD.takes tk D_9 [(89, false)] (knS rfl rfl kn0) [38, 39, 40, 41, 42, 43, 44, 45] [] [] [true, true, true, true, true, true, true, true, true, true, true, true, true, true, true, true, true, true, true, true, true, true, true, true, true, true, true, true, true, true, true, true, true, true, true, true, true, true, true, true, true, true, true, true, true, true, false, false, false, false, false, false, false, false, false, false, false, false, false] [(1, vs 1), (7, vs 4), (97, vb false)] rfl (by kernel_rfl) (by kernel_rfl) (by kernel_rfl) ?_
               refine SD.takes tk D_9 [(97, false)] (knS rfl rfl kn0) [46, 47, 48, 49, 50, 51, 52, 53] [] [] [true, true, true, true, true, true, true, true, true, true, true, true, true, true, true, true, true, true, true, true, true, true, true, true, true, true, true, true, true, true, true, true, true, true, true, true, true, true, true, true, true, true, true, true, true, true, true, true, true, true, true, true, true, true, false, false, false, false, false] [(1, vs 1), (105, vb false)] rfl (by kernel_rfl) (by kernel_rfl) (by kernel_rfl) ?_
               refine SD.takes tk D_9 [(105, false)] (knS rfl rfl kn0) [54, 55, 56, 57, 58] [] [] [true, true, true, true, true, true, true, true, true, true, true, true, true, true, true, true, true, true, true, true, true, true, true, true, true, true, true, true, true, true, true, true, true, true, true, true, true, true, true, true, true, true, true, true, true, true, true, true, true, true, true, true, true, true, true, true, true, true, true] [(0, vb false)] rfl (by kernel_rfl) (by kernel_rfl) (by kernel_rfl) ?_
               refine SD.done (by kernel_rfl) fun a w h => ?_
               exact ⟨false, hp, h.at (js := []) (by kernel_rfl)⟩
           · refine SD.lay 40 [true, true, true, true, true, true, true, true, true, true, true, true, true, true, true, true, true, true, true, false, false, false, false, false, false, false, false, false, false, false, false, false, false, false, false, false, false, false, false, false, false, false, false, false, false, false, false, false, false, false, false, false, false, false, false, false, false, false, false] [(1, vs 1), (7, vs 4), (65, vb x_891), (69, vs 6), (70, vs 7)] [.rd 4 R_T_api_Service x_1, .rd 5 R_T_api_Attribute x_2.1, .rd 5 R_T_api_Attribute x_3.1, .rd 5 R_T_api_Attribute x_4.1, .rd 6 R_T_api_Found x_5, .gone, .rd 1 R8 x_6012.Value, .own 1 5 R8 [32, 3, 0, 5, 42]] ?_ (fun c_4811_1 => ?_)
             · refine SD.all1 (i := 19) (by kernel_rfl) ?_
               refine SW.eff D_9 (i := 19) (bs' := [true, true, true, true, true, true, true, true, true, true, true, true, true, true, true, true, true, true, true, true, false, false, false, false, false, false, false, false, false, false, false, false, false, false, false, false, false, false, false, false, false, false, false, false, false, false, false, false, false, false, false, false, false, false, false, false, false, false, false]) rfl (.inr ⟨_, _, _, _, rfl, rfl, rfl, hg_4811⟩) rfl (e_c Try.call33 (ok_wirelessref23_Same F x_6012.Value [32, 3, 0, 5, 42] _ e_x_6332) [.g 6, .l 7] [vs 6, vs 7] (vb x_6332) (by kernel_rfl) (.inr ⟨trivial, trivial, trivial⟩)) (by kernel_rfl) rfl (by kernel_rfl) ?_
               refine SD.takes tk D_9 [(65, true)] (knS rfl hg_4811 kn0) [20, 21] [] [] [true, true, true, true, true, true, true, true, true, true, true, true, true, true, true, true, true, true, true, true, true, true, false, false, false, false, false, false, false, false, false, false, false, false, false, false, false, false, false, false, false, false, false, false, false, false, false, false, false, false, false, false, false, false, false, false, false, false, false] [(1, vs 1), (7, vs 4), (73, vb x_6332)] rfl (by kernel_rfl) (by kernel_rfl) (by kernel_rfl) ?_
               exact SD.vie D_9 [.g 0, .g 1, .g 2, .g 3, .g 4] c_4811_0 (by kernel_rfl)
             · refine SD.lay 41 [true, true, true, true, true, true, true, true, true, true, true, true, true, true, true, true, true, true, false, false, false, false, false, false, false, false, false, false, false, false, false, false, false, false, false, false, false, false, false, false, false, false, false, false, false, false, false, false, false, false, false, false, false, false, false, false, false, false, false] [(1, vs 1), (7, vs 4), (65, vb x_891), (69, vs 6)] [.rd 4 R_T_api_Service x_1, .rd 5 R_T_api_Attribute x_2.1, .rd 5 R_T_api_Attribute x_3.1, .rd 5 R_T_api_Attribute x_4.1, .rd 6 R_T_api_Found x_5, .gone, .rd 1 R8 x_6012.Value] ?_ (fun c_4811_2 => ?_)
               · refine SD.all1 (i := 18) (by kernel_rfl) ?_
                 refine SW.eff D_9 (i := 18) (bs' := [true, true, true, true, true, true, true, true, true, true, true, true, true, true, true, true, true, true, true, false, false, false, false, false, false, false, false, false, false, false, false, false, false, false, false, false, false, false, false, false, false, false, false, false, false, false, false, false, false, false, false, false, false, false, false, false, false, false, false]) rfl (.inr ⟨_, _, _, _, rfl, rfl, rfl, hg_4811⟩) rfl (e_lit (sz := 1) (E := 5) (R := R8) (by_ := 1) tk [[ci .u8 32], [ci .u8 3], [ci .u8 0], [ci .u8 5], [ci .u8 42]] [32, 3, 0, 5, 42] (by kernel_rfl) ⟨Clo.int, ⟨Clo.int, ⟨Clo.int, ⟨Clo.int, ⟨Clo.int, trivial⟩⟩⟩⟩⟩ rfl (by kernel_rfl) (by kernel_rfl)) (by kernel_rfl) rfl (by kernel_rfl) ?_
                 exact SD.vie D_9 [.g 0, .g 1, .g 2, .g 3, .g 4, .n, .g 6, .g 7] c_4811_1 (by kernel_rfl)
               · refine SD.lay 41 [true, true, true, true, true, true, true, true, true, true, true, true, true, true, true, true, true, false, true, false, false, false, false, false, false, false, false, false, false, false, false, false, false, false, false, false, false, false, false, false, false, false, false, false, false, false, false, false, false, false, false, false, false, false, false, false, false, false, false] [(1, vs 1), (7, vs 4), (65, vb x_891), (68, vp 5 4), (70, vs 7)] [.rd 4 R_T_api_Service x_1, .rd 5 R_T_api_Attribute x_2.1, .rd 5 R_T_api_Attribute x_3.1, .rd 5 R_T_api_Attribute x_4.1, .rd 6 R_T_api_Found x_5, .elt none false (C_api_Attribute x_6012 (.s 6)), .rd 1 R8 x_6012.Value, .own 1 5 R8 [32, 3, 0, 5, 42]] ?_ (fun c_4811_3 => ?_)
                 · refine SD.all1 (i := 17) (by kernel_rfl) ?_
                   refine SW.eff D_9 (i := 17) (v := vs 6) (bs' := [true, true, true, true, true, true, true, true, true, true, true, true, true, true, true, true, true, true, true, false, false, false, false, false, false, false, false, false, false, false, false, false, false, false, false, false, false, false, false, false, false, false, false, false, false, false, false, false, false, false, false, false, false, false, false, false, false, false, false]) rfl (.inr ⟨_, _, _, _, rfl, rfl, rfl, hg_4811⟩) rfl (e_val tk (by kernel_rfl)) (by kernel_rfl) rfl (by kernel_rfl) ?_
                   exact SD.vie D_9 [.g 0, .g 1, .g 2, .g 3, .g 4, .n, .g 6, .g 7] c_4811_1 (by kernel_rfl)
                 · refine SD.lay 42 [true, true, true, true, true, true, true, true, true, true, true, true, true, true, true, true, true, false, false, false, false, false, false, false, false, false, false, false, false, false, false, false, false, false, false, false, false, false, false, false, false, false, false, false, false, false, false, false, false, false, false, false, false, false, false, false, false, false, false] [(1, vs 1), (7, vs 4), (65, vb x_891), (68, vp 5 4)] [.rd 4 R_T_api_Service x_1, .rd 5 R_T_api_Attribute x_2.1, .rd 5 R_T_api_Attribute x_3.1, .rd 5 R_T_api_Attribute x_4.1, .rd 6 R_T_api_Found x_5, .elt none false (C_api_Attribute x_6012 (.s 6)), .rd 1 R8 x_6012.Value] ?_ (fun c_4811_4 => ?_)
                   · refine SD.all2 (i := 17) (j := 18) (by kernel_rfl) ?_ ?_
                     · refine SW.eff D_9 (i := 17) (v := vs 6) (bs' := [true, true, true, true, true, true, true, true, true, true, true, true, true, true, true, true, true, true, false, false, false, false, false, false, false, false, false, false, false, false, false, false, false, false, false, false, false, false, false, false, false, false, false, false, false, false, false, false, false, false, false, false, false, false, false, false, false, false, false]) rfl (.inr ⟨_, _, _, _, rfl, rfl, rfl, hg_4811⟩) rfl (e_val tk (by kernel_rfl)) (by kernel_rfl) rfl (by kernel_rfl) ?_
                       exact SD.vie D_9 [.g 0, .g 1, .g 2, .g 3, .g 4, .n, .g 6] c_4811_2 (by kernel_rfl)
                     · refine SW.eff D_9 (i := 18) (bs' := [true, true, true, true, true, true, true, true, true, true, true, true, true, true, true, true, true, false, true, false, false, false, false, false, false, false, false, false, false, false, false, false, false, false, false, false, false, false, false, false, false, false, false, false, false, false, false, false, false, false, false, false, false, false, false, false, false, false, false]) rfl (.inr ⟨_, _, _, _, rfl, rfl, rfl, hg_4811⟩) rfl (e_lit (sz := 1) (E := 5) (R := R8) (by_ := 1) tk [[ci .u8 32], [ci .u8 3], [ci .u8 0], [ci .u8 5], [ci .u8 42]] [32, 3, 0, 5, 42] (by kernel_rfl) ⟨Clo.int, ⟨Clo.int, ⟨Clo.int, ⟨Clo.int, ⟨Clo.int, trivial⟩⟩⟩⟩⟩ rfl (by kernel_rfl) (by kernel_rfl)) (by kernel_rfl) rfl (by kernel_rfl) ?_
                       exact SD.vie D_9 [.g 0, .g 1, .g 2, .g 3, .g 4, .g 5, .g 6, .g 7] c_4811_3 (by kernel_rfl)
                   · refine SD.lay 42 [true, true, true, true, true, true, true, true, true, true, true, true, true, true, true, true, false, false, true, false, false, false, false, false, false, false, false, false, false, false, false, false, false, false, false, false, false, false, false, false, false, false, false, false, false, false, false, false, false, false, false, false, false, false, false, false, false, false, false] [(1, vs 1), (7, vs 4), (65, vb x_891), (67, vp 5 0), (70, vs 7)] [.rd 4 R_T_api_Service x_1, .rd 5 R_T_api_Attribute x_2.1, .rd 5 R_T_api_Attribute x_3.1, .rd 5 R_T_api_Attribute x_4.1, .rd 6 R_T_api_Found x_5, .elt none false (C_api_Attribute x_6012 (.s 6)), .rd 1 R8 x_6012.Value, .own 1 5 R8 [32, 3, 0, 5, 42]] ?_ (fun c_4811_5 => ?_)
                     · refine SD.all1 (i := 16) (by kernel_rfl) ?_
                       refine SW.eff D_9 (i := 16) (v := vp 5 4) (bs' := [true, true, true, true, true, true, true, true, true, true, true, true, true, true, true, true, true, false, true, false, false, false, false, false, false, false, false, false, false, false, false, false, false, false, false, false, false, false, false, false, false, false, false, false, false, false, false, false, false, false, false, false, false, false, false, false, false, false, false]) rfl (.inr ⟨_, _, _, _, rfl, rfl, rfl, hg_4811⟩) rfl (e_val tk (by kernel_rfl)) (by kernel_rfl) rfl (by kernel_rfl) ?_
                       exact SD.vie D_9 [.g 0, .g 1, .g 2, .g 3, .g 4, .g 5, .g 6, .g 7] c_4811_3 (by kernel_rfl)
                     · refine SD.lay 43 [true, true, true, true, true, true, true, true, true, true, true, true, true, true, true, true, false, false, false, false, false, false, false, false, false, false, false, false, false, false, false, false, false, false, false, false, false, false, false, false, false, false, false, false, false, false, false, false, false, false, false, false, false, false, false, false, false, false, false] [(1, vs 1), (7, vs 4), (65, vb x_891), (67, vp 5 0)] [.rd 4 R_T_api_Service x_1, .rd 5 R_T_api_Attribute x_2.1, .rd 5 R_T_api_Attribute x_3.1, .rd 5 R_T_api_Attribute x_4.1, .rd 6 R_T_api_Found x_5, .elt none false (C_api_Attribute x_6012 (.s 6)), .rd 1 R8 x_6012.Value] ?_ (fun c_4811_6 => ?_)
                       · refine SD.all2 (i := 16) (j := 18) (by kernel_rfl) ?_ ?_
                         · refine SW.eff D_9 (i := 16) (v := vp 5 4) (bs' := [true, true, true, true, true, true, true, true, true, true, true, true, true, true, true, true, true, false, false, false, false, false, false, false, false, false, false, false, false, false, false, false, false, false, false, false, false, false, false, false, false, false, false, false, false, false, false, false, false, false, false, false, false, false, false, false, false, false, false]) rfl (.inr ⟨_, _, _, _, rfl, rfl, rfl, hg_4811⟩) rfl (e_val tk (by kernel_rfl)) (by kernel_rfl) rfl (by kernel_rfl) ?_
                           exact SD.vie D_9 [.g 0, .g 1, .g 2, .g 3, .g 4, .g 5, .g 6] c_4811_4 (by kernel_rfl)
                         · refine SW.eff D_9 (i := 18) (bs' := [true, true, true, true, true, true, true, true, true, true, true, true, true, true, true, true, false, false, true, false, false, false, false, false, false, false, false, false, false, false, false, false, false, false, false, false, false, false, false, false, false, false, false, false, false, false, false, false, false, false, false, false, false, false, false, false, false, false, false]) rfl (.inr ⟨_, _, _, _, rfl, rfl, rfl, hg_4811⟩) rfl (e_lit (sz := 1) (E := 5) (R := R8) (by_ := 1) tk [[ci .u8 32], [ci .u8 3], [ci .u8 0], [ci .u8 5], [ci .u8 42]] [32, 3, 0, 5, 42] (by kernel_rfl) ⟨Clo.int, ⟨Clo.int, ⟨Clo.int, ⟨Clo.int, ⟨Clo.int, trivial⟩⟩⟩⟩⟩ rfl (by kernel_rfl) (by kernel_rfl)) (by kernel_rfl) rfl (by kernel_rfl) ?_
                           exact SD.vie D_9 [.g 0, .g 1, .g 2, .g 3, .g 4, .g 5, .g 6, .g 7] c_4811_5 (by kernel_rfl)
                       · refine SD.lay 43 [true, true, true, true, true, true, true, true, true, true, true, true, true, true, true, false, false, false, true, false, false, false, false, false, false, false, false, false, false, false, false, false, false, false, false, false, false, false, false, false, false, false, false, false, false, false, false, false, false, false, false, false, false, false, false, false, false, false, false] [(1, vs 1), (7, vs 4), (65, vb x_891), (66, vs 1), (70, vs 5)] [.rd 4 R_T_api_Service x_1, .rd 5 R_T_api_Attribute x_2.1, .rd 5 R_T_api_Attribute x_3.1, .rd 5 R_T_api_Attribute x_4.1, .rd 6 R_T_api_Found x_5, .own 1 5 R8 [32, 3, 0, 5, 42]] ?_ (fun c_4811_7 => ?_)
                         · refine SD.pre (pre_ix (i := 1) (iv := 1) (sz := 5) (R := R_T_api_Attribute) (l := x_2.1) (by kernel_rfl) rfl e_x_6012) ?_
                           refine SD.all1 (i := 15) (by kernel_rfl) ?_
                           refine SW.eff D_9 (i := 15) (v := vp 6 0) (bs' := [true, true, true, true, true, true, true, true, true, true, true, true, true, true, true, true, false, false, true, false, false, false, false, false, false, false, false, false, false, false, false, false, false, false, false, false, false, false, false, false, false, false, false, false, false, false, false, false, false, false, false, false, false, false, false, false, false, false, false]) rfl (.inr ⟨_, _, _, _, rfl, rfl, rfl, hg_4811⟩) rfl (e_valE tk (.el 6) [1] (by kernel_rfl)) (by kernel_rfl) rfl (by kernel_rfl) ?_
                           exact SD.vie D_9 [.g 0, .g 1, .g 2, .g 3, .g 4, .g 6, .g 7, .g 5] c_4811_5 (by kernel_rfl)
                         · refine SD.all2 (i := 15) (j := 18) (by kernel_rfl) ?_ ?_
                           · refine SW.pre (pre_ix (i := 1) (iv := 1) (sz := 5) (R := R_T_api_Attribute) (l := x_2.1) (by kernel_rfl) rfl e_x_6012) ?_
                             refine SW.eff D_9 (i := 15) (v := vp 5 0) (bs' := [true, true, true, true, true, true, true, true, true, true, true, true, true, true, true, true, false, false, false, false, false, false, false, false, false, false, false, false, false, false, false, false, false, false, false, false, false, false, false, false, false, false, false, false, false, false, false, false, false, false, false, false, false, false, false, false, false, false, false]) rfl (.inr ⟨_, _, _, _, rfl, rfl, rfl, hg_4811⟩) rfl (e_valE tk (.el 5) [1] (by kernel_rfl)) (by kernel_rfl) rfl (by kernel_rfl) ?_
                             exact SD.vie D_9 [.g 0, .g 1, .g 2, .g 3, .g 4, .g 5, .g 6] c_4811_6 (by kernel_rfl)
                           · refine SW.eff D_9 (i := 18) (bs' := [true, true, true, true, true, true, true, true, true, true, true, true, true, true, true, false, false, false, true, false, false, false, false, false, false, false, false, false, false, false, false, false, false, false, false, false, false, false, false, false, false, false, false, false, false, false, false, false, false, false, false, false, false, false, false, false, false, false, false]) rfl (.inr ⟨_, _, _, _, rfl, rfl, rfl, hg_4811⟩) rfl (e_lit (sz := 1) (E := 5) (R := R8) (by_ := 1) tk [[ci .u8 32], [ci .u8 3], [ci .u8 0], [ci .u8 5], [ci .u8 42]] [32, 3, 0, 5, 42] (by kernel_rfl) ⟨Clo.int, ⟨Clo.int, ⟨Clo.int, ⟨Clo.int, ⟨Clo.int, trivial⟩⟩⟩⟩⟩ rfl (by kernel_rfl) (by kernel_rfl)) (by kernel_rfl) rfl (by kernel_rfl) ?_
                             exact SD.vie D_9 [.g 0, .g 1, .g 2, .g 3, .g 4, .g 5] c_4811_7 (by kernel_rfl)
         · replace hp := if_f hp hg_4811
           refine SD.takes tk D_9 [(65, false)] (knS rfl hg_4811 kn0) [14, 15, 16, 17, 18, 19, 20, 21] [] [] [true, true, true, true, true, true, true, true, true, true, true, true, true, true, true, true, true, true, true, true, true, true, false, false, false, false, false, false, false, false, false, false, false, false, false, false, false, false, false, false, false, false, false, false, false, false, false, false, false, false, false, false, false, false, false, false, false, false, false] [(1, vs 1), (7, vs 4), (73, vb false)] rfl (by kernel_rfl) (by kernel_rfl) (by kernel_rfl) ?_
           refine SD.takes tk D_9 [(73, false)] (knS rfl rfl kn0) [22, 23, 24, 25, 26, 27, 28, 29] [] [] [true, true, true, true, true, true, true, true, true, true, true, true, true, true, true, true, true, true, true, true, true, true, true, true, true, true, true, true, true, true, false, false, false, false, false, false, false, false, false, false, false, false, false, false, false, false, false, false, false, false, false, false, false, false, false, false, false, false, false] [(1, vs 1), (7, vs 4), (81, vb false)] rfl (by kernel_rfl) (by kernel_rfl) (by kernel_rfl) ?_
           refine SD.takes tk D_9 [(81, false)] (knS rfl rfl kn0) [30, 31, 32, 33, 34, 35, 36, 37] [] [] [true, true, true, true, true, true, true, true, true, true, true, true, true, true, true, true, true, true, true, true, true, true, true, true, true, true, true, true, true, true, true, true, true, true, true, true, true, true, false, false, false, false, false, false, false, false, false, false, false, false, false, false, false, false, false, false, false, false, false] [(1, vs 1), (7, vs 4), (89, vb false)] rfl (by kernel_rfl) (by kernel_rfl) (by kernel_rfl) ?_
           refine SD.takes tk D_9 [(89, false)] (knS rfl rfl kn0) [38, 39, 40, 41, 42, 43, 44, 45] [] [] [true, true, true, true, true, true, true, true, true, true, true, true, true, true, true, true, true, true, true, true, true, true, true, true, true, true, true, true, true, true, true, true, true, true, true, true, true, true, true, true, true, true, true, true, true, true, false, false, false, false, false, false, false, false, false, false, false, false, false] [(1, vs 1), (7, vs 4), (97, vb false)] rfl (by kernel_rfl) (by kernel_rfl) (by kernel_rfl) ?_
           refine SD.takes tk D_9 [(97, false)] (knS rfl rfl kn0) [46, 47, 48, 49, 50, 51, 52, 53] [] [] [true, true, true, true, true, true, true, true, true, true, true, true, true, true, true, true, true, true, true, true, true, true, true, true, true, true, true, true, true, true, true, true, true, true, true, true, true, true, true, true, true, true, true, true, true, true, true, true, true, true, true, true, true, true, false, false, false, false, false] [(1, vs 1), (105, vb false)] rfl (by kernel_rfl) (by kernel_rfl) (by kernel_rfl) ?_
           refine SD.takes tk D_9 [(105, false)] (knS rfl rfl kn0) [54, 55, 56, 57, 58] [] [] [true, true, true, true, true, true, true, true, true, true, true, true, true, true, true, true, true, true, true, true, true, true, true, true, true, true, true, true, true, true, true, true, true, true, true, true, true, true, true, true, true, true, true, true, true, true, true, true, true, true, true, true, true, true, true, true, true, true, true] [(0, vb false)] rfl (by kernel_rfl) (by kernel_rfl) (by kernel_rfl) ?_
           refine SD.done (by kernel_rfl) fun a w h => ?_
           exact ⟨false, hp, h.at (js := []) (by kernel_rfl)⟩
       · refine SD.lay 48 [true, true, true, true, true, true, true, true, true, true, true, false, false, false, false, false, false, false, false, false, false, false, false, false, false, false, false, false, false, false, false, false, false, false, false, false, false, false, false, false, false, false, false, false, false, false, false, false, false, false, false, false, false, false, false, false, false, false, false] [(1, vs 1), (7, vs 4), (57, vb ((x_6.1 == 4) && x_6.2)), (61, vs 6), (62, vs 7)] [.rd 4 R_T_api_Service x_1, .rd 5 R_T_api_Attribute x_2.1, .rd 5 R_T_api_Attribute x_3.1, .rd 5 R_T_api_Attribute x_4.1, .rd 6 R_T_api_Found x_5, .gone, .rd 1 R8 x_571.Value, .own 1 5 R8 [1, 24]] ?_ (fun c_10_1 => ?_)
         · refine SD.all1 (i := 11) (by kernel_rfl) ?_
           refine SW.eff D_9 (i := 11) (bs' := [true, true, true, true, true, true, true, true, true, true, true, true, false, false, false, false, false, false, false, false, false, false, false, false, false, false, false, false, false, false, false, false, false, false, false, false, false, false, false, false, false, false, false, false, false, false, false, false, false, false, false, false, false, false, false, false, false, false, false]) rfl (.inr ⟨_, _, _, _, rfl, rfl, rfl, hg_10⟩) rfl (e_c Try.call33 (ok_wirelessref23_Same F x_571.Value [1, 24] _ e_x_891) [.g 6, .l 7] [vs 6, vs 7] (vb x_891) (by kernel_rfl) (.inr ⟨trivial, trivial, trivial⟩)) (by kernel_rfl) rfl (by kernel_rfl) ?_
           refine SD.takes tk D_9 [(57, true)] (knS rfl hg_10 kn0) [12, 13] [] [] [true, true, true, true, true, true, true, true, true, true, true, true, true, true, false, false, false, false, false, false, false, false, false, false, false, false, false, false, false, false, false, false, false, false, false, false, false, false, false, false, false, false, false, false, false, false, false, false, false, false, false, false, false, false, false, false, false, false, false] [(1, vs 1), (7, vs 4), (65, vb x_891)] rfl (by kernel_rfl) (by kernel_rfl) (by kernel_rfl) ?_
           exact SD.vie D_9 [.g 0, .g 1, .g 2, .g 3, .g 4] c_10_0 (by kernel_rfl)
         · refine SD.lay 49 [true, true, true, true, true, true, true, true, true, true, false, false, false, false, false, false, false, false, false, false, false, false, false, false, false, false, false, false, false, false, false, false, false, false, false, false, false, false, false, false, false, false, false, false, false, false, false, false, false, false, false, false, false, false, false, false, false, false, false] [(1, vs 1), (7, vs 4), (57, vb ((x_6.1 == 4) && x_6.2)), (61, vs 6)] [.rd 4 R_T_api_Service x_1, .rd 5 R_T_api_Attribute x_2.1, .rd 5 R_T_api_Attribute x_3.1, .rd 5 R_T_api_Attribute x_4.1, .rd 6 R_T_api_Found x_5, .gone, .rd 1 R8 x_571.Value] ?_ (fun c_10_2 => ?_)
           · refine SD.all1 (i := 10) (by kernel_rfl) ?_
             refine SW.eff D_9 (i := 10) (bs' := [true, true, true, true, true, true, true, true, true, true, true, false, false, false, false, false, false, false, false, false, false, false, false, false, false, false, false, false, false, false, false, false, false, false, false, false, false, false, false, false, false, false, false, false, false, false, false, false, false, false, false, false, false, false, false, false, false, false, false]) rfl (.inr ⟨_, _, _, _, rfl, rfl, rfl, hg_10⟩) rfl (e_lit (sz := 1) (E := 5) (R := R8) (by_ := 1) tk [[ci .u8 1], [ci .u8 24]] [1, 24] (by kernel_rfl) ⟨Clo.int, ⟨Clo.int, trivial⟩⟩ rfl (by kernel_rfl) (by kernel_rfl)) (by kernel_rfl) rfl (by kernel_rfl) ?_
             exact SD.vie D_9 [.g 0, .g 1, .g 2, .g 3, .g 4, .n, .g 6, .g 7] c_10_1 (by kernel_rfl)
           · refine SD.lay 49 [true, true, true, true, true, true, true, true, true, false, true, false, false, false, false, false, false, false, false, false, false, false, false, false, false, false, false, false, false, false, false, false, false, false, false, false, false, false, false, false, false, false, false, false, false, false, false, false, false, false, false, false, false, false, false, false, false, false, false] [(1, vs 1), (7, vs 4), (57, vb ((x_6.1 == 4) && x_6.2)), (60, vp 5 4), (62, vs 7)] [.rd 4 R_T_api_Service x_1, .rd 5 R_T_api_Attribute x_2.1, .rd 5 R_T_api_Attribute x_3.1, .rd 5 R_T_api_Attribute x_4.1, .rd 6 R_T_api_Found x_5, .elt none false (C_api_Attribute x_571 (.s 6)), .rd 1 R8 x_571.Value, .own 1 5 R8 [1, 24]] ?_ (fun c_10_3 => ?_)
             · refine SD.all1 (i := 9) (by kernel_rfl) ?_
               refine SW.eff D_9 (i := 9) (v := vs 6) (bs' := [true, true, true, true, true, true, true, true, true, true, true, false, false, false, false, false, false, false, false, false, false, false, false, false, false, false, false, false, false, false, false, false, false, false, false, false, false, false, false, false, false, false, false, false, false, false, false, false, false, false, false, false, false, false, false, false, false, false, false]) rfl (.inr ⟨_, _, _, _, rfl, rfl, rfl, hg_10⟩) rfl (e_val tk (by kernel_rfl)) (by kernel_rfl) rfl (by kernel_rfl) ?_
               exact SD.vie D_9 [.g 0, .g 1, .g 2, .g 3, .g 4, .n, .g 6, .g 7] c_10_1 (by kernel_rfl)
             · refine SD.lay 50 [true, true, true, true, true, true, true, true, true, false, false, false, false, false, false, false, false, false, false, false, false, false, false, false, false, false, false, false, false, false, false, false, false, false, false, false, false, false, false, false, false, false, false, false, false, false, false, false, false, false, false, false, false, false, false, false, false, false, false] [(1, vs 1), (7, vs 4), (57, vb ((x_6.1 == 4) && x_6.2)), (60, vp 5 4)] [.rd 4 R_T_api_Service x_1, .rd 5 R_T_api_Attribute x_2.1, .rd 5 R_T_api_Attribute x_3.1, .rd 5 R_T_api_Attribute x_4.1, .rd 6 R_T_api_Found x_5, .elt none false (C_api_Attribute x_571 (.s 6)), .rd 1 R8 x_571.Value] ?_ (fun c_10_4 => ?_)
               · refine SD.all2 (i := 9) (j := 10) (by kernel_rfl) ?_ ?_
                 · refine SW.eff D_9 (i := 9) (v := vs 6) (bs' := [true, true, true, true, true, true, true, true, true, true, false, false, false, false, false, false, false, false, false, false, false, false, false, false, false, false, false, false, false, false, false, false, false, false, false, false, false, false, false, false, false, false, false, false, false, false, false, false, false, false, false, false, false, false, false, false, false, false, false]) rfl (.inr ⟨_, _, _, _, rfl, rfl, rfl, hg_10⟩) rfl (e_val tk (by kernel_rfl)) (by kernel_rfl) rfl (by kernel_rfl) ?_
                   exact SD.vie D_9 [.g 0, .g 1, .g 2, .g 3, .g 4, .n, .g 6] c_10_2 (by kernel_rfl)
                 · refine SW.eff D_9 (i := 10) (bs' := [true, true, true, true, true, true, true, true, true, false, true, false, false, false, false, false, false, false, false, false, false, false, false, false, false, false, false, false, false, false, false, false, false, false, false, false, false, false, false, false, false, false, false, false, false, false, false, false, false, false, false, false, false, false, false, false, false, false, false]) rfl (.inr ⟨_, _, _, _, rfl, rfl, rfl, hg_10⟩) rfl (e_lit (sz := 1) (E := 5) (R := R8) (by_ := 1) tk [[ci .u8 1], [ci .u8 24]] [1, 24] (by kernel_rfl) ⟨Clo.int, ⟨Clo.int, trivial⟩⟩ rfl (by kernel_rfl) (by kernel_rfl)) (by kernel_rfl) rfl (by kernel_rfl) ?_
                   exact SD.vie D_9 [.g 0, .g 1, .g 2, .g 3, .g 4, .g 5, .g 6, .g 7] c_10_3 (by kernel_rfl)
               · refine SD.lay 50 [true, true, true, true, true, true, true, true, false, false, true, false, false, false, false, false, false, false, false, false, false, false, false, false, false, false, false, false, false, false, false, false, false, false, false, false, false, false, false, false, false, false, false, false, false, false, false, false, false, false, false, false, false, false, false, false, false, false, false] [(1, vs 1), (7, vs 4), (57, vb ((x_6.1 == 4) && x_6.2)), (59, vp 5 0), (62, vs 7)] [.rd 4 R_T_api_Service x_1, .rd 5 R_T_api_Attribute x_2.1, .rd 5 R_T_api_Attribute x_3.1, .rd 5 R_T_api_Attribute x_4.1, .rd 6 R_T_api_Found x_5, .elt none false (C_api_Attribute x_571 (.s 6)), .rd 1 R8 x_571.Value, .own 1 5 R8 [1, 24]] ?_ (fun c_10_5 => ?_)
                 · refine SD.all1 (i := 8) (by kernel_rfl) ?_
                   refine SW.eff D_9 (i := 8) (v := vp 5 4) (bs' := [true, true, true, true, true, true, true, true, true, false, true, false, false, false, false, false, false, false, false, false, false, false, false, false, false, false, false, false, false, false, false, false, false, false, false, false, false, false, false, false, false, false, false, false, false, false, false, false, false, false, false, false, false, false, false, false, false, false, false]) rfl (.inr ⟨_, _, _, _, rfl, rfl, rfl, hg_10⟩) rfl (e_val tk (by kernel_rfl)) (by kernel_rfl) rfl (by kernel_rfl) ?_
                   exact SD.vie D_9 [.g 0, .g 1, .g 2, .g 3, .g 4, .g 5, .g 6, .g 7] c_10_3 (by kernel_rfl)
                 · refine SD.lay 51 [true, true, true, true, true, true, true, true, false, false, false, false, false, false, false, false, false, false, false, false, false, false, false, false, false, false, false, false, false, false, false, false, false, false, false, false, false, false, false, false, false, false, false, false, false, false, false, false, false, false, false, false, false, false, false, false, false, false, false] [(1, vs 1), (7, vs 4), (57, vb ((x_6.1 == 4) && x_6.2)), (59, vp 5 0)] [.rd 4 R_T_api_Service x_1, .rd 5 R_T_api_Attribute x_2.1, .rd 5 R_T_api_Attribute x_3.1, .rd 5 R_T_api_Attribute x_4.1, .rd 6 R_T_api_Found x_5, .elt none false (C_api_Attribute x_571 (.s 6)), .rd 1 R8 x_571.Value] ?_ (fun c_10_6 => ?_)
                   · refine SD.all2 (i := 8) (j := 10) (by kernel_rfl) ?_ ?_
                     · refine SW.eff D_9 (i := 8) (v := vp 5 4) (bs' := [true, true, true, true, true, true, true, true, true, false, false, false, false, false, false, false, false, false, false, false, false, false, false, false, false, false, false, false, false, false, false, false, false, false, false, false, false, false, false, false, false, false, false, false, false, false, false, false, false, false, false, false, false, false, false, false, false, false, false]) rfl (.inr ⟨_, _, _, _, rfl, rfl, rfl, hg_10⟩) rfl (e_val tk (by kernel_rfl)) (by kernel_rfl) rfl (by kernel_rfl) ?_
                       exact SD.vie D_9 [.g 0, .g 1, .g 2, .g 3, .g 4, .g 5, .g 6] c_10_4 (by kernel_rfl)
                     · refine SW.eff D_9 (i := 10) (bs' := [true, true, true, true, true, true, true, true, false, false, true, false, false, false, false, false, false, false, false, false, false, false, false, false, false, false, false, false, false, false, false, false, false, false, false, false, false, false, false, false, false, false, false, false, false, false, false, false, false, false, false, false, false, false, false, false, false, false, false]) rfl (.inr ⟨_, _, _, _, rfl, rfl, rfl, hg_10⟩) rfl (e_lit (sz := 1) (E := 5) (R := R8) (by_ := 1) tk [[ci .u8 1], [ci .u8 24]] [1, 24] (by kernel_rfl) ⟨Clo.int, ⟨Clo.int, trivial⟩⟩ rfl (by kernel_rfl) (by kernel_rfl)) (by kernel_rfl) rfl (by kernel_rfl) ?_
                       exact SD.vie D_9 [.g 0, .g 1, .g 2, .g 3, .g 4, .g 5, .g 6, .g 7] c_10_5 (by kernel_rfl)
                   · refine SD.lay 51 [true, true, true, true, true, true, true, false, false, false, true, false, false, false, false, false, false, false, false, false, false, false, false, false, false, false, false, false, false, false, false, false, false, false, false, false, false, false, false, false, false, false, false, false, false, false, false, false, false, false, false, false, false, false, false, false, false, false, false] [(1, vs 1), (7, vs 4), (57, vb ((x_6.1 == 4) && x_6.2)), (58, vs 1), (62, vs 5)] [.rd 4 R_T_api_Service x_1, .rd 5 R_T_api_Attribute x_2.1, .rd 5 R_T_api_Attribute x_3.1, .rd 5 R_T_api_Attribute x_4.1, .rd 6 R_T_api_Found x_5, .own 1 5 R8 [1, 24]] ?_ (fun c_10_7 => ?_)
                     · refine SD.pre (pre_ix (i := 1) (iv := 0) (sz := 5) (R := R_T_api_Attribute) (l := x_2.1) (by kernel_rfl) rfl e_x_571) ?_
                       refine SD.all1 (i := 7) (by kernel_rfl) ?_
                       refine SW.eff D_9 (i := 7) (v := vp 6 0) (bs' := [true, true, true, true, true, true, true, true, false, false, true, false, false, false, false, false, false, false, false, false, false, false, false, false, false, false, false, false, false, false, false, false, false, false, false, false, false, false, false, false, false, false, false, false, false, false, false, false, false, false, false, false, false, false, false, false, false, false, false]) rfl (.inr ⟨_, _, _, _, rfl, rfl, rfl, hg_10⟩) rfl (e_valE tk (.el 6) [0] (by kernel_rfl)) (by kernel_rfl) rfl (by kernel_rfl) ?_
                       exact SD.vie D_9 [.g 0, .g 1, .g 2, .g 3, .g 4, .g 6, .g 7, .g 5] c_10_5 (by kernel_rfl)
                     · refine SD.all2 (i := 7) (j := 10) (by kernel_rfl) ?_ ?_
                       · refine SW.pre (pre_ix (i := 1) (iv := 0) (sz := 5) (R := R_T_api_Attribute) (l := x_2.1) (by kernel_rfl) rfl e_x_571) ?_
                         refine SW.eff D_9 (i := 7) (v := vp 5 0) (bs' := [true, true, true, true, true, true, true, true, false, false, false, false, false, false, false, false, false, false, false, false, false, false, false, false, false, false, false, false, false, false, false, false, false, false, false, false, false, false, false, false, false, false, false, false, false, false, false, false, false, false, false, false, false, false, false, false, false, false, false]) rfl (.inr ⟨_, _, _, _, rfl, rfl, rfl, hg_10⟩) rfl (e_valE tk (.el 5) [0] (by kernel_rfl)) (by kernel_rfl) rfl (by kernel_rfl) ?_
                         exact SD.vie D_9 [.g 0, .g 1, .g 2, .g 3, .g 4, .g 5, .g 6] c_10_6 (by kernel_rfl)
                       · refine SW.eff D_9 (i := 10) (bs' := [true, true, true, true, true, true, true, false, false, false, true, false, false, false, false, false, false, false, false, false, false, false, false, false, false, false, false, false, false, false, false, false, false, false, false, false, false, false, false, false, false, false, false, false, false, false, false, false, false, false, false, false, false, false, false, false, false, false, false]) rfl (.inr ⟨_, _, _, _, rfl, rfl, rfl, hg_10⟩) rfl (e_lit (sz := 1) (E := 5) (R := R8) (by_ := 1) tk [[ci .u8 1], [ci .u8 24]] [1, 24] (by kernel_rfl) ⟨Clo.int, ⟨Clo.int, trivial⟩⟩ rfl (by kernel_rfl) (by kernel_rfl)) (by kernel_rfl) rfl (by kernel_rfl) ?_
                         exact SD.vie D_9 [.g 0, .g 1, .g 2, .g 3, .g 4, .g 5] c_10_7 (by kernel_rfl)
     · replace hp := if_f hp hg_10
       refine SD.takes tk D_9 [(57, false)] (knS rfl hg_10 kn0) [6, 7, 8, 9, 10, 11, 12, 13] [] [] [true, true, true, true, true, true, true, true, true, true, true, true, true, true, false, false, false, false, false, false, false, false, false, false, false, false, false, false, false, false, false, false, false, false, false, false, false, false, false, false, false, false, false, false, false, false, false, false, false, false, false, false, false, false, false, false, false, false, false] [(1, vs 1), (7, vs 4), (65, vb false)] rfl (by kernel_rfl) (by kernel_rfl) (by kernel_rfl) ?_
       refine SD.takes tk D_9 [(65, false)] (knS rfl rfl kn0) [14, 15, 16, 17, 18, 19, 20, 21] [] [] [true, true, true, true, true, true, true, true, true, true, true, true, true, true, true, true, true, true, true, true, true, true, false, false, false, false, false, false, false, false, false, false, false, false, false, false, false, false, false, false, false, false, false, false, false, false, false, false, false, false, false, false, false, false, false, false, false, false, false] [(1, vs 1), (7, vs 4), (73, vb false)] rfl (by kernel_rfl) (by kernel_rfl) (by kernel_rfl) ?_
       refine SD.takes tk D_9 [(73, false)] (knS rfl rfl kn0) [22, 23, 24, 25, 26, 27, 28, 29] [] [] [true, true, true, true, true, true, true, true, true, true, true, true, true, true, true, true, true, true, true, true, true, true, true, true, true, true, true, true, true, true, false, false, false, false, false, false, false, false, false, false, false, false, false, false, false, false, false, false, false, false, false, false, false, false, false, false, false, false, false] [(1, vs 1), (7, vs 4), (81, vb false)] rfl (by kernel_rfl) (by kernel_rfl) (by kernel_rfl) ?_
       refine SD.takes tk D_9 [(81, false)] (knS rfl rfl kn0) [30, 31, 32, 33, 34, 35, 36, 37] [] [] [true, true, true, true, true, true, true, true, true, true, true, true, true, true, true, true, true, true, true, true, true, true, true, true, true, true, true, true, true, true, true, true, true, true, true, true, true, true, false, false, false, false, false, false, false, false, false, false, false, false, false, false, false, false, false, false, false, false, false] [(1, vs 1), (7, vs 4), (89, vb false)] rfl (by kernel_rfl) (by kernel_rfl) (by kernel_rfl) ?_
       refine SD.takes tk D_9 [(89, false)] (knS rfl rfl kn0) [38, 39, 40, 41, 42, 43, 44, 45] [] [] [true, true, true, true, true, true, true, true, true, true, true, true, true, true, true, true, true, true, true, true, true, true, true, true, true, true, true, true, true, true, true, true, true, true, true, true, true, true, true, true, true, true, true, true, true, true, false, false, false, false, false, false, false, false, false, false, false, false, false] [(1, vs 1), (7, vs 4), (97, vb false)] rfl (by kernel_rfl) (by kernel_rfl) (by kernel_rfl) ?_
       refine SD.takes tk D_9 [(97, false)] (knS rfl rfl kn0) [46, 47, 48, 49, 50, 51, 52, 53] [] [] [true, true, true, true, true, true, true, true, true, true, true, true, true, true, true, true, true, true, true, true, true, true, true, true, true, true, true, true, true, true, true, true, true, true, true, true, true, true, true, true, true, true, true, true, true, true, true, true, true, true, true, true, true, true, false, false, false, false, false] [(1, vs 1), (105, vb false)] rfl (by kernel_rfl) (by kernel_rfl) (by kernel_rfl) ?_
       refine SD.takes tk D_9 [(105, false)] (knS rfl rfl kn0) [54, 55, 56, 57, 58] [] [] [true, true, true, true, true, true, true, true, true, true, true, true, true, true, true, true, true, true, true, true, true, true, true, true, true, true, true, true, true, true, true, true, true, true, true, true, true, true, true, true, true, true, true, true, true, true, true, true, true, true, true, true, true, true, true, true, true, true, true] [(0, vb false)] rfl (by kernel_rfl) (by kernel_rfl) (by kernel_rfl) ?_
       refine SD.done (by kernel_rfl) fun a w h => ?_
       exact ⟨false, hp, h.at (js := []) (by kernel_rfl)⟩
   · rintro a w ⟨z_7, hp, h⟩
     refine h.go ?_
     obtain rfl := some_inv' hp
     exact SC.re (js := []) tk (by kernel_rfl)

theorem ok_wirelessref43_Is (F : Nat) (t_1 : T_api_UUID) (n_2 : Int) (r : Bool) (hp : wirelessref43_Is F t_1 n_2 = some r) : Spec Try.prog 71 [.g (C_api_UUID t_1), vi .u16 n_2] [] (vb r) [] := by
 refine Spec.enter Try.func71 rfl Try.ntmps71 rfl rfl fun fx => ?_
 refine SC.seq ?_
 refine SC.reg ?_
 refine SL.eff (e_box (E := 36) (C_api_UUID t_1) (by kernel_rfl)) rfl (by kernel_rfl) ?_
 refine SL.sim tk 1 [(1, vi .u16 n_2), (2, vp 0 0)] [] [] [] (by kernel_rfl) ?_
 refine SL.nilThen ?_
 refine SC.cut (fun a w => ∃ (z_3 : Bool), wirelessref43_Is_j1 F z_3 = some r ∧ A 9 0 fx [(4, vb z_3)] [] a w) ?_ ?_
 · refine SC.draw MO [true] (by kernel_rfl) fun kap_4 D_5 => ?_
   refine SD.takes tk D_5 [] kn0 [0, 1] [] [] [true, true, false, false, false] [(5, .g (C_api_UUID t_1)), (6, vi .u16 n_2)] rfl (by kernel_rfl) (by kernel_rfl) (by kernel_rfl) ?_
   obtain ⟨x_6, e_x_6, hp⟩ := bind_inv hp
   refine SD.all1 (i := 2) (by kernel_rfl) ?_
   refine SW.eff D_5 (i := 2) (bs' := [true, true, true, false, false]) rfl (.inl rfl) rfl (e_c Try.call34 (ok_wirelessref41_Short F n_2 _ e_x_6) [] [vi .u16 n_2] (.g (C_api_UUID x_6)) (by kernel_rfl) (.inl rfl)) (by kernel_rfl) rfl (by kernel_rfl) ?_
   refine SD.all1 (i := 3) (by kernel_rfl) ?_
   refine SW.eff D_5 (i := 3) (bs' := [true, true, true, true, false]) rfl (.inl rfl) rfl (e_eqs tk (cs := (C_api_UUID t_1)) (ds := (C_api_UUID x_6)) [(t_1.High == x_6.High), (t_1.Low == x_6.Low)] ((t_1.High == x_6.High) && (t_1.Low == x_6.Low)) rfl rfl (by kernel_rfl) (by kernel_rfl) (by kernel_rfl) (.inl ⟨rfl, (by kernel_rfl)⟩)) (by kernel_rfl) rfl (by kernel_rfl) ?_
   refine SD.norm (itsN := [.blk 36 (C_api_UUID t_1)]) (by kernel_rfl) ?_
   refine SD.takes tk D_5 [] kn0 [4] [] [] [true, true, true, true, true] [(4, vb ((t_1.High == x_6.High) && (t_1.Low == x_6.Low)))] rfl (by kernel_rfl) (by kernel_rfl) (by kernel_rfl) ?_
   refine SD.done (by kernel_rfl) fun a w h => ?_
   exact ⟨((t_1.High == x_6.High) && (t_1.Low == x_6.Low)), hp, h.at (js := []) (by kernel_rfl)⟩
 · rintro a w ⟨z_3, hp, h⟩
   refine h.go ?_
   obtain rfl := some_inv' hp
   exact SC.re (js := []) tk (by kernel_rfl)

theorem ok_wirelessref43_declares (F : Nat) (t_1 : T_api_UUID) (r : Bool) (hp : wirelessref43_declares F t_1 = some r) : Spec Try.prog 63 [.g (C_api_UUID t_1)] [] (vb r) [] := by
 refine Spec.enter Try.func63 rfl Try.ntmps63 rfl rfl fun fx => ?_
 refine SC.seq ?_
 refine SC.reg ?_
 refine SL.eff (e_box (E := 36) (C_api_UUID t_1) (by kernel_rfl)) rfl (by kernel_rfl) ?_
 refine SL.sim tk 1 [(1, vp 0 0)] [] [] [] (by kernel_rfl) ?_
 refine SL.nilThen ?_
 refine SC.seq ?_
 refine SC.reg ?_
 refine SL.sim tk 1 [(1, vp 0 0), (3, .g (C_api_UUID t_1))] [] [] [] (by kernel_rfl) ?_
 obtain ⟨x_2, e_x_2, hp⟩ := bind_inv hp
 refine SL.eff (e_c Try.call71 (ok_wirelessref43_Is F t_1 10240 _ e_x_2) [] [.g (C_api_UUID t_1), vi .u16 10240] (vb x_2) (by kernel_rfl) (.inl rfl)) rfl (by kernel_rfl) ?_
 refine SL.sim tk 1 [(1, vp 0 0), (5, vb x_2)] [] [] [] (by kernel_rfl) ?_
 obtain ⟨z_4, hz, hpr⟩ := bind_inv hp
 clear hp
 refine SL.cutAt 3 (fun a w => A 17 0 fx [(1, vp 0 0), (8, vb z_4)] [.blk 36 (C_api_UUID t_1)] a w) ?_ ?_
 · have hp := hz
   rcases Bool.eq_false_or_eq_true (x_2) with hg_3 | hg_3
   · replace hp := if_t hp hg_3
     refine SL.no rfl rfl hg_3 rfl ?_
     refine SL.no rfl rfl hg_3 rfl ?_
     refine SL.pickt rfl hg_3 rfl rfl ?_
     refine SL.nilJ fun a w h => ?_
     obtain rfl := some_inv' hp
     exact h.at (js := [.g 0]) (by kernel_rfl)
   · replace hp := if_f hp hg_3
     refine SL.yes rfl rfl hg_3 ?_
     refine SL.sim tk 1 [(1, vp 0 0), (5, vb x_2), (6, .g (C_api_UUID t_1))] [] [] [] (by kernel_rfl) ?_
     refine SL.yes rfl rfl hg_3 ?_
     obtain ⟨x_14, e_x_14, hp⟩ := bind_inv hp
     refine SL.eff (e_c Try.call71 (ok_wirelessref43_Is F t_1 10241 _ e_x_14) [] [.g (C_api_UUID t_1), vi .u16 10241] (vb x_14) (by kernel_rfl) (.inl rfl)) rfl (by kernel_rfl) ?_
     refine SL.norm (itsN := [.blk 36 (C_api_UUID t_1)]) (by kernel_rfl) ?_
     refine SL.pickf rfl hg_3 rfl rfl ?_
     refine SL.nilJ fun a w h => ?_
     obtain rfl := some_inv' hp
     exact h.at (js := [.g 0]) (by kernel_rfl)
 · intro a w h
   have hp := hpr; clear hpr hz
   refine h.goL ?_
   refine SL.sim tk 1 [(1, vp 0 0), (9, vb z_4)] [] [] [] (by kernel_rfl) ?_
   obtain ⟨z_6, hz, hpr⟩ := bind_inv hp
   clear hp
   refine SL.cutAt 3 (fun a w => A 17 0 fx [(1, vp 0 0), (12, vb z_6)] [.blk 36 (C_api_UUID t_1)] a w) ?_ ?_
   · have hp := hz
     rcases Bool.eq_false_or_eq_true (z_4) with hg_5 | hg_5
     · replace hp := if_t hp hg_5
       refine SL.no rfl rfl hg_5 rfl ?_
       refine SL.no rfl rfl hg_5 rfl ?_
       refine SL.pickt rfl hg_5 rfl rfl ?_
       refine SL.nilJ fun a w h => ?_
       obtain rfl := some_inv' hp
       exact h.at (js := [.g 0]) (by kernel_rfl)
     · replace hp := if_f hp hg_5
       refine SL.yes rfl rfl hg_5 ?_
       refine SL.sim tk 1 [(1, vp 0 0), (9, vb z_4), (10, .g (C_api_UUID t_1))] [] [] [] (by kernel_rfl) ?_
       refine SL.yes rfl rfl hg_5 ?_
       obtain ⟨x_12, e_x_12, hp⟩ := bind_inv hp
       refine SL.eff (e_c Try.call71 (ok_wirelessref43_Is F t_1 10242 _ e_x_12) [] [.g (C_api_UUID t_1), vi .u16 10242] (vb x_12) (by kernel_rfl) (.inl rfl)) rfl (by kernel_rfl) ?_
       refine SL.pickf rfl hg_5 rfl rfl ?_
       refine SL.nilJ fun a w h => ?_
       obtain rfl := some_inv' hp
       exact h.at (js := [.g 0]) (by kernel_rfl)
   · intro a w h
     have hp := hpr; clear hpr hz
     refine h.goL ?_
     refine SL.sim tk 1 [(1, vp 0 0), (13, vb z_6)] [] [] [] (by kernel_rfl) ?_
     obtain ⟨z_8, hz, hpr⟩ := bind_inv hp
     clear hp
     refine SL.cutAt 3 (fun a w => A 17 0 fx [(16, vb z_8)] [] a w) ?_ ?_
     · have hp := hz
       rcases Bool.eq_false_or_eq_true (z_6) with hg_7 | hg_7
       · replace hp := if_t hp hg_7
         refine SL.no rfl rfl hg_7 rfl ?_
         refine SL.no rfl rfl hg_7 rfl ?_
         refine SL.pickt rfl hg_7 rfl rfl ?_
         refine SL.nilJ fun a w h => ?_
         obtain rfl := some_inv' hp
         exact h.at (js := []) (by kernel_rfl)
       · replace hp := if_f hp hg_7
         refine SL.yes rfl rfl hg_7 ?_
         refine SL.sim tk 1 [(13, vb z_6), (14, .g (C_api_UUID t_1))] [] [] [] (by kernel_rfl) ?_
         refine SL.yes rfl rfl hg_7 ?_
         obtain ⟨x_10, e_x_10, hp⟩ := bind_inv hp
         refine SL.eff (e_c Try.call71 (ok_wirelessref43_Is F t_1 10243 _ e_x_10) [] [.g (C_api_UUID t_1), vi .u16 10243] (vb x_10) (by kernel_rfl) (.inl rfl)) rfl (by kernel_rfl) ?_
         refine SL.pickf rfl hg_7 rfl rfl ?_
         refine SL.nilJ fun a w h => ?_
         obtain rfl := some_inv' hp
         exact h.at (js := []) (by kernel_rfl)
     · intro a w h
       have hp := hpr; clear hpr hz
       refine h.goL ?_
       refine SL.sim tk 1 [(2, vb z_8)] [] [] [] (by kernel_rfl) ?_
       refine SL.nilThen ?_
       obtain rfl := some_inv' hp
       exact SC.re (js := []) tk (by kernel_rfl)

theorem ok_wirelessref43_kept (F : Nat) (t_1 : T_api_UUID) (r : Bool) (hp : wirelessref43_kept F t_1 = some r) : Spec Try.prog 67 [.g (C_api_UUID t_1)] [] (vb r) [] := by
 refine Spec.enter Try.func67 rfl Try.ntmps67 rfl rfl fun fx => ?_
 refine SC.seq ?_
 refine SC.reg ?_
 refine SL.eff (e_box (E := 36) (C_api_UUID t_1) (by kernel_rfl)) rfl (by kernel_rfl) ?_
 refine SL.sim tk 1 [(1, vp 0 0)] [] [] [] (by kernel_rfl) ?_
 refine SL.nilThen ?_
 refine SC.seq ?_
 refine SC.reg ?_
 refine SL.sim tk 1 [(1, vp 0 0), (3, .g (C_api_UUID t_1))] [] [] [] (by kernel_rfl) ?_
 obtain ⟨x_2, e_x_2, hp⟩ := bind_inv hp
 refine SL.eff (e_c Try.call63 (ok_wirelessref43_declares F t_1 _ e_x_2) [] [.g (C_api_UUID t_1)] (vb x_2) (by kernel_rfl) (.inl rfl)) rfl (by kernel_rfl) ?_
 refine SL.sim tk 1 [(1, vp 0 0), (5, vb x_2)] [] [] [] (by kernel_rfl) ?_
 obtain ⟨z_4, hz, hpr⟩ := bind_inv hp
 clear hp
 refine SL.cutAt 3 (fun a w => A 9 0 fx [(8, vb z_4)] [] a w) ?_ ?_
 · have hp := hz
   rcases Bool.eq_false_or_eq_true (x_2) with hg_3 | hg_3
   · replace hp := if_t hp hg_3
     refine SL.no rfl rfl hg_3 rfl ?_
     refine SL.no rfl rfl hg_3 rfl ?_
     refine SL.pickt rfl hg_3 rfl rfl ?_
     refine SL.nilJ fun a w h => ?_
     obtain rfl := some_inv' hp
     exact h.at (js := []) (by kernel_rfl)
   · replace hp := if_f hp hg_3
     refine SL.yes rfl rfl hg_3 ?_
     refine SL.sim tk 1 [(5, vb x_2), (6, .g (C_api_UUID t_1))] [] [] [] (by kernel_rfl) ?_
     refine SL.yes rfl rfl hg_3 ?_
     obtain ⟨x_6, e_x_6, hp⟩ := bind_inv hp
     refine SL.eff (e_c Try.call71 (ok_wirelessref43_Is F t_1 10498 _ e_x_6) [] [.g (C_api_UUID t_1), vi .u16 10498] (vb x_6) (by kernel_rfl) (.inl rfl)) rfl (by kernel_rfl) ?_
     refine SL.norm (itsN := [.blk 36 (C_api_UUID t_1)]) (by kernel_rfl) ?_
     refine SL.pickf rfl hg_3 rfl rfl ?_
     refine SL.nilJ fun a w h => ?_
     obtain rfl := some_inv' hp
     exact h.at (js := []) (by kernel_rfl)
 · intro a w h
   have hp := hpr; clear hpr hz
   refine h.goL ?_
   refine SL.sim tk 1 [(2, vb z_4)] [] [] [] (by kernel_rfl) ?_
   refine SL.nilThen ?_
   obtain rfl := some_inv' hp
   exact SC.re (js := []) tk (by kernel_rfl)

theorem ok_wirelessref43_part (F : Nat) (t_1 : T_api_UUID) (props_2 : Int) (perms_3 : Int) (value_4 : (List Int)) (r : Int) (hp : wirelessref43_part F t_1 props_2 perms_3 value_4 = some r) : Spec Try.prog 75 [.g (C_api_UUID t_1), vi .i64 props_2, vi .i64 perms_3, vs 0] [.rd 1 R8 value_4] (vi .i64 r) [.gone] := by
 refine Spec.enter Try.func75 rfl Try.ntmps75 rfl rfl fun fx => ?_
 refine SC.seq ?_
 refine SC.reg ?_
 refine SL.eff (e_box (E := 36) (C_api_UUID t_1) (by kernel_rfl)) rfl (by kernel_rfl) ?_
 refine SL.sim tk 1 [(1, vi .i64 props_2), (2, vi .i64 perms_3), (3, vs 0), (4, vp 1 0)] [] [] [] (by kernel_rfl) ?_
 refine SL.nilThen ?_
 refine SC.seq ?_
 refine SC.seq ?_
 refine SC.reg ?_
 refine SL.sim tk 1 [(1, vi .i64 props_2), (2, vi .i64 perms_3), (3, vs 0), (9, .g (C_api_UUID t_1))] [] [] [] (by kernel_rfl) ?_
 obtain ⟨x_5, e_x_5, hp⟩ := bind_inv hp
 refine SL.eff (e_c Try.call67 (ok_wirelessref43_kept F t_1 _ e_x_5) [] [.g (C_api_UUID t_1)] (vb x_5) (by kernel_rfl) (.inl rfl)) rfl (by kernel_rfl) ?_
 refine SL.nilThen ?_
 refine SC.if' rfl hp (fun hp => ?_) (fun hp => ?_)
 · refine SC.r tk [(8, vi .i64 1)] [] [] [] (by kernel_rfl) ?_
   obtain rfl := some_inv' hp
   exact SC.re (js := [.g 0]) tk (by kernel_rfl)
 · refine SC.skipThen ?_
   refine SC.seq ?_
   refine SC.r tk [(3, vs 0), (24, vb ((((decide (props_2 < 0)) || (decide (props_2 > 255))) || (decide (perms_3 < 0))) || (decide (perms_3 > 15))))] [] [] [] (by kernel_rfl) ?_
   refine SC.if' rfl hp (fun hp => ?_) (fun hp => ?_)
   · refine SC.r tk [(8, vi .i64 5)] [] [] [] (by kernel_rfl) ?_
     obtain rfl := some_inv' hp
     exact SC.re (js := [.g 0]) tk (by kernel_rfl)
   · refine SC.skipThen ?_
     refine SC.seq ?_
     refine SC.r tk [(27, vb (decide ((len value_4) > 512)))] [] [] [] (by kernel_rfl) ?_
     refine SC.if' rfl hp (fun hp => ?_) (fun hp => ?_)
     · refine SC.r tk [(8, vi .i64 4)] [] [] [] (by kernel_rfl) ?_
       obtain rfl := some_inv' hp
       exact SC.re (js := [.g 0]) tk (by kernel_rfl)
     · refine SC.skipThen ?_
       refine SC.r tk [(8, vi .i64 0)] [] [] [] (by kernel_rfl) ?_
       obtain rfl := some_inv' hp
       exact SC.re (js := [.g 0]) tk (by kernel_rfl)

theorem ok_wirelessref43_checkServices (F : Nat) (l_1 : (List T_api_Service)) (r : Int × Int) (hp : wirelessref43_checkServices F l_1 = some r) : Spec Try.prog 45 [vs 0] [.rd 4 R_T_api_Service l_1] (.u [.inl (ci .i64 r.1), .inl (ci .i64 r.2)]) [.gone] := by
 refine Spec.enter Try.func45 rfl Try.ntmps45 rfl rfl fun fx => ?_
 refine SC.r tk [(0, vs 0)] [] [] [] (by kernel_rfl) ?_
 refine SC.r tk [(0, vs 0), (4, vi .i64 0)] [] [] [] (by kernel_rfl) ?_
 refine SC.cut (fun a w => ∃ (x_2 : Int), wirelessref43_checkServices_j1 F x_2 = some r ∧ A 91 1 fx [(4, vi .i64 x_2)] [.gone] a w) ?_ ?_
 · refine SC.r tk [(0, vs 0), (4, vi .i64 0), (5, vi .i64 0)] [] [] [] (by kernel_rfl) ?_
   refine SC.block ?_
   obtain ⟨o1, hi1, ho1⟩ := bind_inv hp
   clear hp
   refine SC.loop (fun n a w => ∃ (x_3 : Int) (x_4 : Int), iter (fun s => wirelessref43_checkServices_l1 F l_1 s.1 s.2) n (x_3, x_4) = some o1 ∧ A 91 1 fx [(0, vs 0), (4, vi .i64 x_3), (5, vi .i64 x_4)] [.rd 4 R_T_api_Service l_1] a w) F (fun a w h => ⟨0, 0, hi1, h.at (js := [.g 0]) (by kernel_rfl)⟩) ?_
   rintro n1 a w ⟨x_3, x_4, hi1, h⟩
   obtain ⟨n1, q1, rfl, hp, hs1⟩ := iter_inv hi1
   replace hp : wirelessref43_checkServices_l1 F l_1 x_3 x_4 = some q1 := hp
   clear hi1
   refine h.go ?_
   refine SC.seq ?_
   refine SC.r tk [(0, vs 0), (4, vi .i64 x_3), (5, vi .i64 x_4), (14, vb (decide (x_4 < (len l_1))))] [] [] [] (by kernel_rfl) ?_
   refine SC.if' rfl hp (fun hp => ?_) (fun hp => ?_)
   · refine SC.skipThen ?_
     refine SC.cut (fun a w => ∃ (x_5 : Int), wirelessref43_checkServices_j2 F x_4 x_5 = some q1 ∧ A 91 1 fx [(0, vs 0), (4, vi .i64 x_5), (5, vi .i64 x_4)] [.rd 4 R_T_api_Service l_1] a w) ?_ ?_
     · refine SC.block ?_
       refine SC.r tk [(0, vs 0), (4, vi .i64 (w64 (x_3 + 1))), (5, vi .i64 x_4)] [] [] [] (by kernel_rfl) ?_
       refine SC.r tk [(0, vs 0), (4, vi .i64 (w64 (x_3 + 1))), (5, vi .i64 x_4), (6, vi .i64 0)] [] [] [] (by kernel_rfl) ?_
       refine SC.block ?_
       obtain ⟨o2, hi2, ho2⟩ := bind_inv hp
       clear hp
       refine SC.loop (fun n a w => ∃ (x_6 : Int) (x_7 : Int), iter (fun s => wirelessref43_checkServices_l2 F l_1 x_4 s.1 s.2) n (x_6, x_7) = some o2 ∧ A 91 1 fx [(0, vs 0), (4, vi .i64 x_6), (5, vi .i64 x_4), (6, vi .i64 x_7)] [.rd 4 R_T_api_Service l_1] a w) F (fun a w h => ⟨w64 (x_3 + 1), 0, hi2, h.at (js := [.g 0]) (by kernel_rfl)⟩) ?_
       rintro n2 a w ⟨x_6, x_7, hi2, h⟩
       obtain ⟨n2, q2, rfl, hp, hs2⟩ := iter_inv hi2
       replace hp : wirelessref43_checkServices_l2 F l_1 x_4 x_6 x_7 = some q2 := hp
       clear hi2
       refine h.go ?_
       refine SC.seq ?_
       obtain ⟨x_8, e_x_8, hp⟩ := bind_inv hp
       refine SC.pre (pre_ix (i := 0) (iv := x_4) (sz := 4) (R := R_T_api_Service) (l := l_1) (by kernel_rfl) rfl e_x_8) ?_
       refine SC.r tk [(0, vs 0), (4, vi .i64 x_6), (5, vi .i64 x_4), (6, vi .i64 x_7), (26, vb (decide (x_7 < (len x_8.Chars))))] [] [.el 1] [x_4] (by kernel_rfl) ?_
       refine SC.if' rfl hp (fun hp => ?_) (fun hp => ?_)
       · refine SC.skipThen ?_
         refine SC.cut (fun a w => ∃ (x_9 : Int), wirelessref43_checkServices_j3 F x_7 x_9 = some q2 ∧ A 91 1 fx [(0, vs 0), (4, vi .i64 x_9), (5, vi .i64 x_4), (6, vi .i64 x_7)] [.rd 4 R_T_api_Service l_1] a w) ?_ ?_
         · refine SC.block ?_
           refine SC.seq ?_
           refine SC.reg ?_
           obtain ⟨x_10, e_x_10, hp⟩ := bind_inv hp
           obtain ⟨x_11, e_x_11, hp⟩ := bind_inv hp
           refine SL.pre (pre_ix (i := 0) (iv := x_4) (sz := 4) (R := R_T_api_Service) (l := l_1) (by kernel_rfl) rfl e_x_10) ?_
           refine SL.pre (pre_ix (i := 4) (iv := x_7) (sz := 6) (R := R_T_api_Char) (l := x_10.Chars) (by kernel_rfl) rfl e_x_11) ?_
           refine SL.sim tk 8 [(0, vs 0), (4, vi .i64 x_6), (5, vi .i64 x_4), (6, vi .i64 x_7), (36, .g (C_api_Char x_11 (.s 6) (.s 7)))] [] [.el 3, .el 5] [x_4, x_7] (by kernel_rfl) ?_
           refine SL.eff (e_alloc (E := 48) tk [ci .u64 0, ci .u64 0, ci .i64 0, ci .i64 0, nl, nl] (by kernel_rfl)) rfl (by kernel_rfl) ?_
           refine SL.norm (itsN := [.rd 4 R_T_api_Service l_1, .elt (some (0, x_4)) false (C_api_Service x_8 (.s 2)), .rd 6 R_T_api_Char x_8.Chars, .elt (some (0, x_4)) false (C_api_Service x_10 (.s 4)), .rd 6 R_T_api_Char x_10.Chars, .elt (some (4, x_7)) false (C_api_Char x_11 (.s 6) (.s 7)), .rd 1 R8 x_11.Value, .rd 5 R_T_api_Attribute x_11.More, .blk 48 [ci .u64 0, ci .u64 0, ci .i64 0, ci .i64 0, nl, nl]]) (by kernel_rfl) ?_
           refine SL.sim tk 1 [(0, vs 0), (4, vi .i64 x_6), (5, vi .i64 x_4), (6, vi .i64 x_7), (7, vp 8 0)] [(8, 48, (C_api_Char x_11 (.s 6) (.s 7)))] [] [] (by kernel_rfl) ?_
           refine SL.nilThen ?_
           refine SC.seq ?_
           refine SC.seq ?_
           refine SC.reg ?_
           refine SL.sim tk 8 [(0, vs 0), (4, vi .i64 x_6), (5, vi .i64 x_4), (6, vi .i64 x_7), (7, vp 8 0), (38, .g (C_api_UUID x_11.f_Type)), (40, vi .i64 x_11.Props), (42, vi .i64 x_11.Perms), (44, vs 6)] [] [] [] (by kernel_rfl) ?_
           obtain ⟨x_12, e_x_12, hp⟩ := bind_inv hp
           refine SL.eff (e_c Try.call75 (ok_wirelessref43_part F x_11.f_Type x_11.Props x_11.Perms x_11.Value _ e_x_12) [.g 6] [.g (C_api_UUID x_11.f_Type), vi .i64 x_11.Props, vi .i64 x_11.Perms, vs 6] (vi .i64 x_12) (by kernel_rfl) (.inl rfl)) rfl (by kernel_rfl) ?_
           refine SL.sim tk 1 [(0, vs 0), (4, vi .i64 x_6), (5, vi .i64 x_4), (6, vi .i64 x_7), (7, vp 8 0), (8, vi .i64 x_12)] [] [] [] (by kernel_rfl) ?_
           refine SL.nilThen ?_
           refine SC.r tk [(0, vs 0), (4, vi .i64 x_6), (5, vi .i64 x_4), (6, vi .i64 x_7), (7, vp 8 0), (8, vi .i64 x_12), (47, vb (x_12 != 0))] [] [] [] (by kernel_rfl) ?_
           refine SC.if' rfl hp (fun hp => ?_) (fun hp => ?_)
           · refine SC.r tk [(2, vi .i64 0), (3, vi .i64 x_12)] [] [] [] (by kernel_rfl) ?_
             have ho := done_inv hp hs2
             replace hp := ho2
             try rw [ho] at hp
             have ho := done_inv hp hs1
             replace hp := ho1
             try rw [ho] at hp
             obtain rfl := some_inv' hp
             exact SC.re (js := [.g 0]) tk (by kernel_rfl)
           · refine SC.skipThen ?_
             refine SC.r tk [(0, vs 0), (4, vi .i64 (w64 ((w64 (x_6 + 2)) + (len x_11.More)))), (5, vi .i64 x_4), (6, vi .i64 x_7), (7, vp 8 0)] [] [] [] (by kernel_rfl) ?_
             refine SC.cut (fun a w => ∃ (x_13 : Int), wirelessref43_checkServices_j4 F x_7 x_11 x_13 = some q2 ∧ A 91 1 fx [(0, vs 0), (4, vi .i64 x_13), (5, vi .i64 x_4), (6, vi .i64 x_7), (7, vp 1 0)] [.rd 4 R_T_api_Service l_1, .blk 48 (C_api_Char x_11 (.s 2) (.s 3)), .rd 1 R8 x_11.Value, .rd 5 R_T_api_Attribute x_11.More] a w) ?_ ?_
             · refine SC.r tk [(0, vs 0), (4, vi .i64 (w64 ((w64 (x_6 + 2)) + (len x_11.More)))), (5, vi .i64 x_4), (6, vi .i64 x_7), (7, vp 8 0), (58, vb ((iand .i64 x_11.Props 48) != 0))] [] [] [] (by kernel_rfl) ?_
               refine SC.if' rfl hp (fun hp => ?_) (fun hp => ?_)
               · refine SC.reg ?_
                 refine SL.sim tk 3 [(0, vs 0), (4, vi .i64 (w64 ((w64 ((w64 (x_6 + 2)) + (len x_11.More))) + 1))), (5, vi .i64 x_4), (6, vi .i64 x_7), (7, vp 8 0)] [] [] [] (by kernel_rfl) ?_
                 refine SL.nilJ fun a w h => ?_
                 exact ⟨w64 ((w64 ((w64 (x_6 + 2)) + (len x_11.More))) + 1), hp, h.at (js := [.g 0, .g 8, .g 6, .g 7]) (by kernel_rfl)⟩
               · refine SC.skipJ fun a w h => ?_
                 exact ⟨w64 ((w64 (x_6 + 2)) + (len x_11.More)), hp, h.at (js := [.g 0, .g 8, .g 6, .g 7]) (by kernel_rfl)⟩
             · rintro a w ⟨x_13, hp, h⟩
               refine h.go ?_
               refine SC.r tk [(0, vs 0), (4, vi .i64 x_13), (5, vi .i64 x_4), (6, vi .i64 x_7), (7, vp 1 0), (9, vi .i64 0)] [] [] [] (by kernel_rfl) ?_
               refine SC.block ?_
               obtain ⟨o3, hi3, ho3⟩ := bind_inv hp
               clear hp
               refine SC.loop (fun n a w => ∃ (x_14 : Int), iter (fun s => wirelessref43_checkServices_l3 F x_11 x_13 s) n (x_14) = some o3 ∧ A 91 1 fx [(0, vs 0), (4, vi .i64 x_13), (5, vi .i64 x_4), (6, vi .i64 x_7), (7, vp 1 0), (9, vi .i64 x_14)] [.rd 4 R_T_api_Service l_1, .blk 48 (C_api_Char x_11 (.s 2) (.s 3)), .rd 1 R8 x_11.Value, .rd 5 R_T_api_Attribute x_11.More] a w) F (fun a w h => ⟨0, hi3, h.at (js := [.g 0, .g 1, .g 2, .g 3]) (by kernel_rfl)⟩) ?_
               rintro n3 a w ⟨x_14, hi3, h⟩
               obtain ⟨n3, q3, rfl, hp, hs3⟩ := iter_inv hi3
               replace hp : wirelessref43_checkServices_l3 F x_11 x_13 x_14 = some q3 := hp
               clear hi3
               refine h.go ?_
               refine SC.seq ?_
               refine SC.r tk [(0, vs 0), (4, vi .i64 x_13), (5, vi .i64 x_4), (6, vi .i64 x_7), (7, vp 1 0), (9, vi .i64 x_14), (65, vb (decide (x_14 < (len x_11.More))))] [] [] [] (by kernel_rfl) ?_
               refine SC.if' rfl hp (fun hp => ?_) (fun hp => ?_)
               · refine SC.skipThen ?_
                 refine SC.seq ?_
                 refine SC.block ?_
                 refine SC.cut (fun a w => ∃ (x_15 : Int), wirelessref43_checkServices_j5 F x_14 x_15 = some q3 ∧ A 91 1 fx [(0, vs 0), (4, vi .i64 x_13), (5, vi .i64 x_4), (6, vi .i64 x_7), (7, vp 1 0), (9, vi .i64 x_14), (10, vi .i64 x_15)] [.rd 4 R_T_api_Service l_1, .blk 48 (C_api_Char x_11 (.s 2) (.s 3)), .rd 1 R8 x_11.Value, .rd 5 R_T_api_Attribute x_11.More] a w) ?_ ?_
                 · obtain ⟨x_16, e_x_16, hp⟩ := bind_inv hp
                   obtain ⟨x_17, e_x_17, hp⟩ := bind_inv hp
                   obtain ⟨x_18, e_x_18, hp⟩ := bind_inv hp
                   refine SC.pre (pre_ix (i := 3) (iv := x_14) (sz := 5) (R := R_T_api_Attribute) (l := x_11.More) (by kernel_rfl) rfl e_x_16) ?_
                   refine SC.pre (pre_ix (i := 3) (iv := x_14) (sz := 5) (R := R_T_api_Attribute) (l := x_11.More) (by kernel_rfl) rfl e_x_17) ?_
                   refine SC.pre (pre_ix (i := 3) (iv := x_14) (sz := 5) (R := R_T_api_Attribute) (l := x_11.More) (by kernel_rfl) rfl e_x_18) ?_
                   refine SC.draw MO [true, true, true, true, true, true, true, true, true, true] (by kernel_rfl) fun kap_19 D_20 => ?_
                   refine SD.takes tk D_20 [] kn0 [0, 1, 2, 3, 4, 5, 6, 7, 8, 9, 10, 11, 12, 13, 14, 15, 16, 17] [.el 4, .el 6, .el 8] [x_14, x_14, x_14] [true, true, true, true, true, true, true, true, true, true, true, true, true, true, true, true, true, true, false, false] [(0, vs 0), (4, vi .i64 x_13), (5, vi .i64 x_4), (6, vi .i64 x_7), (7, vp 1 0), (9, vi .i64 x_14), (73, .g (C_api_UUID x_16.f_Type)), (79, vi .i64 x_17.Perms), (85, vs 9)] rfl (by kernel_rfl) (by kernel_rfl) (by kernel_rfl) ?_
                   obtain ⟨x_21, e_x_21, hp⟩ := bind_inv hp
                   refine SD.all1 (i := 18) (by kernel_rfl) ?_
                   refine SW.eff D_20 (i := 18) (bs' := [true, true, true, true, true, true, true, true, true, true, true, true, true, true, true, true, true, true, true, false]) rfl (.inl rfl) rfl (e_c Try.call75 (ok_wirelessref43_part F x_16.f_Type 0 x_17.Perms x_18.Value _ e_x_21) [.g 9] [.g (C_api_UUID x_16.f_Type), vi .i64 0, vi .i64 x_17.Perms, vs 9] (vi .i64 x_21) (by kernel_rfl) (.inl rfl)) (by kernel_rfl) rfl (by kernel_rfl) ?_
                   refine SD.takes tk D_20 [] kn0 [19] [] [] [true, true, true, true, true, true, true, true, true, true, true, true, true, true, true, true, true, true, true, true] [(0, vs 0), (4, vi .i64 x_13), (5, vi .i64 x_4), (6, vi .i64 x_7), (7, vp 1 0), (9, vi .i64 x_14), (10, vi .i64 x_21)] rfl (by kernel_rfl) (by kernel_rfl) (by kernel_rfl) ?_
                   refine SD.done (by kernel_rfl) fun a w h => ?_
                   exact ⟨x_21, hp, h.at (js := [.g 0, .g 1, .g 2, .g 3]) (by kernel_rfl)⟩
                 · rintro a w ⟨x_15, hp, h⟩
                   refine h.go ?_
                   refine SC.r tk [(0, vs 0), (4, vi .i64 x_13), (5, vi .i64 x_4), (6, vi .i64 x_7), (7, vp 1 0), (9, vi .i64 x_14), (10, vi .i64 x_15), (88, vb (x_15 != 0))] [] [] [] (by kernel_rfl) ?_
                   refine SC.if' rfl hp (fun hp => ?_) (fun hp => ?_)
                   · refine SC.r tk [(2, vi .i64 0), (3, vi .i64 x_15)] [] [] [] (by kernel_rfl) ?_
                     have ho := done_inv hp hs3
                     replace hp := ho3
                     try rw [ho] at hp
                     have ho := done_inv hp hs2
                     replace hp := ho2
                     try rw [ho] at hp
                     have ho := done_inv hp hs1
                     replace hp := ho1
                     try rw [ho] at hp
                     obtain rfl := some_inv' hp
                     exact SC.re (js := [.g 0]) tk (by kernel_rfl)
                   · refine SC.skipThen ?_
                     refine SC.reg ?_
                     refine SL.sim tk 3 [(0, vs 0), (4, vi .i64 x_13), (5, vi .i64 x_4), (6, vi .i64 x_7), (7, vp 1 0), (9, vi .i64 (w64 (x_14 + 1)))] [] [] [] (by kernel_rfl) ?_
                     refine SL.nilJ fun a w h => ?_
                     exact ⟨n3, Nat.lt_succ_self _, w64 (x_14 + 1), next_inv hp hs3, h.at (js := [.g 0, .g 1, .g 2, .g 3]) (by kernel_rfl)⟩
               · refine SC.exitJ rfl fun a w h => ?_
                 have ho := done_inv hp hs3
                 replace hp := ho3
                 try rw [ho] at hp
                 exact ⟨x_13, hp, h.at (js := [.g 0]) (by kernel_rfl)⟩
         · rintro a w ⟨x_9, hp, h⟩
           refine h.go ?_
           refine SC.reg ?_
           refine SL.sim tk 3 [(0, vs 0), (4, vi .i64 x_9), (5, vi .i64 x_4), (6, vi .i64 (w64 (x_7 + 1)))] [] [] [] (by kernel_rfl) ?_
           refine SL.nilJ fun a w h => ?_
           exact ⟨n2, Nat.lt_succ_self _, x_9, w64 (x_7 + 1), next_inv hp hs2, h.at (js := [.g 0]) (by kernel_rfl)⟩
       · refine SC.exitJ rfl fun a w h => ?_
         have ho := done_inv hp hs2
         replace hp := ho2
         try rw [ho] at hp
         exact ⟨x_6, hp, h.at (js := [.g 0]) (by kernel_rfl)⟩
     · rintro a w ⟨x_5, hp, h⟩
       refine h.go ?_
       refine SC.reg ?_
       refine SL.sim tk 3 [(0, vs 0), (4, vi .i64 x_5), (5, vi .i64 (w64 (x_4 + 1)))] [] [] [] (by kernel_rfl) ?_
       refine SL.nilJ fun a w h => ?_
       exact ⟨n1, Nat.lt_succ_self _, x_5, w64 (x_4 + 1), next_inv hp hs1, h.at (js := [.g 0]) (by kernel_rfl)⟩
   · refine SC.exitJ rfl fun a w h => ?_
     have ho := done_inv hp hs1
     replace hp := ho1
     try rw [ho] at hp
     exact ⟨x_3, hp, h.at (js := [.g 0]) (by kernel_rfl)⟩
 · rintro a w ⟨x_2, hp, h⟩
   refine h.go ?_
   refine SC.r tk [(2, vi .i64 x_2), (3, vi .i64 0)] [] [] [] (by kernel_rfl) ?_
   obtain rfl := some_inv' hp
   exact SC.re (js := [.g 0]) tk (by kernel_rfl)

theorem ok_wirelessref41_Number (F : Nat) (u_1 : T_api_UUID) (r : Int × Bool) (hp : wirelessref41_Number F u_1 = some r) : Spec Try.prog 76 [.g (C_api_UUID u_1)] [] (.u [.inl (ci .u16 r.1), .inl (cb r.2)]) [] := by
 refine Spec.enter Try.func76 rfl Try.ntmps76 rfl rfl fun fx => ?_
 refine SC.seq ?_
 refine SC.reg ?_
 refine SL.eff (e_box (E := 36) (C_api_UUID u_1) (by kernel_rfl)) rfl (by kernel_rfl) ?_
 refine SL.sim tk 2 [(1, vp 0 0)] [] [] [] (by kernel_rfl) ?_
 refine SL.nilThen ?_
 refine SC.r tk [(1, vp 0 0), (4, vi .u64 (quop .u64 u_1.High 4294967296))] [] [.bin .quo .u64 u_1.High 4294967296 (quop .u64 u_1.High 4294967296) (by kernel_rfl)] [u_1.High, 4294967296] (by kernel_rfl) ?_
 refine SC.seq ?_
 refine SC.cut (fun a w => ∃ (z_2 : Bool), wirelessref41_Number_j1 F u_1 z_2 = some r ∧ A 19 0 fx [(4, vi .u64 (quop .u64 u_1.High 4294967296)), (16, vb z_2)] [] a w) ?_ ?_
 · refine SC.draw MO [true] (by kernel_rfl) fun kap_3 D_4 => ?_
   refine SD.takes tk D_4 [] kn0 [0, 1, 2] [] [] [true, true, true, false, false, false, false, false, false] [(1, vp 0 0), (4, vi .u64 (quop .u64 u_1.High 4294967296)), (10, vb (decide ((quop .u64 u_1.High 4294967296) > 65535)))] rfl (by kernel_rfl) (by kernel_rfl) (by kernel_rfl) ?_
   rcases Bool.eq_false_or_eq_true (decide ((quop .u64 u_1.High 4294967296) > 65535)) with hg_5 | hg_5
   · replace hp := if_t hp hg_5
     refine SD.takes tk D_4 [(10, true)] (knS rfl hg_5 kn0) [3, 4, 5, 6, 7, 8] [] [] [true, true, true, true, true, true, true, true, true] [(4, vi .u64 (quop .u64 u_1.High 4294967296)), (16, vb true)] rfl (by kernel_rfl) (by kernel_rfl) (by kernel_rfl) ?_
     refine SD.done (by kernel_rfl) fun a w h => ?_
     exact ⟨true, hp, h.at (js := []) (by kernel_rfl)⟩
   · replace hp := if_f hp hg_5
     refine SD.takes tk D_4 [(10, false)] (knS rfl hg_5 kn0) [3, 4, 6] [] [] [true, true, true, true, true, false, true, false, false] [(4, vi .u64 (quop .u64 u_1.High 4294967296)), (10, vb (decide ((quop .u64 u_1.High 4294967296) > 65535))), (12, vi .u16 (wu16 (quop .u64 u_1.High 4294967296))), (14, .g (C_api_UUID u_1))] rfl (by kernel_rfl) (by kernel_rfl) (by kernel_rfl) ?_
     obtain ⟨x_6, e_x_6, hp⟩ := bind_inv hp
     refine SD.all1 (i := 5) (by kernel_rfl) ?_
     refine SW.eff D_4 (i := 5) (bs' := [true, true, true, true, true, true, true, false, false]) rfl (.inr ⟨_, _, _, _, rfl, rfl, rfl, hg_5⟩) rfl (e_c Try.call34 (ok_wirelessref41_Short F (wu16 (quop .u64 u_1.High 4294967296)) _ e_x_6) [] [vi .u16 (wu16 (quop .u64 u_1.High 4294967296))] (.g (C_api_UUID x_6)) (by kernel_rfl) (.inl rfl)) (by kernel_rfl) rfl (by kernel_rfl) ?_
     refine SD.all1 (i := 7) (by kernel_rfl) ?_
     refine SW.eff D_4 (i := 7) (bs' := [true, true, true, true, true, true, true, true, false]) rfl (.inr ⟨_, _, _, _, rfl, rfl, rfl, hg_5⟩) rfl (e_eqs tk (cs := (C_api_UUID x_6)) (ds := (C_api_UUID u_1)) [(x_6.High == u_1.High), (x_6.Low == u_1.Low)] (!((x_6.High == u_1.High) && (x_6.Low == u_1.Low))) rfl rfl (by kernel_rfl) (by kernel_rfl) (by kernel_rfl) (.inr ⟨rfl, (by kernel_rfl)⟩)) (by kernel_rfl) rfl (by kernel_rfl) ?_
     refine SD.norm (itsN := [.blk 36 (C_api_UUID u_1)]) (by kernel_rfl) ?_
     refine SD.takes tk D_4 [(10, false)] (knS rfl hg_5 kn0) [8] [] [] [true, true, true, true, true, true, true, true, true] [(4, vi .u64 (quop .u64 u_1.High 4294967296)), (16, vb (!((x_6.High == u_1.High) && (x_6.Low == u_1.Low))))] rfl (by kernel_rfl) (by kernel_rfl) (by kernel_rfl) ?_
     refine SD.done (by kernel_rfl) fun a w h => ?_
     exact ⟨(!((x_6.High == u_1.High) && (x_6.Low == u_1.Low))), hp, h.at (js := []) (by kernel_rfl)⟩
 · rintro a w ⟨z_2, hp, h⟩
   refine h.go ?_
   refine SC.if' rfl hp (fun hp => ?_) (fun hp => ?_)
   · refine SC.r tk [(2, vi .u16 0), (3, vb false)] [] [] [] (by kernel_rfl) ?_
     obtain rfl := some_inv' hp
     exact SC.re (js := []) tk (by kernel_rfl)
   · refine SC.skipThen ?_
     refine SC.r tk [(2, vi .u16 (wu16 (quop .u64 u_1.High 4294967296))), (3, vb true)] [] [] [] (by kernel_rfl) ?_
     obtain rfl := some_inv' hp
     exact SC.re (js := []) tk (by kernel_rfl)

theorem ok_wirelessref23_Put (F : Nat) (n_1 : Int) (size_2 : Int) (r : (List Int)) (hp : wirelessref23_Put F n_1 size_2 = some r) : Spec Try.prog 62 [vi .u64 n_1, vi .i64 size_2] [] (vs 0) [.own 1 5 R8 r] := by
 refine Spec.enter Try.func62 rfl Try.ntmps62 rfl rfl fun fx => ?_
 refine SC.r tk [(0, vi .u64 n_1), (1, vi .i64 size_2)] [] [] [] (by kernel_rfl) ?_
 refine SC.r tk [(0, vi .u64 n_1), (1, vi .i64 size_2), (5, vn)] [] [] [] (by kernel_rfl) ?_
 refine SC.cut (fun a w => ∃ (l_3 : (List Int)), wirelessref23_Put_j1 F l_3 = some r ∧ A 21 0 fx [(5, vs 0)] [.own 1 5 R8 l_3] a w) ?_ ?_
 · refine SC.r tk [(0, vi .u64 n_1), (1, vi .i64 size_2), (5, vn), (6, vi .i64 0)] [] [] [] (by kernel_rfl) ?_
   refine SC.block ?_
   obtain ⟨o1, hi1, ho1⟩ := bind_inv hp
   clear hp
   refine SC.loop (fun n a w => ∃ (x_4 : Int) (l_5 : (List Int)) (x_6 : Int), iter (fun s => wirelessref23_Put_l1 F size_2 s.1 s.2.1 s.2.2) n (x_4, l_5, x_6) = some o1 ∧ A 21 0 fx [(0, vi .u64 x_4), (1, vi .i64 size_2), (5, vs 0), (6, vi .i64 x_6)] [.own 1 5 R8 l_5] a w) F (fun a w h => ⟨n_1, [], 0, hi1, h.at (js := [.n]) (by kernel_rfl)⟩) ?_
   rintro n1 a w ⟨x_4, l_5, x_6, hi1, h⟩
   obtain ⟨n1, q1, rfl, hp, hs1⟩ := iter_inv hi1
   replace hp : wirelessref23_Put_l1 F size_2 x_4 l_5 x_6 = some q1 := hp
   clear hi1
   refine h.go ?_
   refine SC.seq ?_
   refine SC.r tk [(0, vi .u64 x_4), (1, vi .i64 size_2), (5, vs 0), (6, vi .i64 x_6), (9, vb (decide (x_6 < size_2)))] [] [] [] (by kernel_rfl) ?_
   refine SC.if' rfl hp (fun hp => ?_) (fun hp => ?_)
   · refine SC.skipThen ?_
     refine SC.seq ?_
     refine SC.block ?_
     refine SC.seq ?_
     refine SC.reg ?_
     refine SL.sim tk 4 [(0, vi .u64 x_4), (1, vi .i64 size_2), (5, vs 0), (6, vi .i64 x_6), (12, vs 0), (15, vi .u8 (wu8 (remp x_4 256)))] [] [.bin .rem .u64 x_4 256 (remp x_4 256) (by kernel_rfl)] [x_4, 256] (by kernel_rfl) ?_
     refine SL.eff (e_lit (sz := 1) (E := 5) (R := R8) (by_ := 1) tk [[ci .u8 (wu8 (remp x_4 256))]] [wu8 (remp x_4 256)] (by kernel_rfl) ⟨Clo.int, trivial⟩ rfl (by kernel_rfl) (by kernel_rfl)) rfl (by kernel_rfl) ?_
     obtain ⟨l_7, e_l_7, hp⟩ := bind_inv hp
     refine SL.eff (e_app (i := 0) (l := l_5) (sz := 1) (E := 5) (R := R8) (by_ := 1) (m := [wu8 (remp x_4 256)]) tk rfl (by kernel_rfl) rfl (.o 5 (by kernel_rfl)) e_l_7 (by kernel_rfl)) rfl (by kernel_rfl) ?_
     refine SL.sim tk 1 [(0, vi .u64 x_4), (1, vi .i64 size_2), (5, vs 2), (6, vi .i64 x_6)] [] [] [] (by kernel_rfl) ?_
     refine SL.nilThen ?_
     refine SC.reg ?_
     refine SL.sim tk 3 [(0, vi .u64 (quop .u64 x_4 256)), (1, vi .i64 size_2), (5, vs 2), (6, vi .i64 x_6)] [] [.bin .quo .u64 x_4 256 (quop .u64 x_4 256) (by kernel_rfl)] [x_4, 256] (by kernel_rfl) ?_
     refine SL.nilThen ?_
     refine SC.reg ?_
     refine SL.sim tk 3 [(0, vi .u64 (quop .u64 x_4 256)), (1, vi .i64 size_2), (5, vs 2), (6, vi .i64 (w64 (x_6 + 1)))] [] [] [] (by kernel_rfl) ?_
     refine SL.nilJ fun a w h => ?_
     exact ⟨n1, Nat.lt_succ_self _, (quop .u64 x_4 256), l_7, w64 (x_6 + 1), next_inv hp hs1, h.at (js := [.g 2]) (by kernel_rfl)⟩
   · refine SC.exitJ rfl fun a w h => ?_
     have ho := done_inv hp hs1
     replace hp := ho1
     try rw [ho] at hp
     exact ⟨l_5, hp, h.at (js := [.g 0]) (by kernel_rfl)⟩
 · rintro a w ⟨l_3, hp, h⟩
   refine h.go ?_
   refine SC.r tk [(4, vs 0)] [] [] [] (by kernel_rfl) ?_
   obtain rfl := some_inv' hp
   exact SC.re (js := [.g 0]) tk (by kernel_rfl)

theorem ok_wirelessref41_Encode (F : Nat) (u_1 : T_api_UUID) (r : (List Int)) (hp : wirelessref41_Encode F u_1 = some r) : Spec Try.prog 47 [.g (C_api_UUID u_1)] [] (vs 0) [.rd 1 R8 r] := by
 refine Spec.enter Try.func47 rfl Try.ntmps47 rfl rfl fun fx => ?_
 refine SC.seq ?_
 refine SC.reg ?_
 refine SL.eff (e_box (E := 36) (C_api_UUID u_1) (by kernel_rfl)) rfl (by kernel_rfl) ?_
 refine SL.sim tk 1 [(1, vp 0 0)] [] [] [] (by kernel_rfl) ?_
 refine SL.nilThen ?_
 refine SC.seq ?_
 refine SC.seq ?_
 refine SC.reg ?_
 refine SL.sim tk 1 [(1, vp 0 0), (6, .g (C_api_UUID u_1))] [] [] [] (by kernel_rfl) ?_
 obtain ⟨x_2, e_x_2, hp⟩ := bind_inv hp
 refine SL.eff (e_c Try.call76 (ok_wirelessref41_Number F u_1 _ e_x_2) [] [.g (C_api_UUID u_1)] (.u [.inl (ci .u16 x_2.1), .inl (cb x_2.2)]) (by kernel_rfl) (.inl rfl)) rfl (by kernel_rfl) ?_
 refine SL.sim tk 5 [(1, vp 0 0), (3, vi .u16 x_2.1), (4, vb x_2.2)] [] [] [] (by kernel_rfl) ?_
 refine SL.nilThen ?_
 refine SC.r tk [(1, vp 0 0), (3, vi .u16 x_2.1), (10, vb x_2.2)] [] [] [] (by kernel_rfl) ?_
 refine SC.if' rfl hp (fun hp => ?_) (fun hp => ?_)
 · refine SC.seq ?_
   refine SC.reg ?_
   refine SL.sim tk 2 [(12, vi .u64 (wu64 x_2.1))] [] [] [] (by kernel_rfl) ?_
   obtain ⟨x_3, e_x_3, hp⟩ := bind_inv hp
   refine SL.eff (e_c Try.call62 (ok_wirelessref23_Put F (wu64 x_2.1) 2 _ e_x_3) [] [vi .u64 (wu64 x_2.1), vi .i64 2] (vs 1) (by kernel_rfl) (.inl rfl)) rfl (by kernel_rfl) ?_
   refine SL.norm (itsN := [.blk 36 (C_api_UUID u_1), .own 1 5 R8 x_3]) (by kernel_rfl) ?_
   refine SL.sim tk 1 [(2, vs 1)] [] [] [] (by kernel_rfl) ?_
   refine SL.nilThen ?_
   obtain rfl := some_inv' hp
   exact SC.re (js := [.z 1]) tk (by kernel_rfl)
 · refine SC.skipThen ?_
   refine SC.cut (fun a w => ∃ (l_4 : (List Int)), wirelessref41_Encode_j1 F l_4 = some r ∧ A 21 0 fx [(2, vs 0)] [.own 1 5 R8 l_4] a w) ?_ ?_
   · refine SC.draw MO [true] (by kernel_rfl) fun kap_5 D_6 => ?_
     refine SD.takes tk D_6 [] kn0 [0, 1, 3, 4] [] [] [true, true, false, true, true, false, false, false] [(15, vi .u64 u_1.Low), (18, vi .u64 u_1.High)] rfl (by kernel_rfl) (by kernel_rfl) (by kernel_rfl) ?_
     obtain ⟨x_7, e_x_7, hp⟩ := bind_inv hp
     refine SD.all1 (i := 2) (by kernel_rfl) ?_
     refine SW.eff D_6 (i := 2) (bs' := [true, true, true, true, true, false, false, false]) rfl (.inl rfl) rfl (e_c Try.call62 (ok_wirelessref23_Put F u_1.Low 8 _ e_x_7) [] [vi .u64 u_1.Low, vi .i64 8] (vs 1) (by kernel_rfl) (.inl rfl)) (by kernel_rfl) rfl (by kernel_rfl) ?_
     refine SD.norm (itsN := [.blk 36 (C_api_UUID u_1), .own 1 5 R8 x_7]) (by kernel_rfl) ?_
     obtain ⟨x_8, e_x_8, hp⟩ := bind_inv hp
     refine SD.all1 (i := 5) (by kernel_rfl) ?_
     refine SW.eff D_6 (i := 5) (bs' := [true, true, true, true, true, true, false, false]) rfl (.inl rfl) rfl (e_c Try.call62 (ok_wirelessref23_Put F u_1.High 8 _ e_x_8) [] [vi .u64 u_1.High, vi .i64 8] (vs 2) (by kernel_rfl) (.inl rfl)) (by kernel_rfl) rfl (by kernel_rfl) ?_
     obtain ⟨l_9, e_l_9, hp⟩ := bind_inv hp
     refine SD.all1 (i := 6) (by kernel_rfl) ?_
     refine SW.eff D_6 (i := 6) (bs' := [true, true, true, true, true, true, true, false]) rfl (.inl rfl) rfl (e_app (i := 1) (l := x_7) (sz := 1) (E := 5) (R := R8) (by_ := 1) (m := x_8) tk rfl (by kernel_rfl) rfl (.o 5 (by kernel_rfl)) e_l_9 (by kernel_rfl)) (by kernel_rfl) rfl (by kernel_rfl) ?_
     refine SD.norm (itsN := [.blk 36 (C_api_UUID u_1), .gone, .own 1 5 R8 x_8, .own 1 5 R8 l_9]) (by kernel_rfl) ?_
     refine SD.takes tk D_6 [] kn0 [7] [] [] [true, true, true, true, true, true, true, true] [(2, vs 3)] rfl (by kernel_rfl) (by kernel_rfl) (by kernel_rfl) ?_
     refine SD.done (by kernel_rfl) fun a w h => ?_
     exact ⟨l_9, hp, h.at (js := [.g 3]) (by kernel_rfl)⟩
   · rintro a w ⟨l_4, hp, h⟩
     refine h.go ?_
     obtain rfl := some_inv' hp
     exact SC.re (js := [.z 0]) tk (by kernel_rfl)

theorem ok_wirelessref43_add (F : Nat) (db_1 : (List T_api_Attribute)) (first_2 : Int) (t_3 : T_api_UUID) (perms_4 : Int) (value_5 : (List Int)) (r : (List T_api_Attribute)) (hp : wirelessref43_add F db_1 first_2 t_3 perms_4 value_5 = some r) : Spec Try.prog 46 [vs 0, vi .u16 first_2, .g (C_api_UUID t_3), vi .i64 perms_4, vs 1] [.own 5 39 R_T_api_Attribute db_1, .rd 1 R8 value_5] (vs 2) [.gone, .gone, .own 5 39 R_T_api_Attribute r] := by
 refine Spec.enter Try.func46 rfl Try.ntmps46 rfl rfl fun fx => ?_
 refine SC.seq ?_
 refine SC.reg ?_
 refine SL.eff (e_box (E := 36) (C_api_UUID t_3) (by kernel_rfl)) rfl (by kernel_rfl) ?_
 refine SL.sim tk 1 [(0, vs 0), (1, vi .u16 first_2), (3, vi .i64 perms_4), (4, vs 1), (7, vp 2 0)] [] [] [] (by kernel_rfl) ?_
 refine SL.nilThen ?_
 refine SC.cut (fun a w => ∃ (l_6 : (List T_api_Attribute)), wirelessref43_add_j1 F l_6 = some r ∧ A 25 2 fx [(10, vs 2)] [.gone, .gone, .own 5 39 R_T_api_Attribute l_6] a w) ?_ ?_
 · refine SC.draw MO [false, true, true] (by kernel_rfl) fun kap_7 D_8 => ?_
   refine SD.takes tk D_8 [] kn0 [0, 1, 2, 6, 7, 9] [] [] [true, true, true, false, false, false, true, true, false, true, false, false, false, false, false] [(11, vs 0), (12, vi .u16 first_2), (13, vs 0), (17, .g (C_api_UUID t_3)), (18, vi .i64 perms_4), (20, vs 1)] rfl (by kernel_rfl) (by kernel_rfl) (by kernel_rfl) ?_
   obtain ⟨l_809, e_l_809, hp⟩ := bind_inv hp
   obtain ⟨l_1049, e_l_1049, hp⟩ := bind_inv hp
   refine SD.lay 0 [true, true, true, true, true, true, true, true, true, true, true, true, true, true, true] [(10, vs 6)] [.gone, .rd 1 R8 value_5, .blk 36 (C_api_UUID t_3), .gone, .gone, .gone, .own 5 39 R_T_api_Attribute l_1049] ?_ (fun c_8_0 => ?_)
   · refine SD.done (by kernel_rfl) fun a w h => ?_
     exact ⟨l_1049, hp, h.at (js := [.g 0, .g 1, .g 6]) (by kernel_rfl)⟩
   · refine SD.lay 2 [true, true, true, true, true, true, true, true, true, true, true, true, true, false, false] [(11, vs 0), (23, vs 5)] [.own 5 39 R_T_api_Attribute db_1, .rd 1 R8 value_5, .blk 36 (C_api_UUID t_3), .gone, .gone, .own 5 39 R_T_api_Attribute [(T_api_Attribute.mk (wu16 (first_2 + (wu16 (len db_1)))) t_3 perms_4 l_809)]] ?_ (fun c_8_1 => ?_)
     · refine SD.all1 (i := 13) (by kernel_rfl) ?_
       refine SW.eff D_8 (i := 13) (bs' := [true, true, true, true, true, true, true, true, true, true, true, true, true, true, false]) rfl (.inl rfl) rfl (e_app (i := 0) (l := db_1) (sz := 5) (E := 39) (R := R_T_api_Attribute) (by_ := 56) (m := [(T_api_Attribute.mk (wu16 (first_2 + (wu16 (len db_1)))) t_3 perms_4 l_809)]) tk rfl (by kernel_rfl) rfl (.o 39 (by kernel_rfl)) e_l_1049 (by kernel_rfl)) (by kernel_rfl) rfl (by kernel_rfl) ?_
       refine SD.takes tk D_8 [] kn0 [14] [] [] [true, true, true, true, true, true, true, true, true, true, true, true, true, true, true] [(10, vs 6)] rfl (by kernel_rfl) (by kernel_rfl) (by kernel_rfl) ?_
       exact SD.vie D_8 [.g 0, .g 1, .g 2, .n, .n, .n, .g 6] c_8_0 (by kernel_rfl)
     · refine SD.lay 3 [true, true, true, true, true, true, true, true, true, true, true, true, false, false, false] [(11, vs 0), (22, .g (C_api_Attribute (T_api_Attribute.mk (wu16 (first_2 + (wu16 (len db_1)))) t_3 perms_4 l_809) (.s 4)))] [.own 5 39 R_T_api_Attribute db_1, .rd 1 R8 value_5, .blk 36 (C_api_UUID t_3), .gone, .own 1 5 R8 l_809] ?_ (fun c_8_2 => ?_)
       · refine SD.pre (pre_frz (i := 4) (sz := 1) (E := 5) (R := R8) (l := l_809) (by kernel_rfl)) ?_
         refine SD.all1 (i := 12) (by kernel_rfl) ?_
         refine SW.eff D_8 (i := 12) (bs' := [true, true, true, true, true, true, true, true, true, true, true, true, true, false, false]) rfl (.inl rfl) rfl (e_lit (sz := 5) (E := 39) (R := R_T_api_Attribute) (by_ := 56) tk [(C_api_Attribute (T_api_Attribute.mk (wu16 (first_2 + (wu16 (len db_1)))) t_3 perms_4 l_809) (.s 4))] [(T_api_Attribute.mk (wu16 (first_2 + (wu16 (len db_1)))) t_3 perms_4 l_809)] (by kernel_rfl) ⟨(clo_T_api_Attribute (x := (T_api_Attribute.mk (wu16 (first_2 + (wu16 (len db_1)))) t_3 perms_4 l_809)) (Clo.sl (by kernel_rfl))), trivial⟩ rfl (by kernel_rfl) (by kernel_rfl)) (by kernel_rfl) rfl (by kernel_rfl) ?_
         exact SD.vie D_8 [.g 0, .g 1, .g 2, .n, .n, .g 5] c_8_1 (by kernel_rfl)
       · refine SD.lay 4 [true, true, true, true, true, true, true, true, true, true, true, false, false, false, false] [(11, vs 0), (16, vi .u16 (wu16 (first_2 + (wu16 (len db_1))))), (17, .g (C_api_UUID t_3)), (18, vi .i64 perms_4), (21, vs 4)] [.own 5 39 R_T_api_Attribute db_1, .rd 1 R8 value_5, .blk 36 (C_api_UUID t_3), .gone, .own 1 5 R8 l_809] ?_ (fun c_8_3 => ?_)
         · refine SD.all1 (i := 11) (by kernel_rfl) ?_
           refine SW.eff D_8 (i := 11) (v := .g (C_api_Attribute (T_api_Attribute.mk (wu16 (first_2 + (wu16 (len db_1)))) t_3 perms_4 l_809) (.s 4))) (bs' := [true, true, true, true, true, true, true, true, true, true, true, true, false, false, false]) rfl (.inl rfl) rfl (e_val tk (by kernel_rfl)) (by kernel_rfl) rfl (by kernel_rfl) ?_
           exact SD.vie D_8 [.g 0, .g 1, .g 2, .n, .g 4] c_8_2 (by kernel_rfl)
         · refine SD.lay 5 [true, true, true, true, true, true, true, true, true, true, false, false, false, false, false] [(11, vs 0), (16, vi .u16 (wu16 (first_2 + (wu16 (len db_1))))), (17, .g (C_api_UUID t_3)), (18, vi .i64 perms_4), (19, vs 3), (20, vs 1)] [.own 5 39 R_T_api_Attribute db_1, .rd 1 R8 value_5, .blk 36 (C_api_UUID t_3), .own 1 5 R8 ([] : (List Int))] ?_ (fun c_8_4 => ?_)
           · refine SD.all1 (i := 10) (by kernel_rfl) ?_
             refine SW.eff D_8 (i := 10) (bs' := [true, true, true, true, true, true, true, true, true, true, true, false, false, false, false]) rfl (.inl rfl) rfl (e_app (i := 3) (l := ([] : (List Int))) (sz := 1) (E := 5) (R := R8) (by_ := 1) (m := value_5) tk rfl (by kernel_rfl) rfl (.r (by kernel_rfl)) e_l_809 (by kernel_rfl)) (by kernel_rfl) rfl (by kernel_rfl) ?_
             exact SD.vie D_8 [.g 0, .g 1, .g 2, .n, .g 4] c_8_3 (by kernel_rfl)
           · refine SD.lay 6 [true, true, true, true, true, true, true, true, false, true, false, false, false, false, false] [(11, vs 0), (16, vi .u16 (wu16 (first_2 + (wu16 (len db_1))))), (17, .g (C_api_UUID t_3)), (18, vi .i64 perms_4), (20, vs 1)] [.own 5 39 R_T_api_Attribute db_1, .rd 1 R8 value_5, .blk 36 (C_api_UUID t_3)] ?_ (fun c_8_5 => ?_)
             · refine SD.all1 (i := 8) (by kernel_rfl) ?_
               refine SW.eff D_8 (i := 8) (bs' := [true, true, true, true, true, true, true, true, true, true, false, false, false, false, false]) rfl (.inl rfl) rfl (e_lit (sz := 1) (E := 5) (R := R8) (by_ := 1) tk [] ([] : (List Int)) (by kernel_rfl) trivial rfl (by kernel_rfl) (by kernel_rfl)) (by kernel_rfl) rfl (by kernel_rfl) ?_
               exact SD.vie D_8 [.g 0, .g 1, .g 2, .g 3] c_8_4 (by kernel_rfl)
             · refine SD.lay 7 [true, true, true, false, false, false, true, true, true, true, true, false, false, false, false] [(11, vs 0), (12, vi .u16 first_2), (13, vs 0), (17, .g (C_api_UUID t_3)), (18, vi .i64 perms_4), (21, vs 4)] [.own 5 39 R_T_api_Attribute db_1, .rd 1 R8 value_5, .blk 36 (C_api_UUID t_3), .gone, .own 1 5 R8 l_809] ?_ (fun c_8_6 => ?_)
               · refine SD.all1 (i := 3) (by kernel_rfl) ?_
                 refine SW.eff D_8 (i := 3) (v := vi .i64 (len db_1)) (bs' := [true, true, true, true, false, false, true, true, true, true, true, false, false, false, false]) rfl (.inl rfl) rfl (e_val tk (by kernel_rfl)) (by kernel_rfl) rfl (by kernel_rfl) ?_
                 refine SD.takes tk D_8 [] kn0 [4, 5] [] [] [true, true, true, true, true, true, true, true, true, true, true, false, false, false, false] [(11, vs 0), (16, vi .u16 (wu16 (first_2 + (wu16 (len db_1))))), (17, .g (C_api_UUID t_3)), (18, vi .i64 perms_4), (21, vs 4)] rfl (by kernel_rfl) (by kernel_rfl) (by kernel_rfl) ?_
                 exact SD.vie D_8 [.g 0, .g 1, .g 2, .n, .g 4] c_8_3 (by kernel_rfl)
               · refine SD.lay 8 [true, true, true, false, false, false, true, true, true, true, false, false, false, false, false] [(11, vs 0), (12, vi .u16 first_2), (13, vs 0), (17, .g (C_api_UUID t_3)), (18, vi .i64 perms_4), (19, vs 3), (20, vs 1)] [.own 5 39 R_T_api_Attribute db_1, .rd 1 R8 value_5, .blk 36 (C_api_UUID t_3), .own 1 5 R8 ([] : (List Int))] ?_ (fun c_8_7 => ?_)
                 · refine SD.all2 (i := 3) (j := 10) (by kernel_rfl) ?_ ?_
                   · refine SW.eff D_8 (i := 3) (v := vi .i64 (len db_1)) (bs' := [true, true, true, true, false, false, true, true, true, true, false, false, false, false, false]) rfl (.inl rfl) rfl (e_val tk (by kernel_rfl)) (by kernel_rfl) rfl (by kernel_rfl) ?_
                     refine SD.takes tk D_8 [] kn0 [4, 5] [] [] [true, true, true, true, true, true, true, true, true, true, false, false, false, false, false] [(11, vs 0), (16, vi .u16 (wu16 (first_2 + (wu16 (len db_1))))), (17, .g (C_api_UUID t_3)), (18, vi .i64 perms_4), (19, vs 3), (20, vs 1)] rfl (by kernel_rfl) (by kernel_rfl) (by kernel_rfl) ?_
                     exact SD.vie D_8 [.g 0, .g 1, .g 2, .g 3] c_8_4 (by kernel_rfl)
                   · refine SW.eff D_8 (i := 10) (bs' := [true, true, true, false, false, false, true, true, true, true, true, false, false, false, false]) rfl (.inl rfl) rfl (e_app (i := 3) (l := ([] : (List Int))) (sz := 1) (E := 5) (R := R8) (by_ := 1) (m := value_5) tk rfl (by kernel_rfl) rfl (.r (by kernel_rfl)) e_l_809 (by kernel_rfl)) (by kernel_rfl) rfl (by kernel_rfl) ?_
                     exact SD.vie D_8 [.g 0, .g 1, .g 2, .n, .g 4] c_8_6 (by kernel_rfl)
                 · refine SD.all2 (i := 3) (j := 8) (by kernel_rfl) ?_ ?_
                   · refine SW.eff D_8 (i := 3) (v := vi .i64 (len db_1)) (bs' := [true, true, true, true, false, false, true, true, false, true, false, false, false, false, false]) rfl (.inl rfl) rfl (e_val tk (by kernel_rfl)) (by kernel_rfl) rfl (by kernel_rfl) ?_
                     refine SD.takes tk D_8 [] kn0 [4, 5] [] [] [true, true, true, true, true, true, true, true, false, true, false, false, false, false, false] [(11, vs 0), (16, vi .u16 (wu16 (first_2 + (wu16 (len db_1))))), (17, .g (C_api_UUID t_3)), (18, vi .i64 perms_4), (20, vs 1)] rfl (by kernel_rfl) (by kernel_rfl) (by kernel_rfl) ?_
                     exact SD.vie D_8 [.g 0, .g 1, .g 2] c_8_5 (by kernel_rfl)
                   · refine SW.eff D_8 (i := 8) (bs' := [true, true, true, false, false, false, true, true, true, true, false, false, false, false, false]) rfl (.inl rfl) rfl (e_lit (sz := 1) (E := 5) (R := R8) (by_ := 1) tk [] ([] : (List Int)) (by kernel_rfl) trivial rfl (by kernel_rfl) (by kernel_rfl)) (by kernel_rfl) rfl (by kernel_rfl) ?_
                     exact SD.vie D_8 [.g 0, .g 1, .g 2, .g 3] c_8_7 (by kernel_rfl)
 · rintro a w ⟨l_6, hp, h⟩
   refine h.go ?_
   obtain rfl := some_inv' hp
   exact SC.re (js := [.g 0, .g 1, .g 2]) tk (by kernel_rfl)

theorem ok_wirelessref43_addChar (F : Nat) (db_1 : (List T_api_Attribute)) (first_2 : Int) (c_3 : T_api_Char) (r : (List T_api_Attribute)) (hp : wirelessref43_addChar F db_1 first_2 c_3 = some r) : Spec Try.prog 48 [vs 0, vi .u16 first_2, .g (C_api_Char c_3 (.s 1) (.s 2))] [.own 5 39 R_T_api_Attribute db_1, .rd 1 R8 c_3.Value, .rd 5 R_T_api_Attribute c_3.More] (vs 3) [.gone, .gone, .gone, .own 5 39 R_T_api_Attribute r] := by
 refine Spec.enter Try.func48 rfl Try.ntmps48 rfl rfl fun fx => ?_
 refine SC.seq ?_
 refine SC.reg ?_
 refine SL.eff (e_box (E := 48) (C_api_Char c_3 (.s 1) (.s 2)) (by kernel_rfl)) rfl (by kernel_rfl) ?_
 refine SL.sim tk 1 [(0, vs 0), (1, vi .u16 first_2), (5, vp 3 0)] [] [] [] (by kernel_rfl) ?_
 refine SL.nilThen ?_
 refine SC.cut (fun a w => ∃ (l_4 : (List Int)), wirelessref43_addChar_j1 F db_1 first_2 c_3 l_4 = some r ∧ A 78 3 fx [(0, vs 0), (1, vi .u16 first_2), (5, vp 3 0), (7, vs 4)] [.own 5 39 R_T_api_Attribute db_1, .rd 1 R8 c_3.Value, .rd 5 R_T_api_Attribute c_3.More, .blk 48 (C_api_Char c_3 (.s 1) (.s 2)), .own 1 5 R8 l_4] a w) ?_ ?_
 · refine SC.draw MO [true, true, true, true] (by kernel_rfl) fun kap_25 D_26 => ?_
   refine SD.takes tk D_26 [] kn0 [0, 1, 2, 4, 5, 6, 7, 8, 9, 10] [] [] [true, true, true, false, true, true, true, true, true, true, true, false, false, false] [(0, vs 0), (1, vi .u16 first_2), (5, vp 3 0), (11, vi .u8 (wu8 c_3.Props)), (19, vi .u64 (wu64 (w64 ((w64 ((w64 first_2) + (len db_1))) + 1))))] rfl (by kernel_rfl) (by kernel_rfl) (by kernel_rfl) ?_
   obtain ⟨x_907, e_x_907, hp⟩ := bind_inv hp
   obtain ⟨l_987, e_l_987, hp⟩ := bind_inv hp
   refine SD.lay 0 [true, true, true, true, true, true, true, true, true, true, true, true, true, true] [(0, vs 0), (1, vi .u16 first_2), (5, vp 3 0), (7, vs 6)] [.own 5 39 R_T_api_Attribute db_1, .rd 1 R8 c_3.Value, .rd 5 R_T_api_Attribute c_3.More, .blk 48 (C_api_Char c_3 (.s 1) (.s 2)), .gone, .gone, .own 1 5 R8 l_987] ?_ (fun c_26_0 => ?_)
   · refine SD.done (by kernel_rfl) fun a w h => ?_
     exact ⟨l_987, hp, h.at (js := [.g 0, .g 1, .g 2, .g 3, .g 6]) (by kernel_rfl)⟩
   · refine SD.lay 2 [true, true, true, true, true, true, true, true, true, true, true, true, false, false] [(0, vs 0), (1, vi .u16 first_2), (5, vp 3 0), (12, vs 4), (20, vs 5)] [.own 5 39 R_T_api_Attribute db_1, .rd 1 R8 c_3.Value, .rd 5 R_T_api_Attribute c_3.More, .blk 48 (C_api_Char c_3 (.s 1) (.s 2)), .own 1 5 R8 [wu8 c_3.Props], .own 1 5 R8 x_907] ?_ (fun c_26_1 => ?_)
     · refine SD.all1 (i := 12) (by kernel_rfl) ?_
       refine SW.eff D_26 (i := 12) (bs' := [true, true, true, true, true, true, true, true, true, true, true, true, true, false]) rfl (.inl rfl) rfl (e_app (i := 4) (l := [wu8 c_3.Props]) (sz := 1) (E := 5) (R := R8) (by_ := 1) (m := x_907) tk rfl (by kernel_rfl) rfl (.o 5 (by kernel_rfl)) e_l_987 (by kernel_rfl)) (by kernel_rfl) rfl (by kernel_rfl) ?_
       refine SD.takes tk D_26 [] kn0 [13] [] [] [true, true, true, true, true, true, true, true, true, true, true, true, true, true] [(0, vs 0), (1, vi .u16 first_2), (5, vp 3 0), (7, vs 6)] rfl (by kernel_rfl) (by kernel_rfl) (by kernel_rfl) ?_
       exact SD.vie D_26 [.g 0, .g 1, .g 2, .g 3, .n, .n, .g 6] c_26_0 (by kernel_rfl)
     · refine SD.lay 3 [true, true, true, true, true, true, true, true, true, true, true, false, false, false] [(0, vs 0), (1, vi .u16 first_2), (5, vp 3 0), (12, vs 4), (19, vi .u64 (wu64 (w64 ((w64 ((w64 first_2) + (len db_1))) + 1))))] [.own 5 39 R_T_api_Attribute db_1, .rd 1 R8 c_3.Value, .rd 5 R_T_api_Attribute c_3.More, .blk 48 (C_api_Char c_3 (.s 1) (.s 2)), .own 1 5 R8 [wu8 c_3.Props]] ?_ (fun c_26_2 => ?_)
       · refine SD.all1 (i := 11) (by kernel_rfl) ?_
         refine SW.eff D_26 (i := 11) (bs' := [true, true, true, true, true, true, true, true, true, true, true, true, false, false]) rfl (.inl rfl) rfl (e_c Try.call62 (ok_wirelessref23_Put F (wu64 (w64 ((w64 ((w64 first_2) + (len db_1))) + 1))) 2 _ e_x_907) [] [vi .u64 (wu64 (w64 ((w64 ((w64 first_2) + (len db_1))) + 1))), vi .i64 2] (vs 5) (by kernel_rfl) (.inl rfl)) (by kernel_rfl) rfl (by kernel_rfl) ?_
         exact SD.vie D_26 [.g 0, .g 1, .g 2, .g 3, .g 4, .g 5] c_26_1 (by kernel_rfl)
       · refine SD.lay 3 [true, true, true, false, true, true, true, true, true, true, true, true, false, false] [(0, vs 0), (1, vi .u16 first_2), (5, vp 3 0), (11, vi .u8 (wu8 c_3.Props)), (20, vs 4)] [.own 5 39 R_T_api_Attribute db_1, .rd 1 R8 c_3.Value, .rd 5 R_T_api_Attribute c_3.More, .blk 48 (C_api_Char c_3 (.s 1) (.s 2)), .own 1 5 R8 x_907] ?_ (fun c_26_3 => ?_)
         · refine SD.all1 (i := 3) (by kernel_rfl) ?_
           refine SW.eff D_26 (i := 3) (bs' := [true, true, true, true, true, true, true, true, true, true, true, true, false, false]) rfl (.inl rfl) rfl (e_lit (sz := 1) (E := 5) (R := R8) (by_ := 1) tk [[ci .u8 (wu8 c_3.Props)]] [wu8 c_3.Props] (by kernel_rfl) ⟨Clo.int, trivial⟩ rfl (by kernel_rfl) (by kernel_rfl)) (by kernel_rfl) rfl (by kernel_rfl) ?_
           exact SD.vie D_26 [.g 0, .g 1, .g 2, .g 3, .g 5, .g 4] c_26_1 (by kernel_rfl)
         · refine SD.all2 (i := 3) (j := 11) (by kernel_rfl) ?_ ?_
           · refine SW.eff D_26 (i := 3) (bs' := [true, true, true, true, true, true, true, true, true, true, true, false, false, false]) rfl (.inl rfl) rfl (e_lit (sz := 1) (E := 5) (R := R8) (by_ := 1) tk [[ci .u8 (wu8 c_3.Props)]] [wu8 c_3.Props] (by kernel_rfl) ⟨Clo.int, trivial⟩ rfl (by kernel_rfl) (by kernel_rfl)) (by kernel_rfl) rfl (by kernel_rfl) ?_
             exact SD.vie D_26 [.g 0, .g 1, .g 2, .g 3, .g 4] c_26_2 (by kernel_rfl)
           · refine SW.eff D_26 (i := 11) (bs' := [true, true, true, false, true, true, true, true, true, true, true, true, false, false]) rfl (.inl rfl) rfl (e_c Try.call62 (ok_wirelessref23_Put F (wu64 (w64 ((w64 ((w64 first_2) + (len db_1))) + 1))) 2 _ e_x_907) [] [vi .u64 (wu64 (w64 ((w64 ((w64 first_2) + (len db_1))) + 1))), vi .i64 2] (vs 4) (by kernel_rfl) (.inl rfl)) (by kernel_rfl) rfl (by kernel_rfl) ?_
             exact SD.vie D_26 [.g 0, .g 1, .g 2, .g 3, .g 4] c_26_3 (by kernel_rfl)
 · rintro a w ⟨l_4, hp, h⟩
   refine h.go ?_
   refine SC.cut (fun a w => ∃ (l_5 : (List T_api_Attribute)), wirelessref43_addChar_j2 F first_2 c_3 l_5 = some r ∧ A 78 3 fx [(0, vs 3), (1, vi .u16 first_2), (5, vp 4 0)] [.gone, .rd 1 R8 c_3.Value, .rd 5 R_T_api_Attribute c_3.More, .own 5 39 R_T_api_Attribute l_5, .blk 48 (C_api_Char c_3 (.s 1) (.s 2))] a w) ?_ ?_
   · refine SC.draw MO [false, true, true, true, false] (by kernel_rfl) fun kap_19 D_20 => ?_
     refine SD.takes tk D_20 [] kn0 [0, 1, 3, 4, 5] [] [] [true, true, false, true, true, true, false, false, false, false] [(0, vs 0), (1, vi .u16 first_2), (5, vp 3 0), (22, vs 0), (23, vi .u16 first_2), (25, vs 4), (27, .g (C_api_UUID c_3.f_Type))] rfl (by kernel_rfl) (by kernel_rfl) (by kernel_rfl) ?_
     obtain ⟨x_21, e_x_21, hp⟩ := bind_inv hp
     refine SD.all1 (i := 2) (by kernel_rfl) ?_
     refine SW.eff D_20 (i := 2) (bs' := [true, true, true, true, true, true, false, false, false, false]) rfl (.inl rfl) rfl (e_c Try.call34 (ok_wirelessref41_Short F 10243 _ e_x_21) [] [vi .u16 10243] (.g (C_api_UUID x_21)) (by kernel_rfl) (.inl rfl)) (by kernel_rfl) rfl (by kernel_rfl) ?_
     obtain ⟨x_22, e_x_22, hp⟩ := bind_inv hp
     refine SD.all1 (i := 6) (by kernel_rfl) ?_
     refine SW.eff D_20 (i := 6) (bs' := [true, true, true, true, true, true, true, false, false, false]) rfl (.inl rfl) rfl (e_c Try.call47 (ok_wirelessref41_Encode F c_3.f_Type _ e_x_22) [] [.g (C_api_UUID c_3.f_Type)] (vs 5) (by kernel_rfl) (.inl rfl)) (by kernel_rfl) rfl (by kernel_rfl) ?_
     refine SD.norm (itsN := [.own 5 39 R_T_api_Attribute db_1, .rd 1 R8 c_3.Value, .rd 5 R_T_api_Attribute c_3.More, .blk 48 (C_api_Char c_3 (.s 1) (.s 2)), .own 1 5 R8 l_4, .rd 1 R8 x_22]) (by kernel_rfl) ?_
     obtain ⟨l_23, e_l_23, hp⟩ := bind_inv hp
     refine SD.all1 (i := 7) (by kernel_rfl) ?_
     refine SW.eff D_20 (i := 7) (bs' := [true, true, true, true, true, true, true, true, false, false]) rfl (.inl rfl) rfl (e_app (i := 4) (l := l_4) (sz := 1) (E := 5) (R := R8) (by_ := 1) (m := x_22) tk rfl (by kernel_rfl) rfl (.r (by kernel_rfl)) e_l_23 (by kernel_rfl)) (by kernel_rfl) rfl (by kernel_rfl) ?_
     obtain ⟨x_24, e_x_24, hp⟩ := bind_inv hp
     refine SD.pre (pre_frz (i := 6) (sz := 1) (E := 5) (R := R8) (l := l_23) (by kernel_rfl)) ?_
     refine SD.all1 (i := 8) (by kernel_rfl) ?_
     refine SW.eff D_20 (i := 8) (bs' := [true, true, true, true, true, true, true, true, true, false]) rfl (.inl rfl) rfl (e_c Try.call46 (ok_wirelessref43_add F db_1 first_2 x_21 1 l_23 _ e_x_24) [.g 0, .g 6] [vs 0, vi .u16 first_2, .g (C_api_UUID x_21), vi .i64 1, vs 6] (vs 7) (by kernel_rfl) (.inl rfl)) (by kernel_rfl) rfl (by kernel_rfl) ?_
     refine SD.norm (itsN := [.gone, .rd 1 R8 c_3.Value, .rd 5 R_T_api_Attribute c_3.More, .blk 48 (C_api_Char c_3 (.s 1) (.s 2)), .gone, .rd 1 R8 x_22, .rd 1 R8 l_23, .own 5 39 R_T_api_Attribute x_24]) (by kernel_rfl) ?_
     refine SD.takes tk D_20 [] kn0 [9] [] [] [true, true, true, true, true, true, true, true, true, true] [(0, vs 7), (1, vi .u16 first_2), (5, vp 3 0)] rfl (by kernel_rfl) (by kernel_rfl) (by kernel_rfl) ?_
     refine SD.done (by kernel_rfl) fun a w h => ?_
     exact ⟨x_24, hp, h.at (js := [.g 0, .g 1, .g 2, .g 7, .g 3]) (by kernel_rfl)⟩
   · rintro a w ⟨l_5, hp, h⟩
     refine h.go ?_
     refine SC.seq ?_
     refine SC.reg ?_
     refine SL.sim tk 8 [(0, vs 3), (1, vi .u16 first_2), (5, vp 4 0), (31, vs 3), (32, vi .u16 first_2), (34, .g (C_api_UUID c_3.f_Type)), (36, vi .i64 c_3.Perms), (38, vs 1)] [] [] [] (by kernel_rfl) ?_
     obtain ⟨x_6, e_x_6, hp⟩ := bind_inv hp
     refine SL.eff (e_c Try.call46 (ok_wirelessref43_add F l_5 first_2 c_3.f_Type c_3.Perms c_3.Value _ e_x_6) [.g 3, .g 1] [vs 3, vi .u16 first_2, .g (C_api_UUID c_3.f_Type), vi .i64 c_3.Perms, vs 1] (vs 5) (by kernel_rfl) (.inl rfl)) rfl (by kernel_rfl) ?_
     refine SL.sim tk 1 [(0, vs 5), (1, vi .u16 first_2), (5, vp 4 0)] [] [] [] (by kernel_rfl) ?_
     refine SL.nilThen ?_
     refine SC.cut (fun a w => ∃ (l_7 : (List T_api_Attribute)), wirelessref43_addChar_j3 F first_2 c_3 l_7 = some r ∧ A 78 3 fx [(0, vs 3), (1, vi .u16 first_2), (5, vp 4 0)] [.gone, .rd 1 R8 c_3.Value, .rd 5 R_T_api_Attribute c_3.More, .own 5 39 R_T_api_Attribute l_7, .blk 48 (C_api_Char c_3 (.s 1) (.s 2))] a w) ?_ ?_
     · refine SC.r tk [(0, vs 5), (1, vi .u16 first_2), (5, vp 4 0), (43, vb ((iand .i64 c_3.Props 48) != 0))] [] [] [] (by kernel_rfl) ?_
       refine SC.if' rfl hp (fun hp => ?_) (fun hp => ?_)
       · refine SC.reg ?_
         refine SL.sim tk 2 [(0, vs 5), (1, vi .u16 first_2), (5, vp 4 0), (44, vs 5), (45, vi .u16 first_2)] [] [] [] (by kernel_rfl) ?_
         obtain ⟨x_17, e_x_17, hp⟩ := bind_inv hp
         refine SL.eff (e_c Try.call34 (ok_wirelessref41_Short F 10498 _ e_x_17) [] [vi .u16 10498] (.g (C_api_UUID x_17)) (by kernel_rfl) (.inl rfl)) rfl (by kernel_rfl) ?_
         refine SL.norm (itsN := [.gone, .rd 1 R8 c_3.Value, .rd 5 R_T_api_Attribute c_3.More, .gone, .blk 48 (C_api_Char c_3 (.s 1) (.s 2)), .own 5 39 R_T_api_Attribute x_6]) (by kernel_rfl) ?_
         refine SL.eff (e_lit (sz := 1) (E := 5) (R := R8) (by_ := 1) tk [[ci .u8 0], [ci .u8 0]] [0, 0] (by kernel_rfl) ⟨Clo.int, ⟨Clo.int, trivial⟩⟩ rfl (by kernel_rfl) (by kernel_rfl)) rfl (by kernel_rfl) ?_
         obtain ⟨x_18, e_x_18, hp⟩ := bind_inv hp
         refine SL.pre (pre_frz (i := 6) (sz := 1) (E := 5) (R := R8) (l := [0, 0]) (by kernel_rfl)) ?_
         refine SL.eff (e_c Try.call46 (ok_wirelessref43_add F x_6 first_2 x_17 3 [0, 0] _ e_x_18) [.g 5, .g 6] [vs 5, vi .u16 first_2, .g (C_api_UUID x_17), vi .i64 3, vs 6] (vs 7) (by kernel_rfl) (.inl rfl)) rfl (by kernel_rfl) ?_
         refine SL.sim tk 1 [(0, vs 7), (1, vi .u16 first_2), (5, vp 4 0)] [] [] [] (by kernel_rfl) ?_
         refine SL.nilJ fun a w h => ?_
         exact ⟨x_18, hp, h.at (js := [.g 0, .g 1, .g 2, .g 7, .g 4]) (by kernel_rfl)⟩
       · refine SC.skipJ fun a w h => ?_
         exact ⟨x_6, hp, h.at (js := [.g 0, .g 1, .g 2, .g 5, .g 4]) (by kernel_rfl)⟩
     · rintro a w ⟨l_7, hp, h⟩
       refine h.go ?_
       refine SC.cut (fun a w => ∃ (l_8 : (List T_api_Attribute)), wirelessref43_addChar_j4 F l_8 = some r ∧ A 78 3 fx [(0, vs 3)] [.gone, .gone, .gone, .own 5 39 R_T_api_Attribute l_8] a w) ?_ ?_
       · refine SC.r tk [(0, vs 3), (1, vi .u16 first_2), (5, vp 4 0), (8, vi .i64 0)] [] [] [] (by kernel_rfl) ?_
         refine SC.block ?_
         obtain ⟨o1, hi1, ho1⟩ := bind_inv hp
         clear hp
         refine SC.loop (fun n a w => ∃ (l_9 : (List T_api_Attribute)) (x_10 : Int), iter (fun s => wirelessref43_addChar_l1 F first_2 c_3 s.1 s.2) n (l_9, x_10) = some o1 ∧ A 78 3 fx [(0, vs 3), (1, vi .u16 first_2), (5, vp 4 0), (8, vi .i64 x_10)] [.gone, .rd 1 R8 c_3.Value, .rd 5 R_T_api_Attribute c_3.More, .own 5 39 R_T_api_Attribute l_9, .blk 48 (C_api_Char c_3 (.s 1) (.s 2))] a w) F (fun a w h => ⟨l_7, 0, hi1, h.at (js := [.g 0, .g 1, .g 2, .g 3, .g 4]) (by kernel_rfl)⟩) ?_
         rintro n1 a w ⟨l_9, x_10, hi1, h⟩
         obtain ⟨n1, q1, rfl, hp, hs1⟩ := iter_inv hi1
         replace hp : wirelessref43_addChar_l1 F first_2 c_3 l_9 x_10 = some q1 := hp
         clear hi1
         refine h.go ?_
         refine SC.seq ?_
         refine SC.r tk [(0, vs 3), (1, vi .u16 first_2), (5, vp 4 0), (8, vi .i64 x_10), (53, vb (decide (x_10 < (len c_3.More))))] [] [] [] (by kernel_rfl) ?_
         refine SC.if' rfl hp (fun hp => ?_) (fun hp => ?_)
         · refine SC.skipThen ?_
           refine SC.seq ?_
           refine SC.block ?_
           obtain ⟨x_11, e_x_11, hp⟩ := bind_inv hp
           obtain ⟨x_12, e_x_12, hp⟩ := bind_inv hp
           obtain ⟨x_13, e_x_13, hp⟩ := bind_inv hp
           refine SC.pre (pre_ix (i := 2) (iv := x_10) (sz := 5) (R := R_T_api_Attribute) (l := c_3.More) (by kernel_rfl) rfl e_x_11) ?_
           refine SC.pre (pre_ix (i := 2) (iv := x_10) (sz := 5) (R := R_T_api_Attribute) (l := c_3.More) (by kernel_rfl) rfl e_x_12) ?_
           refine SC.pre (pre_ix (i := 2) (iv := x_10) (sz := 5) (R := R_T_api_Attribute) (l := c_3.More) (by kernel_rfl) rfl e_x_13) ?_
           refine SC.draw MO [false, true, true, false, true, true, true, true, true, true, true] (by kernel_rfl) fun kap_14 D_15 => ?_
           refine SD.takes tk D_15 [] kn0 [0, 1, 2, 3, 4, 5, 6, 7, 8, 9, 10, 11, 12, 13, 14, 15, 16, 17, 18, 19] [.el 5, .el 7, .el 9] [x_10, x_10, x_10] [true, true, true, true, true, true, true, true, true, true, true, true, true, true, true, true, true, true, true, true, false, false] [(0, vs 3), (1, vi .u16 first_2), (5, vp 4 0), (8, vi .i64 x_10), (56, vs 3), (57, vi .u16 first_2), (63, .g (C_api_UUID x_11.f_Type)), (69, vi .i64 x_12.Perms), (75, vs 10)] rfl (by kernel_rfl) (by kernel_rfl) (by kernel_rfl) ?_
           obtain ⟨x_16, e_x_16, hp⟩ := bind_inv hp
           refine SD.all1 (i := 20) (by kernel_rfl) ?_
           refine SW.eff D_15 (i := 20) (bs' := [true, true, true, true, true, true, true, true, true, true, true, true, true, true, true, true, true, true, true, true, true, false]) rfl (.inl rfl) rfl (e_c Try.call46 (ok_wirelessref43_add F l_9 first_2 x_11.f_Type x_12.Perms x_13.Value _ e_x_16) [.g 3, .g 10] [vs 3, vi .u16 first_2, .g (C_api_UUID x_11.f_Type), vi .i64 x_12.Perms, vs 10] (vs 11) (by kernel_rfl) (.inl rfl)) (by kernel_rfl) rfl (by kernel_rfl) ?_
           refine SD.takes tk D_15 [] kn0 [21] [] [] [true, true, true, true, true, true, true, true, true, true, true, true, true, true, true, true, true, true, true, true, true, true] [(0, vs 11), (1, vi .u16 first_2), (5, vp 4 0), (8, vi .i64 x_10)] rfl (by kernel_rfl) (by kernel_rfl) (by kernel_rfl) ?_
           refine SD.doneThen (by kernel_rfl) ?_
           refine SC.reg ?_
           refine SL.sim tk 3 [(0, vs 11), (1, vi .u16 first_2), (5, vp 4 0), (8, vi .i64 (w64 (x_10 + 1)))] [] [] [] (by kernel_rfl) ?_
           refine SL.nilJ fun a w h => ?_
           exact ⟨n1, Nat.lt_succ_self _, x_16, w64 (x_10 + 1), next_inv hp hs1, h.at (js := [.g 0, .g 1, .g 2, .g 11, .g 4]) (by kernel_rfl)⟩
         · refine SC.exitJ rfl fun a w h => ?_
           have ho := done_inv hp hs1
           replace hp := ho1
           try rw [ho] at hp
           exact ⟨l_9, hp, h.at (js := [.g 0, .g 1, .g 2, .g 3]) (by kernel_rfl)⟩
       · rintro a w ⟨l_8, hp, h⟩
         refine h.go ?_
         refine SC.r tk [(6, vs 3)] [] [] [] (by kernel_rfl) ?_
         obtain rfl := some_inv' hp
         exact SC.re (js := [.g 0, .g 1, .g 2, .g 3]) tk (by kernel_rfl)

theorem ok_wirelessref43_Build (F : Nat) (l_1 : (List T_api_Service)) (first_2 : Int) (r : (List T_api_Attribute) × Int) (hp : wirelessref43_Build F l_1 first_2 = some r) : Spec Try.prog 16 [vs 0, vi .u16 first_2] [.rd 4 R_T_api_Service l_1] (.u [.inl (.s 1), .inl (ci .i64 r.2)]) [.gone, .rd 5 R_T_api_Attribute r.1] := by
 refine Spec.enter Try.func16 rfl Try.ntmps16 rfl rfl fun fx => ?_
 refine SC.r tk [(0, vs 0), (1, vi .u16 first_2)] [] [] [] (by kernel_rfl) ?_
 refine SC.seq ?_
 refine SC.r tk [(0, vs 0), (1, vi .u16 first_2), (13, vb (first_2 == 0))] [] [] [] (by kernel_rfl) ?_
 refine SC.if' rfl hp (fun hp => ?_) (fun hp => ?_)
 · refine SC.r tk [(4, vn), (5, vi .i64 5)] [] [] [] (by kernel_rfl) ?_
   obtain rfl := some_inv' hp
   exact SC.re (js := [.g 0, .n]) tk (by kernel_rfl)
 · refine SC.skipThen ?_
   refine SC.seq ?_
   refine SC.reg ?_
   refine SL.sim tk 1 [(0, vs 0), (1, vi .u16 first_2), (15, vs 0)] [] [] [] (by kernel_rfl) ?_
   obtain ⟨x_3, e_x_3, hp⟩ := bind_inv hp
   refine SL.eff (e_c Try.call45 (ok_wirelessref43_checkServices F l_1 _ e_x_3) [.g 0] [vs 0] (.u [.inl (ci .i64 x_3.1), .inl (ci .i64 x_3.2)]) (by kernel_rfl) (.inl rfl)) rfl (by kernel_rfl) ?_
   refine SL.sim tk 5 [(0, vs 0), (1, vi .u16 first_2), (6, vi .i64 x_3.1), (7, vi .i64 x_3.2)] [] [] [] (by kernel_rfl) ?_
   refine SL.nilThen ?_
   refine SC.seq ?_
   refine SC.r tk [(0, vs 0), (1, vi .u16 first_2), (6, vi .i64 x_3.1), (7, vi .i64 x_3.2), (20, vb (x_3.2 != 0))] [] [] [] (by kernel_rfl) ?_
   refine SC.if' rfl hp (fun hp => ?_) (fun hp => ?_)
   · refine SC.r tk [(4, vn), (5, vi .i64 x_3.2)] [] [] [] (by kernel_rfl) ?_
     obtain rfl := some_inv' hp
     exact SC.re (js := [.g 0, .n]) tk (by kernel_rfl)
   · refine SC.skipThen ?_
     refine SC.seq ?_
     refine SC.r tk [(0, vs 0), (1, vi .u16 first_2), (6, vi .i64 x_3.1), (23, vb (decide (x_3.1 > 1000)))] [] [] [] (by kernel_rfl) ?_
     refine SC.if' rfl hp (fun hp => ?_) (fun hp => ?_)
     · refine SC.r tk [(4, vn), (5, vi .i64 4)] [] [] [] (by kernel_rfl) ?_
       obtain rfl := some_inv' hp
       exact SC.re (js := [.g 0, .n]) tk (by kernel_rfl)
     · refine SC.skipThen ?_
       refine SC.seq ?_
       refine SC.r tk [(0, vs 0), (1, vi .u16 first_2), (29, vb (decide ((w64 ((w64 ((w64 first_2) + x_3.1)) - 1)) > 65535)))] [] [] [] (by kernel_rfl) ?_
       refine SC.if' rfl hp (fun hp => ?_) (fun hp => ?_)
       · refine SC.r tk [(4, vn), (5, vi .i64 8)] [] [] [] (by kernel_rfl) ?_
         obtain rfl := some_inv' hp
         exact SC.re (js := [.g 0, .n]) tk (by kernel_rfl)
       · refine SC.skipThen ?_
         refine SC.r tk [(0, vs 0), (1, vi .u16 first_2), (8, vn)] [] [] [] (by kernel_rfl) ?_
         refine SC.cut (fun a w => ∃ (l_4 : (List T_api_Attribute)), wirelessref43_Build_j1 F l_4 = some r ∧ A 74 1 fx [(8, vs 1)] [.gone, .own 5 39 R_T_api_Attribute l_4] a w) ?_ ?_
         · refine SC.r tk [(0, vs 0), (1, vi .u16 first_2), (8, vn), (9, vi .i64 0)] [] [] [] (by kernel_rfl) ?_
           refine SC.block ?_
           obtain ⟨o1, hi1, ho1⟩ := bind_inv hp
           clear hp
           refine SC.loop (fun n a w => ∃ (l_5 : (List T_api_Attribute)) (x_6 : Int), iter (fun s => wirelessref43_Build_l1 F l_1 first_2 s.1 s.2) n (l_5, x_6) = some o1 ∧ A 74 1 fx [(0, vs 0), (1, vi .u16 first_2), (8, vs 1), (9, vi .i64 x_6)] [.rd 4 R_T_api_Service l_1, .own 5 39 R_T_api_Attribute l_5] a w) F (fun a w h => ⟨[], 0, hi1, h.at (js := [.g 0, .n]) (by kernel_rfl)⟩) ?_
           rintro n1 a w ⟨l_5, x_6, hi1, h⟩
           obtain ⟨n1, q1, rfl, hp, hs1⟩ := iter_inv hi1
           replace hp : wirelessref43_Build_l1 F l_1 first_2 l_5 x_6 = some q1 := hp
           clear hi1
           refine h.go ?_
           refine SC.seq ?_
           refine SC.r tk [(0, vs 0), (1, vi .u16 first_2), (8, vs 1), (9, vi .i64 x_6), (33, vb (decide (x_6 < (len l_1))))] [] [] [] (by kernel_rfl) ?_
           refine SC.if' rfl hp (fun hp => ?_) (fun hp => ?_)
           · refine SC.skipThen ?_
             refine SC.cut (fun a w => ∃ (l_7 : (List T_api_Attribute)), wirelessref43_Build_j2 F x_6 l_7 = some q1 ∧ A 74 1 fx [(0, vs 0), (1, vi .u16 first_2), (8, vs 1), (9, vi .i64 x_6)] [.rd 4 R_T_api_Service l_1, .own 5 39 R_T_api_Attribute l_7] a w) ?_ ?_
             · refine SC.block ?_
               refine SC.r tk [(0, vs 0), (1, vi .u16 first_2), (8, vs 1), (9, vi .i64 x_6), (10, vi .u16 10241)] [] [] [] (by kernel_rfl) ?_
               refine SC.cut (fun a w => ∃ (x_8 : Int), wirelessref43_Build_j3 F l_1 first_2 l_5 x_6 x_8 = some q1 ∧ A 74 1 fx [(0, vs 0), (1, vi .u16 first_2), (8, vs 1), (9, vi .i64 x_6), (10, vi .u16 x_8)] [.rd 4 R_T_api_Service l_1, .own 5 39 R_T_api_Attribute l_5] a w) ?_ ?_
               · obtain ⟨x_22, e_x_22, hp⟩ := bind_inv hp
                 refine SC.pre (pre_ix (i := 0) (iv := x_6) (sz := 4) (R := R_T_api_Service) (l := l_1) (by kernel_rfl) rfl e_x_22) ?_
                 refine SC.r tk [(0, vs 0), (1, vi .u16 first_2), (8, vs 1), (9, vi .i64 x_6), (10, vi .u16 10241), (40, vb x_22.Primary)] [] [.el 2] [x_6] (by kernel_rfl) ?_
                 refine SC.if' rfl hp (fun hp => ?_) (fun hp => ?_)
                 · refine SC.reg ?_
                   refine SL.sim tk 1 [(0, vs 0), (1, vi .u16 first_2), (8, vs 1), (9, vi .i64 x_6), (10, vi .u16 10240)] [] [] [] (by kernel_rfl) ?_
                   refine SL.nilJ fun a w h => ?_
                   exact ⟨10240, hp, h.at (js := [.g 0, .g 1]) (by kernel_rfl)⟩
                 · refine SC.skipJ fun a w h => ?_
                   exact ⟨10241, hp, h.at (js := [.g 0, .g 1]) (by kernel_rfl)⟩
               · rintro a w ⟨x_8, hp, h⟩
                 refine h.go ?_
                 refine SC.cut (fun a w => ∃ (l_9 : (List T_api_Attribute)), wirelessref43_Build_j4 F l_1 first_2 x_6 l_9 = some q1 ∧ A 74 1 fx [(0, vs 0), (1, vi .u16 first_2), (8, vs 1), (9, vi .i64 x_6)] [.rd 4 R_T_api_Service l_1, .own 5 39 R_T_api_Attribute l_9] a w) ?_ ?_
                 · obtain ⟨x_16, e_x_16, hp⟩ := bind_inv hp
                   refine SC.pre (pre_ix (i := 0) (iv := x_6) (sz := 4) (R := R_T_api_Service) (l := l_1) (by kernel_rfl) rfl e_x_16) ?_
                   refine SC.draw MO [true, false, true, true] (by kernel_rfl) fun kap_17 D_18 => ?_
                   refine SD.takes tk D_18 [] kn0 [0, 1, 2, 4, 5, 6, 7, 8] [.el 2] [x_6] [true, true, true, false, true, true, true, true, true, false, false, false] [(0, vs 0), (1, vi .u16 first_2), (8, vs 1), (9, vi .i64 x_6), (41, vs 1), (42, vi .u16 first_2), (43, vi .u16 x_8), (49, .g (C_api_UUID x_16.f_Type))] rfl (by kernel_rfl) (by kernel_rfl) (by kernel_rfl) ?_
                   obtain ⟨x_19, e_x_19, hp⟩ := bind_inv hp
                   refine SD.all1 (i := 3) (by kernel_rfl) ?_
                   refine SW.eff D_18 (i := 3) (bs' := [true, true, true, true, true, true, true, true, true, false, false, false]) rfl (.inl rfl) rfl (e_c Try.call34 (ok_wirelessref41_Short F x_8 _ e_x_19) [] [vi .u16 x_8] (.g (C_api_UUID x_19)) (by kernel_rfl) (.inl rfl)) (by kernel_rfl) rfl (by kernel_rfl) ?_
                   obtain ⟨x_20, e_x_20, hp⟩ := bind_inv hp
                   refine SD.all1 (i := 9) (by kernel_rfl) ?_
                   refine SW.eff D_18 (i := 9) (bs' := [true, true, true, true, true, true, true, true, true, true, false, false]) rfl (.inl rfl) rfl (e_c Try.call47 (ok_wirelessref41_Encode F x_16.f_Type _ e_x_20) [] [.g (C_api_UUID x_16.f_Type)] (vs 4) (by kernel_rfl) (.inl rfl)) (by kernel_rfl) rfl (by kernel_rfl) ?_
                   refine SD.norm (itsN := [.rd 4 R_T_api_Service l_1, .own 5 39 R_T_api_Attribute l_5, .elt (some (0, x_6)) false (C_api_Service x_16 (.s 3)), .rd 6 R_T_api_Char x_16.Chars, .rd 1 R8 x_20]) (by kernel_rfl) ?_
                   obtain ⟨x_21, e_x_21, hp⟩ := bind_inv hp
                   refine SD.all1 (i := 10) (by kernel_rfl) ?_
                   refine SW.eff D_18 (i := 10) (bs' := [true, true, true, true, true, true, true, true, true, true, true, false]) rfl (.inl rfl) rfl (e_c Try.call46 (ok_wirelessref43_add F l_5 first_2 x_19 1 x_20 _ e_x_21) [.g 1, .g 4] [vs 1, vi .u16 first_2, .g (C_api_UUID x_19), vi .i64 1, vs 4] (vs 5) (by kernel_rfl) (.inl rfl)) (by kernel_rfl) rfl (by kernel_rfl) ?_
                   refine SD.takes tk D_18 [] kn0 [11] [] [] [true, true, true, true, true, true, true, true, true, true, true, true] [(0, vs 0), (1, vi .u16 first_2), (8, vs 5), (9, vi .i64 x_6)] rfl (by kernel_rfl) (by kernel_rfl) (by kernel_rfl) ?_
                   refine SD.done (by kernel_rfl) fun a w h => ?_
                   exact ⟨x_21, hp, h.at (js := [.g 0, .g 5]) (by kernel_rfl)⟩
                 · rintro a w ⟨l_9, hp, h⟩
                   refine h.go ?_
                   refine SC.r tk [(0, vs 0), (1, vi .u16 first_2), (8, vs 1), (9, vi .i64 x_6), (11, vi .i64 0)] [] [] [] (by kernel_rfl) ?_
                   refine SC.block ?_
                   obtain ⟨o2, hi2, ho2⟩ := bind_inv hp
                   clear hp
                   refine SC.loop (fun n a w => ∃ (l_10 : (List T_api_Attribute)) (x_11 : Int), iter (fun s => wirelessref43_Build_l2 F l_1 first_2 x_6 s.1 s.2) n (l_10, x_11) = some o2 ∧ A 74 1 fx [(0, vs 0), (1, vi .u16 first_2), (8, vs 1), (9, vi .i64 x_6), (11, vi .i64 x_11)] [.rd 4 R_T_api_Service l_1, .own 5 39 R_T_api_Attribute l_10] a w) F (fun a w h => ⟨l_9, 0, hi2, h.at (js := [.g 0, .g 1]) (by kernel_rfl)⟩) ?_
                   rintro n2 a w ⟨l_10, x_11, hi2, h⟩
                   obtain ⟨n2, q2, rfl, hp, hs2⟩ := iter_inv hi2
                   replace hp : wirelessref43_Build_l2 F l_1 first_2 x_6 l_10 x_11 = some q2 := hp
                   clear hi2
                   refine h.go ?_
                   refine SC.seq ?_
                   obtain ⟨x_12, e_x_12, hp⟩ := bind_inv hp
                   refine SC.pre (pre_ix (i := 0) (iv := x_6) (sz := 4) (R := R_T_api_Service) (l := l_1) (by kernel_rfl) rfl e_x_12) ?_
                   refine SC.r tk [(0, vs 0), (1, vi .u16 first_2), (8, vs 1), (9, vi .i64 x_6), (11, vi .i64 x_11), (59, vb (decide (x_11 < (len x_12.Chars))))] [] [.el 2] [x_6] (by kernel_rfl) ?_
                   refine SC.if' rfl hp (fun hp => ?_) (fun hp => ?_)
                   · refine SC.skipThen ?_
                     refine SC.seq ?_
                     refine SC.block ?_
                     refine SC.reg ?_
                     obtain ⟨x_13, e_x_13, hp⟩ := bind_inv hp
                     obtain ⟨x_14, e_x_14, hp⟩ := bind_inv hp
                     refine SL.pre (pre_ix (i := 0) (iv := x_6) (sz := 4) (R := R_T_api_Service) (l := l_1) (by kernel_rfl) rfl e_x_13) ?_
                     refine SL.pre (pre_ix (i := 5) (iv := x_11) (sz := 6) (R := R_T_api_Char) (l := x_13.Chars) (by kernel_rfl) rfl e_x_14) ?_
                     refine SL.sim tk 10 [(0, vs 0), (1, vi .u16 first_2), (8, vs 1), (9, vi .i64 x_6), (11, vi .i64 x_11), (62, vs 1), (63, vi .u16 first_2), (71, .g (C_api_Char x_14 (.s 7) (.s 8)))] [] [.el 4, .el 6] [x_6, x_11] (by kernel_rfl) ?_
                     obtain ⟨x_15, e_x_15, hp⟩ := bind_inv hp
                     refine SL.eff (e_c Try.call48 (ok_wirelessref43_addChar F l_10 first_2 x_14 _ e_x_15) [.g 1, .g 7, .g 8] [vs 1, vi .u16 first_2, .g (C_api_Char x_14 (.s 7) (.s 8))] (vs 9) (by kernel_rfl) (.inl rfl)) rfl (by kernel_rfl) ?_
                     refine SL.norm (itsN := [.rd 4 R_T_api_Service l_1, .gone, .elt (some (0, x_6)) false (C_api_Service x_12 (.s 3)), .rd 6 R_T_api_Char x_12.Chars, .elt (some (0, x_6)) false (C_api_Service x_13 (.s 5)), .rd 6 R_T_api_Char x_13.Chars, .elt (some (5, x_11)) false (C_api_Char x_14 (.s 7) (.s 8)), .rd 1 R8 x_14.Value, .rd 5 R_T_api_Attribute x_14.More, .own 5 39 R_T_api_Attribute x_15]) (by kernel_rfl) ?_
                     refine SL.sim tk 1 [(0, vs 0), (1, vi .u16 first_2), (8, vs 9), (9, vi .i64 x_6), (11, vi .i64 x_11)] [] [] [] (by kernel_rfl) ?_
                     refine SL.nilThen ?_
                     refine SC.reg ?_
                     refine SL.sim tk 3 [(0, vs 0), (1, vi .u16 first_2), (8, vs 9), (9, vi .i64 x_6), (11, vi .i64 (w64 (x_11 + 1)))] [] [] [] (by kernel_rfl) ?_
                     refine SL.nilJ fun a w h => ?_
                     exact ⟨n2, Nat.lt_succ_self _, x_15, w64 (x_11 + 1), next_inv hp hs2, h.at (js := [.g 0, .g 9]) (by kernel_rfl)⟩
                   · refine SC.exitJ rfl fun a w h => ?_
                     have ho := done_inv hp hs2
                     replace hp := ho2
                     try rw [ho] at hp
                     exact ⟨l_10, hp, h.at (js := [.g 0, .g 1]) (by kernel_rfl)⟩
             · rintro a w ⟨l_7, hp, h⟩
               refine h.go ?_
               refine SC.reg ?_
               refine SL.sim tk 3 [(0, vs 0), (1, vi .u16 first_2), (8, vs 1), (9, vi .i64 (w64 (x_6 + 1)))] [] [] [] (by kernel_rfl) ?_
               refine SL.nilJ fun a w h => ?_
               exact ⟨n1, Nat.lt_succ_self _, l_7, w64 (x_6 + 1), next_inv hp hs1, h.at (js := [.g 0, .g 1]) (by kernel_rfl)⟩
           · refine SC.exitJ rfl fun a w h => ?_
             have ho := done_inv hp hs1
             replace hp := ho1
             try rw [ho] at hp
             exact ⟨l_5, hp, h.at (js := [.g 0, .g 1]) (by kernel_rfl)⟩
         · rintro a w ⟨l_4, hp, h⟩
           refine h.go ?_
           refine SC.r tk [(4, vs 1), (5, vi .i64 0)] [] [] [] (by kernel_rfl) ?_
           obtain rfl := some_inv' hp
           exact SC.re (js := [.g 0, .z 1]) tk (by kernel_rfl)
end V
end Go.Proofs.Ytchlimkophmjlaa
