/-
  Walks, written by program: each Go function returns what its pure twin says.
-/
import Derived.Test.YtchlimkophmjlaaW1
namespace Go.Proofs.Ytchlimkophmjlaa
namespace V
theorem ok_wirelesslaw43_exampleHolds (F : Nat) (r : Bool) (hp : wirelesslaw43_exampleHolds F = some r) : Spec Try.prog 11 [] [] (vb r) [] := by
 refine Spec.enter Try.func11 rfl Try.ntmps11 rfl rfl fun fx => ?_
 refine SC.r tk [] [] [] [] (by kernel_rfl) ?_
 refine SC.seq ?_
 refine SC.reg ?_
 obtain ⟨x_1, e_x_1, hp⟩ := bind_inv hp
 refine SL.eff (e_c Try.call32 (ok_wirelesslaw43_sample F  _ e_x_1) [] [] (vs 0) (by kernel_rfl) (.inl rfl)) rfl (by kernel_rfl) ?_
 obtain ⟨x_2, e_x_2, hp⟩ := bind_inv hp
 refine SL.eff (e_c Try.call15 (ok_database_Build F x_1 1 _ e_x_2) [.g 0] [vs 0, vi .u16 1] (.u [.inl (.s 1), .inl (ci .i64 x_2.2)]) (by kernel_rfl) (.inl rfl)) rfl (by kernel_rfl) ?_
 refine SL.norm (itsN := [.rd 4 R_T_api_Service x_1, .rd 5 R_T_api_Attribute x_2.1]) (by kernel_rfl) ?_
 refine SL.sim tk 5 [(1, vs 1), (2, vi .i64 x_2.2)] [] [] [] (by kernel_rfl) ?_
 refine SL.nilThen ?_
 refine SC.seq ?_
 refine SC.reg ?_
 refine SL.sim tk 1 [(1, vs 1), (2, vi .i64 x_2.2), (16, vs 1)] [] [] [] (by kernel_rfl) ?_
 obtain ⟨x_3, e_x_3, hp⟩ := bind_inv hp
 refine SL.eff (e_c Try.call30 (ok_database_Set F x_2.1 4 [] _ e_x_3) [.g 1, .n] [vs 1, vi .u16 4, vn] (.u [.inl (.s 2), .inl (ci .i64 x_3.2)]) (by kernel_rfl) (.inl rfl)) rfl (by kernel_rfl) ?_
 refine SL.sim tk 5 [(1, vs 1), (2, vi .i64 x_2.2), (4, vi .i64 x_3.2)] [] [] [] (by kernel_rfl) ?_
 refine SL.nilThen ?_
 refine SC.seq ?_
 refine SC.reg ?_
 refine SL.sim tk 1 [(1, vs 1), (2, vi .i64 x_2.2), (4, vi .i64 x_3.2), (21, vs 1)] [] [] [] (by kernel_rfl) ?_
 obtain ⟨x_4, e_x_4, hp⟩ := bind_inv hp
 refine SL.eff (e_c Try.call30 (ok_database_Set F x_2.1 5 [] _ e_x_4) [.g 1, .n] [vs 1, vi .u16 5, vn] (.u [.inl (.s 3), .inl (ci .i64 x_4.2)]) (by kernel_rfl) (.inl rfl)) rfl (by kernel_rfl) ?_
 refine SL.norm (itsN := [.rd 4 R_T_api_Service x_1, .rd 5 R_T_api_Attribute x_2.1, .rd 5 R_T_api_Attribute x_3.1, .rd 5 R_T_api_Attribute x_4.1]) (by kernel_rfl) ?_
 refine SL.sim tk 5 [(1, vs 1), (2, vi .i64 x_2.2), (4, vi .i64 x_3.2), (6, vi .i64 x_4.2)] [] [] [] (by kernel_rfl) ?_
 refine SL.nilThen ?_
 refine SC.seq ?_
 refine SC.reg ?_
 refine SL.sim tk 1 [(1, vs 1), (2, vi .i64 x_2.2), (4, vi .i64 x_3.2), (6, vi .i64 x_4.2), (25, vs 1)] [] [] [] (by kernel_rfl) ?_
 obtain ⟨x_5, e_x_5, hp⟩ := bind_inv hp
 refine SL.eff (e_c Try.call18 (ok_database_Found F x_2.1 _ e_x_5) [.g 1] [vs 1] (vs 4) (by kernel_rfl) (.inl rfl)) rfl (by kernel_rfl) ?_
 refine SL.sim tk 1 [(1, vs 1), (2, vi .i64 x_2.2), (4, vi .i64 x_3.2), (6, vi .i64 x_4.2), (7, vs 4)] [] [] [] (by kernel_rfl) ?_
 refine SL.nilThen ?_
 refine SC.seq ?_
 refine SC.r tk [(1, vs 1), (7, vs 4), (46, vb (((((x_2.2 != 0) || ((len x_2.1) != 4)) || ((len x_5) != 3)) || (x_3.2 != 14)) || (x_4.2 != 6)))] [] [] [] (by kernel_rfl) ?_
 refine SC.if' rfl hp (fun hp => ?_) (fun hp => ?_)
 · refine SC.r tk [(0, vb false)] [] [] [] (by kernel_rfl) ?_
   obtain rfl := some_inv' hp
   exact SC.re (js := []) tk (by kernel_rfl)
 · refine SC.skipThen ?_
   refine SC.seq ?_
   refine SC.reg ?_
   refine SL.sim tk 1 [(1, vs 1), (7, vs 4), (48, vs 1)] [] [] [] (by kernel_rfl) ?_
   obtain ⟨x_6, e_x_6, hp⟩ := bind_inv hp
   refine SL.eff (e_c Try.call20 (ok_database_Group F x_2.1 1 _ e_x_6) [.g 1] [vs 1, vi .u16 1] (.u [.inl (ci .u16 x_6.1), .inl (cb x_6.2)]) (by kernel_rfl) (.inl rfl)) rfl (by kernel_rfl) ?_
   refine SL.norm (itsN := [.rd 4 R_T_api_Service x_1, .rd 5 R_T_api_Attribute x_2.1, .rd 5 R_T_api_Attribute x_3.1, .rd 5 R_T_api_Attribute x_4.1, .rd 6 R_T_api_Found x_5]) (by kernel_rfl) ?_
   refine SL.sim tk 5 [(1, vs 1), (7, vs 4), (8, vi .u16 x_6.1), (9, vb x_6.2)] [] [] [] (by kernel_rfl) ?_
   refine SL.nilThen ?_
   refine SC.cut (fun a w => ∃ (z_7 : Bool), wirelesslaw43_exampleHolds_j1 F z_7 = some r ∧ A 110 0 fx [(0, vb z_7)] [] a w) ?_ ?_
   · refine SC.draw MO [true, true, true, true, true] (by kernel_rfl) fun kap_8 D_9 => ?_
     refine SD.takes tk D_9 [] kn0 [0, 1, 2, 3, 4, 5] [] [] [I, I, I, I, I, I, O, O, O, O, O, O, O, O, O, O, O, O, O, O, O, O, O, O, O, O, O, O, O, O, O, O, O, O, O, O, O, O, O, O, O, O, O, O, O, O, O, O, O, O, O, O, O, O, O, O, O, O, O] [(1, vs 1), (7, vs 4), (57, vb ((x_6.1 == 4) && x_6.2))] rfl (by kernel_rfl) (by kernel_rfl) (by kernel_rfl) ?_
     rcases Bool.eq_false_or_eq_true (((x_6.1 == 4) && x_6.2)) with hg_10 | hg_10
     · replace hp := if_t hp hg_10
       refine SD.takes tk D_9 [(57, true)] (knS rfl hg_10 kn0) [6] [] [] [I, I, I, I, I, I, I, O, O, O, O, O, O, O, O, O, O, O, O, O, O, O, O, O, O, O, O, O, O, O, O, O, O, O, O, O, O, O, O, O, O, O, O, O, O, O, O, O, O, O, O, O, O, O, O, O, O, O, O] [(1, vs 1), (7, vs 4), (57, vb ((x_6.1 == 4) && x_6.2)), (58, vs 1)] rfl (by kernel_rfl) (by kernel_rfl) (by kernel_rfl) ?_
       obtain ⟨x_571, e_x_571, hp⟩ := bind_inv hp
       obtain ⟨x_891, e_x_891, hp⟩ := bind_inv hp
       refine SD.lay 45 [I, I, I, I, I, I, I, I, I, I, I, I, I, I, O, O, O, O, O, O, O, O, O, O, O, O, O, O, O, O, O, O, O, O, O, O, O, O, O, O, O, O, O, O, O, O, O, O, O, O, O, O, O, O, O, O, O, O, O] [(1, vs 1), (7, vs 4), (65, vb x_891)] [.rd 4 R_T_api_Service x_1, .rd 5 R_T_api_Attribute x_2.1, .rd 5 R_T_api_Attribute x_3.1, .rd 5 R_T_api_Attribute x_4.1, .rd 6 R_T_api_Found x_5] ?_ (fun c_10_0 => ?_)
       · rcases Bool.eq_false_or_eq_true (x_891) with hg_4811 | hg_4811
         · replace hp := if_t hp hg_4811
           refine SD.takes tk D_9 [(65, true)] (knS rfl hg_4811 kn0) [14] [] [] [I, I, I, I, I, I, I, I, I, I, I, I, I, I, I, O, O, O, O, O, O, O, O, O, O, O, O, O, O, O, O, O, O, O, O, O, O, O, O, O, O, O, O, O, O, O, O, O, O, O, O, O, O, O, O, O, O, O, O] [(1, vs 1), (7, vs 4), (65, vb x_891), (66, vs 1)] rfl (by kernel_rfl) (by kernel_rfl) (by kernel_rfl) ?_
           obtain ⟨x_6012, e_x_6012, hp⟩ := bind_inv hp
           obtain ⟨x_6332, e_x_6332, hp⟩ := bind_inv hp
           refine SD.lay 37 [I, I, I, I, I, I, I, I, I, I, I, I, I, I, I, I, I, I, I, I, I, I, O, O, O, O, O, O, O, O, O, O, O, O, O, O, O, O, O, O, O, O, O, O, O, O, O, O, O, O, O, O, O, O, O, O, O, O, O] [(1, vs 1), (7, vs 4), (73, vb x_6332)] [.rd 4 R_T_api_Service x_1, .rd 5 R_T_api_Attribute x_2.1, .rd 5 R_T_api_Attribute x_3.1, .rd 5 R_T_api_Attribute x_4.1, .rd 6 R_T_api_Found x_5] ?_ (fun c_4811_0 => ?_)
           · rcases Bool.eq_false_or_eq_true (x_6332) with hg_9612 | hg_9612
             · replace hp := if_t hp hg_9612
               refine SD.takes tk D_9 [(73, true)] (knS rfl hg_9612 kn0) [22] [] [] [I, I, I, I, I, I, I, I, I, I, I, I, I, I, I, I, I, I, I, I, I, I, I, O, O, O, O, O, O, O, O, O, O, O, O, O, O, O, O, O, O, O, O, O, O, O, O, O, O, O, O, O, O, O, O, O, O, O, O] [(1, vs 1), (7, vs 4), (73, vb x_6332), (74, vs 1)] rfl (by kernel_rfl) (by kernel_rfl) (by kernel_rfl) ?_
               obtain ⟨x_9613, e_x_9613, hp⟩ := bind_inv hp
               refine SD.pre (pre_ix (i := 1) (iv := 3) (sz := 5) (R := R_T_api_Attribute) (l := x_2.1) (by kernel_rfl) rfl e_x_9613) ?_
               refine SD.all1 (i := 23) (by kernel_rfl) ?_
               refine SW.eff D_9 (i := 23) (v := vp 5 0) (bs' := [I, I, I, I, I, I, I, I, I, I, I, I, I, I, I, I, I, I, I, I, I, I, I, I, O, O, O, O, O, O, O, O, O, O, O, O, O, O, O, O, O, O, O, O, O, O, O, O, O, O, O, O, O, O, O, O, O, O, O]) rfl (.inr ⟨_, _, _, _, rfl, rfl, rfl, hg_9612⟩) rfl (e_valE tk (.el 5) [3] (by kernel_rfl)) (by kernel_rfl) rfl (by kernel_rfl) ?_
               refine SD.all1 (i := 24) (by kernel_rfl) ?_
               refine SW.eff D_9 (i := 24) (v := vp 5 4) (bs' := [I, I, I, I, I, I, I, I, I, I, I, I, I, I, I, I, I, I, I, I, I, I, I, I, I, O, O, O, O, O, O, O, O, O, O, O, O, O, O, O, O, O, O, O, O, O, O, O, O, O, O, O, O, O, O, O, O, O, O]) rfl (.inr ⟨_, _, _, _, rfl, rfl, rfl, hg_9612⟩) rfl (e_val tk (by kernel_rfl)) (by kernel_rfl) rfl (by kernel_rfl) ?_
               refine SD.norm (itsN := [.rd 4 R_T_api_Service x_1, .rd 5 R_T_api_Attribute x_2.1, .rd 5 R_T_api_Attribute x_3.1, .rd 5 R_T_api_Attribute x_4.1, .rd 6 R_T_api_Found x_5, .elt (some (1, 3)) false (C_api_Attribute x_9613 (.s 6)), .rd 1 R8 x_9613.Value]) (by kernel_rfl) ?_
               refine SD.all1 (i := 25) (by kernel_rfl) ?_
               refine SW.eff D_9 (i := 25) (v := vs 6) (bs' := [I, I, I, I, I, I, I, I, I, I, I, I, I, I, I, I, I, I, I, I, I, I, I, I, I, I, O, O, O, O, O, O, O, O, O, O, O, O, O, O, O, O, O, O, O, O, O, O, O, O, O, O, O, O, O, O, O, O, O]) rfl (.inr ⟨_, _, _, _, rfl, rfl, rfl, hg_9612⟩) rfl (e_val tk (by kernel_rfl)) (by kernel_rfl) rfl (by kernel_rfl) ?_
               refine SD.all1 (i := 26) (by kernel_rfl) ?_
               refine SW.eff D_9 (i := 26) (v := vi .i64 (len x_9613.Value)) (bs' := [I, I, I, I, I, I, I, I, I, I, I, I, I, I, I, I, I, I, I, I, I, I, I, I, I, I, I, O, O, O, O, O, O, O, O, O, O, O, O, O, O, O, O, O, O, O, O, O, O, O, O, O, O, O, O, O, O, O, O]) rfl (.inr ⟨_, _, _, _, rfl, rfl, rfl, hg_9612⟩) rfl (e_val tk (by kernel_rfl)) (by kernel_rfl) rfl (by kernel_rfl) ?_
               refine SD.norm (itsN := [.rd 4 R_T_api_Service x_1, .rd 5 R_T_api_Attribute x_2.1, .rd 5 R_T_api_Attribute x_3.1, .rd 5 R_T_api_Attribute x_4.1, .rd 6 R_T_api_Found x_5, .elt (some (1, 3)) false (C_api_Attribute x_9613 (.s 6)), .rd 1 R8 x_9613.Value]) (by kernel_rfl) ?_
               refine SD.takes tk D_9 [(73, true)] (knS rfl hg_9612 kn0) [27, 28, 29] [] [] [I, I, I, I, I, I, I, I, I, I, I, I, I, I, I, I, I, I, I, I, I, I, I, I, I, I, I, I, I, I, O, O, O, O, O, O, O, O, O, O, O, O, O, O, O, O, O, O, O, O, O, O, O, O, O, O, O, O, O] [(1, vs 1), (7, vs 4), (81, vb ((len x_9613.Value) == 2))] rfl (by kernel_rfl) (by kernel_rfl) (by kernel_rfl) ?_
               rcases Bool.eq_false_or_eq_true (((len x_9613.Value) == 2)) with hg_9614 | hg_9614
               · replace hp := if_t hp hg_9614
                 refine SD.takes tk D_9 [(81, true)] (knS rfl hg_9614 kn0) [30] [] [] [I, I, I, I, I, I, I, I, I, I, I, I, I, I, I, I, I, I, I, I, I, I, I, I, I, I, I, I, I, I, I, O, O, O, O, O, O, O, O, O, O, O, O, O, O, O, O, O, O, O, O, O, O, O, O, O, O, O, O] [(1, vs 1), (7, vs 4), (81, vb ((len x_9613.Value) == 2)), (82, vs 4)] rfl (by kernel_rfl) (by kernel_rfl) (by kernel_rfl) ?_
                 obtain ⟨x_12095, e_x_12095, hp⟩ := bind_inv hp
                 obtain ⟨x_12255, e_x_12255, hp⟩ := bind_inv hp
                 refine SD.lay 21 [I, I, I, I, I, I, I, I, I, I, I, I, I, I, I, I, I, I, I, I, I, I, I, I, I, I, I, I, I, I, I, I, I, I, I, I, I, I, O, O, O, O, O, O, O, O, O, O, O, O, O, O, O, O, O, O, O, O, O] [(1, vs 1), (7, vs 4), (89, vb ((x_12095.Handle == 1) && ((x_12095.Last == 4) && ((x_12095.Value == 0) && ((x_12095.Props == 0) && ((x_12095.f_Type.High == x_12255.High) && (x_12095.f_Type.Low == x_12255.Low)))))))] [.rd 4 R_T_api_Service x_1, .rd 5 R_T_api_Attribute x_2.1, .rd 5 R_T_api_Attribute x_3.1, .rd 5 R_T_api_Attribute x_4.1, .rd 6 R_T_api_Found x_5] ?_ (fun c_9614_0 => ?_)
                 · rcases Bool.eq_false_or_eq_true (((x_12095.Handle == 1) && ((x_12095.Last == 4) && ((x_12095.Value == 0) && ((x_12095.Props == 0) && ((x_12095.f_Type.High == x_12255.High) && (x_12095.f_Type.Low == x_12255.Low))))))) with hg_14415 | hg_14415
                   · replace hp := if_t hp hg_14415
                     refine SD.takes tk D_9 [(89, true)] (knS rfl hg_14415 kn0) [38] [] [] [I, I, I, I, I, I, I, I, I, I, I, I, I, I, I, I, I, I, I, I, I, I, I, I, I, I, I, I, I, I, I, I, I, I, I, I, I, I, I, O, O, O, O, O, O, O, O, O, O, O, O, O, O, O, O, O, O, O, O] [(1, vs 1), (7, vs 4), (89, vb ((x_12095.Handle == 1) && ((x_12095.Last == 4) && ((x_12095.Value == 0) && ((x_12095.Props == 0) && ((x_12095.f_Type.High == x_12255.High) && (x_12095.f_Type.Low == x_12255.Low))))))), (90, vs 4)] rfl (by kernel_rfl) (by kernel_rfl) (by kernel_rfl) ?_
                     obtain ⟨x_17536, e_x_17536, hp⟩ := bind_inv hp
                     obtain ⟨x_17696, e_x_17696, hp⟩ := bind_inv hp
                     refine SD.lay 13 [I, I, I, I, I, I, I, I, I, I, I, I, I, I, I, I, I, I, I, I, I, I, I, I, I, I, I, I, I, I, I, I, I, I, I, I, I, I, I, I, I, I, I, I, I, I, O, O, O, O, O, O, O, O, O, O, O, O, O] [(1, vs 1), (7, vs 4), (97, vb ((x_17536.Handle == 2) && ((x_17536.Last == 0) && ((x_17536.Value == 3) && ((x_17536.Props == 32) && ((x_17536.f_Type.High == x_17696.High) && (x_17536.f_Type.Low == x_17696.Low)))))))] [.rd 4 R_T_api_Service x_1, .rd 5 R_T_api_Attribute x_2.1, .rd 5 R_T_api_Attribute x_3.1, .rd 5 R_T_api_Attribute x_4.1, .rd 6 R_T_api_Found x_5] ?_ (fun c_14415_0 => ?_)
                     · rcases Bool.eq_false_or_eq_true (((x_17536.Handle == 2) && ((x_17536.Last == 0) && ((x_17536.Value == 3) && ((x_17536.Props == 32) && ((x_17536.f_Type.High == x_17696.High) && (x_17536.f_Type.Low == x_17696.Low))))))) with hg_19216 | hg_19216
                       · replace hp := if_t hp hg_19216
                         refine SD.takes tk D_9 [(97, true)] (knS rfl hg_19216 kn0) [46] [] [] [I, I, I, I, I, I, I, I, I, I, I, I, I, I, I, I, I, I, I, I, I, I, I, I, I, I, I, I, I, I, I, I, I, I, I, I, I, I, I, I, I, I, I, I, I, I, I, O, O, O, O, O, O, O, O, O, O, O, O] [(1, vs 1), (97, vb ((x_17536.Handle == 2) && ((x_17536.Last == 0) && ((x_17536.Value == 3) && ((x_17536.Props == 32) && ((x_17536.f_Type.High == x_17696.High) && (x_17536.f_Type.Low == x_17696.Low))))))), (98, vs 4)] rfl (by kernel_rfl) (by kernel_rfl) (by kernel_rfl) ?_
                         obtain ⟨x_22977, e_x_22977, hp⟩ := bind_inv hp
                         obtain ⟨x_23137, e_x_23137, hp⟩ := bind_inv hp
                         refine SD.lay 5 [I, I, I, I, I, I, I, I, I, I, I, I, I, I, I, I, I, I, I, I, I, I, I, I, I, I, I, I, I, I, I, I, I, I, I, I, I, I, I, I, I, I, I, I, I, I, I, I, I, I, I, I, I, I, O, O, O, O, O] [(1, vs 1), (105, vb ((x_22977.Handle == 4) && ((x_22977.Last == 0) && ((x_22977.Value == 0) && ((x_22977.Props == 0) && ((x_22977.f_Type.High == x_23137.High) && (x_22977.f_Type.Low == x_23137.Low)))))))] [.rd 4 R_T_api_Service x_1, .rd 5 R_T_api_Attribute x_2.1, .rd 5 R_T_api_Attribute x_3.1, .rd 5 R_T_api_Attribute x_4.1, .rd 6 R_T_api_Found x_5] ?_ (fun c_19216_0 => ?_)
                         · rcases Bool.eq_false_or_eq_true (((x_22977.Handle == 4) && ((x_22977.Last == 0) && ((x_22977.Value == 0) && ((x_22977.Props == 0) && ((x_22977.f_Type.High == x_23137.High) && (x_22977.f_Type.Low == x_23137.Low))))))) with hg_24017 | hg_24017
                           · replace hp := if_t hp hg_24017
                             refine SD.takes tk D_9 [(105, true)] (knS rfl hg_24017 kn0) [54] [] [] [I, I, I, I, I, I, I, I, I, I, I, I, I, I, I, I, I, I, I, I, I, I, I, I, I, I, I, I, I, I, I, I, I, I, I, I, I, I, I, I, I, I, I, I, I, I, I, I, I, I, I, I, I, I, I, O, O, O, O] [(105, vb ((x_22977.Handle == 4) && ((x_22977.Last == 0) && ((x_22977.Value == 0) && ((x_22977.Props == 0) && ((x_22977.f_Type.High == x_23137.High) && (x_22977.f_Type.Low == x_23137.Low))))))), (106, vs 1)] rfl (by kernel_rfl) (by kernel_rfl) (by kernel_rfl) ?_
                             obtain ⟨x_24018, e_x_24018, hp⟩ := bind_inv hp
                             refine SD.all1 (i := 55) (by kernel_rfl) ?_
                             refine SW.eff D_9 (i := 55) (bs' := [I, I, I, I, I, I, I, I, I, I, I, I, I, I, I, I, I, I, I, I, I, I, I, I, I, I, I, I, I, I, I, I, I, I, I, I, I, I, I, I, I, I, I, I, I, I, I, I, I, I, I, I, I, I, I, I, O, O, O]) rfl (.inr ⟨_, _, _, _, rfl, rfl, rfl, hg_24017⟩) rfl (e_c Try.call12 (ok_database_Check F x_2.1 _ e_x_24018) [.g 1] [vs 1] (vi .i64 x_24018) (by kernel_rfl) (.inl rfl)) (by kernel_rfl) rfl (by kernel_rfl) ?_
                             refine SD.takes tk D_9 [(105, true)] (knS rfl hg_24017 kn0) [56, 57, 58] [] [] [I, I, I, I, I, I, I, I, I, I, I, I, I, I, I, I, I, I, I, I, I, I, I, I, I, I, I, I, I, I, I, I, I, I, I, I, I, I, I, I, I, I, I, I, I, I, I, I, I, I, I, I, I, I, I, I, I, I, I] [(0, vb (x_24018 == 0))] rfl (by kernel_rfl) (by kernel_rfl) (by kernel_rfl) ?_
                             refine SD.done (by kernel_rfl) fun a w h => ?_
                             exact ⟨(x_24018 == 0), hp, h.at (js := []) (by kernel_rfl)⟩
                           · replace hp := if_f hp hg_24017
                             refine SD.takes tk D_9 [(105, false)] (knS rfl hg_24017 kn0) [54, 55, 56, 57, 58] [] [] [I, I, I, I, I, I, I, I, I, I, I, I, I, I, I, I, I, I, I, I, I, I, I, I, I, I, I, I, I, I, I, I, I, I, I, I, I, I, I, I, I, I, I, I, I, I, I, I, I, I, I, I, I, I, I, I, I, I, I] [(0, vb false)] rfl (by kernel_rfl) (by kernel_rfl) (by kernel_rfl) ?_
                             refine SD.done (by kernel_rfl) fun a w h => ?_
                             exact ⟨false, hp, h.at (js := []) (by kernel_rfl)⟩
                         · refine SD.lay 8 [I, I, I, I, I, I, I, I, I, I, I, I, I, I, I, I, I, I, I, I, I, I, I, I, I, I, I, I, I, I, I, I, I, I, I, I, I, I, I, I, I, I, I, I, I, I, I, I, I, I, I, O, O, O, O, O, O, O, O] [(1, vs 1), (97, vb ((x_17536.Handle == 2) && ((x_17536.Last == 0) && ((x_17536.Value == 3) && ((x_17536.Props == 32) && ((x_17536.f_Type.High == x_17696.High) && (x_17536.f_Type.Low == x_17696.Low))))))), (100, .g (C_api_Found x_22977)), (102, .g (C_api_Found (T_api_Found.mk 4 0 0 0 x_23137)))] [.rd 4 R_T_api_Service x_1, .rd 5 R_T_api_Attribute x_2.1, .rd 5 R_T_api_Attribute x_3.1, .rd 5 R_T_api_Attribute x_4.1, .rd 6 R_T_api_Found x_5] ?_ (fun c_19216_1 => ?_)
                           · refine SD.all1 (i := 51) (by kernel_rfl) ?_
                             refine SW.eff D_9 (i := 51) (bs' := [I, I, I, I, I, I, I, I, I, I, I, I, I, I, I, I, I, I, I, I, I, I, I, I, I, I, I, I, I, I, I, I, I, I, I, I, I, I, I, I, I, I, I, I, I, I, I, I, I, I, I, I, O, O, O, O, O, O, O]) rfl (.inr ⟨_, _, _, _, rfl, rfl, rfl, hg_19216⟩) rfl (e_eqs tk (cs := (C_api_Found x_22977)) (ds := (C_api_Found (T_api_Found.mk 4 0 0 0 x_23137))) [(x_22977.Handle == 4), (x_22977.Last == 0), (x_22977.Value == 0), (x_22977.Props == 0), (x_22977.f_Type.High == x_23137.High), (x_22977.f_Type.Low == x_23137.Low)] ((x_22977.Handle == 4) && ((x_22977.Last == 0) && ((x_22977.Value == 0) && ((x_22977.Props == 0) && ((x_22977.f_Type.High == x_23137.High) && (x_22977.f_Type.Low == x_23137.Low)))))) rfl rfl (by kernel_rfl) (by kernel_rfl) (by kernel_rfl) (.inl ⟨rfl, (by kernel_rfl)⟩)) (by kernel_rfl) rfl (by kernel_rfl) ?_
                             refine SD.takes tk D_9 [(97, true)] (knS rfl hg_19216 kn0) [52, 53] [] [] [I, I, I, I, I, I, I, I, I, I, I, I, I, I, I, I, I, I, I, I, I, I, I, I, I, I, I, I, I, I, I, I, I, I, I, I, I, I, I, I, I, I, I, I, I, I, I, I, I, I, I, I, I, I, O, O, O, O, O] [(1, vs 1), (105, vb ((x_22977.Handle == 4) && ((x_22977.Last == 0) && ((x_22977.Value == 0) && ((x_22977.Props == 0) && ((x_22977.f_Type.High == x_23137.High) && (x_22977.f_Type.Low == x_23137.Low)))))))] rfl (by kernel_rfl) (by kernel_rfl) (by kernel_rfl) ?_
                             exact SD.vie D_9 [.g 0, .g 1, .g 2, .g 3, .g 4] c_19216_0 (by kernel_rfl)
                           · refine SD.lay 10 [I, I, I, I, I, I, I, I, I, I, I, I, I, I, I, I, I, I, I, I, I, I, I, I, I, I, I, I, I, I, I, I, I, I, I, I, I, I, I, I, I, I, I, I, I, I, I, I, I, O, O, O, O, O, O, O, O, O, O] [(1, vs 1), (97, vb ((x_17536.Handle == 2) && ((x_17536.Last == 0) && ((x_17536.Value == 3) && ((x_17536.Props == 32) && ((x_17536.f_Type.High == x_17696.High) && (x_17536.f_Type.Low == x_17696.Low))))))), (100, .g (C_api_Found x_22977))] [.rd 4 R_T_api_Service x_1, .rd 5 R_T_api_Attribute x_2.1, .rd 5 R_T_api_Attribute x_3.1, .rd 5 R_T_api_Attribute x_4.1, .rd 6 R_T_api_Found x_5] ?_ (fun c_19216_2 => ?_)
                             · refine SD.all1 (i := 49) (by kernel_rfl) ?_
                               refine SW.eff D_9 (i := 49) (bs' := [I, I, I, I, I, I, I, I, I, I, I, I, I, I, I, I, I, I, I, I, I, I, I, I, I, I, I, I, I, I, I, I, I, I, I, I, I, I, I, I, I, I, I, I, I, I, I, I, I, I, O, O, O, O, O, O, O, O, O]) rfl (.inr ⟨_, _, _, _, rfl, rfl, rfl, hg_19216⟩) rfl (e_c Try.call34 (ok_wirelessref41_Short F 10498 _ e_x_23137) [] [vi .u16 10498] (.g (C_api_UUID x_23137)) (by kernel_rfl) (.inl rfl)) (by kernel_rfl) rfl (by kernel_rfl) ?_
                               refine SD.takes tk D_9 [(97, true)] (knS rfl hg_19216 kn0) [50] [] [] [I, I, I, I, I, I, I, I, I, I, I, I, I, I, I, I, I, I, I, I, I, I, I, I, I, I, I, I, I, I, I, I, I, I, I, I, I, I, I, I, I, I, I, I, I, I, I, I, I, I, I, O, O, O, O, O, O, O, O] [(1, vs 1), (97, vb ((x_17536.Handle == 2) && ((x_17536.Last == 0) && ((x_17536.Value == 3) && ((x_17536.Props == 32) && ((x_17536.f_Type.High == x_17696.High) && (x_17536.f_Type.Low == x_17696.Low))))))), (100, .g (C_api_Found x_22977)), (102, .g (C_api_Found (T_api_Found.mk 4 0 0 0 x_23137)))] rfl (by kernel_rfl) (by kernel_rfl) (by kernel_rfl) ?_
                               exact SD.vie D_9 [.g 0, .g 1, .g 2, .g 3, .g 4] c_19216_1 (by kernel_rfl)
                             · refine SD.lay 9 [I, I, I, I, I, I, I, I, I, I, I, I, I, I, I, I, I, I, I, I, I, I, I, I, I, I, I, I, I, I, I, I, I, I, I, I, I, I, I, I, I, I, I, I, I, I, I, I, O, I, I, O, O, O, O, O, O, O, O] [(1, vs 1), (97, vb ((x_17536.Handle == 2) && ((x_17536.Last == 0) && ((x_17536.Value == 3) && ((x_17536.Props == 32) && ((x_17536.f_Type.High == x_17696.High) && (x_17536.f_Type.Low == x_17696.Low))))))), (99, vp 5 0), (102, .g (C_api_Found (T_api_Found.mk 4 0 0 0 x_23137)))] [.rd 4 R_T_api_Service x_1, .rd 5 R_T_api_Attribute x_2.1, .rd 5 R_T_api_Attribute x_3.1, .rd 5 R_T_api_Attribute x_4.1, .rd 6 R_T_api_Found x_5, .elt none false (C_api_Found x_22977)] ?_ (fun c_19216_3 => ?_)
                               · refine SD.all1 (i := 48) (by kernel_rfl) ?_
                                 refine SW.eff D_9 (i := 48) (v := .g (C_api_Found x_22977)) (bs' := [I, I, I, I, I, I, I, I, I, I, I, I, I, I, I, I, I, I, I, I, I, I, I, I, I, I, I, I, I, I, I, I, I, I, I, I, I, I, I, I, I, I, I, I, I, I, I, I, I, I, I, O, O, O, O, O, O, O, O]) rfl (.inr ⟨_, _, _, _, rfl, rfl, rfl, hg_19216⟩) rfl (e_val tk (by kernel_rfl)) (by kernel_rfl) rfl (by kernel_rfl) ?_
                                 exact SD.vie D_9 [.g 0, .g 1, .g 2, .g 3, .g 4] c_19216_1 (by kernel_rfl)
                               · refine SD.lay 11 [I, I, I, I, I, I, I, I, I, I, I, I, I, I, I, I, I, I, I, I, I, I, I, I, I, I, I, I, I, I, I, I, I, I, I, I, I, I, I, I, I, I, I, I, I, I, I, I, O, O, O, O, O, O, O, O, O, O, O] [(1, vs 1), (97, vb ((x_17536.Handle == 2) && ((x_17536.Last == 0) && ((x_17536.Value == 3) && ((x_17536.Props == 32) && ((x_17536.f_Type.High == x_17696.High) && (x_17536.f_Type.Low == x_17696.Low))))))), (99, vp 5 0)] [.rd 4 R_T_api_Service x_1, .rd 5 R_T_api_Attribute x_2.1, .rd 5 R_T_api_Attribute x_3.1, .rd 5 R_T_api_Attribute x_4.1, .rd 6 R_T_api_Found x_5, .elt none false (C_api_Found x_22977)] ?_ (fun c_19216_4 => ?_)
                                 · refine SD.all2 (i := 48) (j := 49) (by kernel_rfl) ?_ ?_
                                   · refine SW.eff D_9 (i := 48) (v := .g (C_api_Found x_22977)) (bs' := [I, I, I, I, I, I, I, I, I, I, I, I, I, I, I, I, I, I, I, I, I, I, I, I, I, I, I, I, I, I, I, I, I, I, I, I, I, I, I, I, I, I, I, I, I, I, I, I, I, O, O, O, O, O, O, O, O, O, O]) rfl (.inr ⟨_, _, _, _, rfl, rfl, rfl, hg_19216⟩) rfl (e_val tk (by kernel_rfl)) (by kernel_rfl) rfl (by kernel_rfl) ?_
                                     exact SD.vie D_9 [.g 0, .g 1, .g 2, .g 3, .g 4] c_19216_2 (by kernel_rfl)
                                   · refine SW.eff D_9 (i := 49) (bs' := [I, I, I, I, I, I, I, I, I, I, I, I, I, I, I, I, I, I, I, I, I, I, I, I, I, I, I, I, I, I, I, I, I, I, I, I, I, I, I, I, I, I, I, I, I, I, I, I, O, I, O, O, O, O, O, O, O, O, O]) rfl (.inr ⟨_, _, _, _, rfl, rfl, rfl, hg_19216⟩) rfl (e_c Try.call34 (ok_wirelessref41_Short F 10498 _ e_x_23137) [] [vi .u16 10498] (.g (C_api_UUID x_23137)) (by kernel_rfl) (.inl rfl)) (by kernel_rfl) rfl (by kernel_rfl) ?_
                                     refine SD.takes tk D_9 [(97, true)] (knS rfl hg_19216 kn0) [50] [] [] [I, I, I, I, I, I, I, I, I, I, I, I, I, I, I, I, I, I, I, I, I, I, I, I, I, I, I, I, I, I, I, I, I, I, I, I, I, I, I, I, I, I, I, I, I, I, I, I, O, I, I, O, O, O, O, O, O, O, O] [(1, vs 1), (97, vb ((x_17536.Handle == 2) && ((x_17536.Last == 0) && ((x_17536.Value == 3) && ((x_17536.Props == 32) && ((x_17536.f_Type.High == x_17696.High) && (x_17536.f_Type.Low == x_17696.Low))))))), (99, vp 5 0), (102, .g (C_api_Found (T_api_Found.mk 4 0 0 0 x_23137)))] rfl (by kernel_rfl) (by kernel_rfl) (by kernel_rfl) ?_
                                     exact SD.vie D_9 [.g 0, .g 1, .g 2, .g 3, .g 4, .g 5] c_19216_3 (by kernel_rfl)
                                 · refine SD.lay 10 [I, I, I, I, I, I, I, I, I, I, I, I, I, I, I, I, I, I, I, I, I, I, I, I, I, I, I, I, I, I, I, I, I, I, I, I, I, I, I, I, I, I, I, I, I, I, I, O, O, I, I, O, O, O, O, O, O, O, O] [(1, vs 1), (97, vb ((x_17536.Handle == 2) && ((x_17536.Last == 0) && ((x_17536.Value == 3) && ((x_17536.Props == 32) && ((x_17536.f_Type.High == x_17696.High) && (x_17536.f_Type.Low == x_17696.Low))))))), (98, vs 4), (102, .g (C_api_Found (T_api_Found.mk 4 0 0 0 x_23137)))] [.rd 4 R_T_api_Service x_1, .rd 5 R_T_api_Attribute x_2.1, .rd 5 R_T_api_Attribute x_3.1, .rd 5 R_T_api_Attribute x_4.1, .rd 6 R_T_api_Found x_5] ?_ (fun c_19216_5 => ?_)
                                   · refine SD.pre (pre_ix (i := 4) (iv := 2) (sz := 6) (R := R_T_api_Found) (l := x_5) (by kernel_rfl) rfl e_x_22977) ?_
                                     refine SD.all1 (i := 47) (by kernel_rfl) ?_
                                     refine SW.eff D_9 (i := 47) (v := vp 5 0) (bs' := [I, I, I, I, I, I, I, I, I, I, I, I, I, I, I, I, I, I, I, I, I, I, I, I, I, I, I, I, I, I, I, I, I, I, I, I, I, I, I, I, I, I, I, I, I, I, I, I, O, I, I, O, O, O, O, O, O, O, O]) rfl (.inr ⟨_, _, _, _, rfl, rfl, rfl, hg_19216⟩) rfl (e_valE tk (.el 5) [2] (by kernel_rfl)) (by kernel_rfl) rfl (by kernel_rfl) ?_
                                     exact SD.vie D_9 [.g 0, .g 1, .g 2, .g 3, .g 4, .g 5] c_19216_3 (by kernel_rfl)
                                   · refine SD.all2 (i := 47) (j := 49) (by kernel_rfl) ?_ ?_
                                     · refine SW.pre (pre_ix (i := 4) (iv := 2) (sz := 6) (R := R_T_api_Found) (l := x_5) (by kernel_rfl) rfl e_x_22977) ?_
                                       refine SW.eff D_9 (i := 47) (v := vp 5 0) (bs' := [I, I, I, I, I, I, I, I, I, I, I, I, I, I, I, I, I, I, I, I, I, I, I, I, I, I, I, I, I, I, I, I, I, I, I, I, I, I, I, I, I, I, I, I, I, I, I, I, O, O, O, O, O, O, O, O, O, O, O]) rfl (.inr ⟨_, _, _, _, rfl, rfl, rfl, hg_19216⟩) rfl (e_valE tk (.el 5) [2] (by kernel_rfl)) (by kernel_rfl) rfl (by kernel_rfl) ?_
                                       exact SD.vie D_9 [.g 0, .g 1, .g 2, .g 3, .g 4, .g 5] c_19216_4 (by kernel_rfl)
                                     · refine SW.eff D_9 (i := 49) (bs' := [I, I, I, I, I, I, I, I, I, I, I, I, I, I, I, I, I, I, I, I, I, I, I, I, I, I, I, I, I, I, I, I, I, I, I, I, I, I, I, I, I, I, I, I, I, I, I, O, O, I, O, O, O, O, O, O, O, O, O]) rfl (.inr ⟨_, _, _, _, rfl, rfl, rfl, hg_19216⟩) rfl (e_c Try.call34 (ok_wirelessref41_Short F 10498 _ e_x_23137) [] [vi .u16 10498] (.g (C_api_UUID x_23137)) (by kernel_rfl) (.inl rfl)) (by kernel_rfl) rfl (by kernel_rfl) ?_
                                       refine SD.takes tk D_9 [(97, true)] (knS rfl hg_19216 kn0) [50] [] [] [I, I, I, I, I, I, I, I, I, I, I, I, I, I, I, I, I, I, I, I, I, I, I, I, I, I, I, I, I, I, I, I, I, I, I, I, I, I, I, I, I, I, I, I, I, I, I, O, O, I, I, O, O, O, O, O, O, O, O] [(1, vs 1), (97, vb ((x_17536.Handle == 2) && ((x_17536.Last == 0) && ((x_17536.Value == 3) && ((x_17536.Props == 32) && ((x_17536.f_Type.High == x_17696.High) && (x_17536.f_Type.Low == x_17696.Low))))))), (98, vs 4), (102, .g (C_api_Found (T_api_Found.mk 4 0 0 0 x_23137)))] rfl (by kernel_rfl) (by kernel_rfl) (by kernel_rfl) ?_
                                       exact SD.vie D_9 [.g 0, .g 1, .g 2, .g 3, .g 4] c_19216_5 (by kernel_rfl)
                       · replace hp := if_f hp hg_19216
                         refine SD.takes tk D_9 [(97, false)] (knS rfl hg_19216 kn0) [46, 47, 48, 49, 50, 51, 52, 53] [] [] [I, I, I, I, I, I, I, I, I, I, I, I, I, I, I, I, I, I, I, I, I, I, I, I, I, I, I, I, I, I, I, I, I, I, I, I, I, I, I, I, I, I, I, I, I, I, I, I, I, I, I, I, I, I, O, O, O, O, O] [(1, vs 1), (105, vb false)] rfl (by kernel_rfl) (by kernel_rfl) (by kernel_rfl) ?_
                         refine SD.takes tk D_9 [(105, false)] (knS rfl rfl kn0) [54, 55, 56, 57, 58] [] [] [I, I, I, I, I, I, I, I, I, I, I, I, I, I, I, I, I, I, I, I, I, I, I, I, I, I, I, I, I, I, I, I, I, I, I, I, I, I, I, I, I, I, I, I, I, I, I, I, I, I, I, I, I, I, I, I, I, I, I] [(0, vb false)] rfl (by kernel_rfl) (by kernel_rfl) (by kernel_rfl) ?_
                         refine SD.done (by kernel_rfl) fun a w h => ?_
                         exact ⟨false, hp, h.at (js := []) (by kernel_rfl)⟩
                     · refine SD.lay 16 [I, I, I, I, I, I, I, I, I, I, I, I, I, I, I, I, I, I, I, I, I, I, I, I, I, I, I, I, I, I, I, I, I, I, I, I, I, I, I, I, I, I, I, O, O, O, O, O, O, O, O, O, O, O, O, O, O, O, O] [(1, vs 1), (7, vs 4), (89, vb ((x_12095.Handle == 1) && ((x_12095.Last == 4) && ((x_12095.Value == 0) && ((x_12095.Props == 0) && ((x_12095.f_Type.High == x_12255.High) && (x_12095.f_Type.Low == x_12255.Low))))))), (92, .g (C_api_Found x_17536)), (94, .g (C_api_Found (T_api_Found.mk 2 0 3 32 x_17696)))] [.rd 4 R_T_api_Service x_1, .rd 5 R_T_api_Attribute x_2.1, .rd 5 R_T_api_Attribute x_3.1, .rd 5 R_T_api_Attribute x_4.1, .rd 6 R_T_api_Found x_5] ?_ (fun c_14415_1 => ?_)
                       · refine SD.all1 (i := 43) (by kernel_rfl) ?_
                         refine SW.eff D_9 (i := 43) (bs' := [I, I, I, I, I, I, I, I, I, I, I, I, I, I, I, I, I, I, I, I, I, I, I, I, I, I, I, I, I, I, I, I, I, I, I, I, I, I, I, I, I, I, I, I, O, O, O, O, O, O, O, O, O, O, O, O, O, O, O]) rfl (.inr ⟨_, _, _, _, rfl, rfl, rfl, hg_14415⟩) rfl (e_eqs tk (cs := (C_api_Found x_17536)) (ds := (C_api_Found (T_api_Found.mk 2 0 3 32 x_17696))) [(x_17536.Handle == 2), (x_17536.Last == 0), (x_17536.Value == 3), (x_17536.Props == 32), (x_17536.f_Type.High == x_17696.High), (x_17536.f_Type.Low == x_17696.Low)] ((x_17536.Handle == 2) && ((x_17536.Last == 0) && ((x_17536.Value == 3) && ((x_17536.Props == 32) && ((x_17536.f_Type.High == x_17696.High) && (x_17536.f_Type.Low == x_17696.Low)))))) rfl rfl (by kernel_rfl) (by kernel_rfl) (by kernel_rfl) (.inl ⟨rfl, (by kernel_rfl)⟩)) (by kernel_rfl) rfl (by kernel_rfl) ?_
                         refine SD.takes tk D_9 [(89, true)] (knS rfl hg_14415 kn0) [44, 45] [] [] [I, I, I, I, I, I, I, I, I, I, I, I, I, I, I, I, I, I, I, I, I, I, I, I, I, I, I, I, I, I, I, I, I, I, I, I, I, I, I, I, I, I, I, I, I, I, O, O, O, O, O, O, O, O, O, O, O, O, O] [(1, vs 1), (7, vs 4), (97, vb ((x_17536.Handle == 2) && ((x_17536.Last == 0) && ((x_17536.Value == 3) && ((x_17536.Props == 32) && ((x_17536.f_Type.High == x_17696.High) && (x_17536.f_Type.Low == x_17696.Low)))))))] rfl (by kernel_rfl) (by kernel_rfl) (by kernel_rfl) ?_
                         exact SD.vie D_9 [.g 0, .g 1, .g 2, .g 3, .g 4] c_14415_0 (by kernel_rfl)
                       · refine SD.lay 18 [I, I, I, I, I, I, I, I, I, I, I, I, I, I, I, I, I, I, I, I, I, I, I, I, I, I, I, I, I, I, I, I, I, I, I, I, I, I, I, I, I, O, O, O, O, O, O, O, O, O, O, O, O, O, O, O, O, O, O] [(1, vs 1), (7, vs 4), (89, vb ((x_12095.Handle == 1) && ((x_12095.Last == 4) && ((x_12095.Value == 0) && ((x_12095.Props == 0) && ((x_12095.f_Type.High == x_12255.High) && (x_12095.f_Type.Low == x_12255.Low))))))), (92, .g (C_api_Found x_17536))] [.rd 4 R_T_api_Service x_1, .rd 5 R_T_api_Attribute x_2.1, .rd 5 R_T_api_Attribute x_3.1, .rd 5 R_T_api_Attribute x_4.1, .rd 6 R_T_api_Found x_5] ?_ (fun c_14415_2 => ?_)
                         · refine SD.all1 (i := 41) (by kernel_rfl) ?_
                           refine SW.eff D_9 (i := 41) (bs' := [I, I, I, I, I, I, I, I, I, I, I, I, I, I, I, I, I, I, I, I, I, I, I, I, I, I, I, I, I, I, I, I, I, I, I, I, I, I, I, I, I, I, O, O, O, O, O, O, O, O, O, O, O, O, O, O, O, O, O]) rfl (.inr ⟨_, _, _, _, rfl, rfl, rfl, hg_14415⟩) rfl (e_c Try.call34 (ok_wirelessref41_Short F 10757 _ e_x_17696) [] [vi .u16 10757] (.g (C_api_UUID x_17696)) (by kernel_rfl) (.inl rfl)) (by kernel_rfl) rfl (by kernel_rfl) ?_
                           refine SD.takes tk D_9 [(89, true)] (knS rfl hg_14415 kn0) [42] [] [] [I, I, I, I, I, I, I, I, I, I, I, I, I, I, I, I, I, I, I, I, I, I, I, I, I, I, I, I, I, I, I, I, I, I, I, I, I, I, I, I, I, I, I, O, O, O, O, O, O, O, O, O, O, O, O, O, O, O, O] [(1, vs 1), (7, vs 4), (89, vb ((x_12095.Handle == 1) && ((x_12095.Last == 4) && ((x_12095.Value == 0) && ((x_12095.Props == 0) && ((x_12095.f_Type.High == x_12255.High) && (x_12095.f_Type.Low == x_12255.Low))))))), (92, .g (C_api_Found x_17536)), (94, .g (C_api_Found (T_api_Found.mk 2 0 3 32 x_17696)))] rfl (by kernel_rfl) (by kernel_rfl) (by kernel_rfl) ?_
                           exact SD.vie D_9 [.g 0, .g 1, .g 2, .g 3, .g 4] c_14415_1 (by kernel_rfl)
                         · refine SD.lay 17 [I, I, I, I, I, I, I, I, I, I, I, I, I, I, I, I, I, I, I, I, I, I, I, I, I, I, I, I, I, I, I, I, I, I, I, I, I, I, I, I, O, I, I, O, O, O, O, O, O, O, O, O, O, O, O, O, O, O, O] [(1, vs 1), (7, vs 4), (89, vb ((x_12095.Handle == 1) && ((x_12095.Last == 4) && ((x_12095.Value == 0) && ((x_12095.Props == 0) && ((x_12095.f_Type.High == x_12255.High) && (x_12095.f_Type.Low == x_12255.Low))))))), (91, vp 5 0), (94, .g (C_api_Found (T_api_Found.mk 2 0 3 32 x_17696)))] [.rd 4 R_T_api_Service x_1, .rd 5 R_T_api_Attribute x_2.1, .rd 5 R_T_api_Attribute x_3.1, .rd 5 R_T_api_Attribute x_4.1, .rd 6 R_T_api_Found x_5, .elt none false (C_api_Found x_17536)] ?_ (fun c_14415_3 => ?_)
                           · refine SD.all1 (i := 40) (by kernel_rfl) ?_
                             refine SW.eff D_9 (i := 40) (v := .g (C_api_Found x_17536)) (bs' := [I, I, I, I, I, I, I, I, I, I, I, I, I, I, I, I, I, I, I, I, I, I, I, I, I, I, I, I, I, I, I, I, I, I, I, I, I, I, I, I, I, I, I, O, O, O, O, O, O, O, O, O, O, O, O, O, O, O, O]) rfl (.inr ⟨_, _, _, _, rfl, rfl, rfl, hg_14415⟩) rfl (e_val tk (by kernel_rfl)) (by kernel_rfl) rfl (by kernel_rfl) ?_
                             exact SD.vie D_9 [.g 0, .g 1, .g 2, .g 3, .g 4] c_14415_1 (by kernel_rfl)
                           · refine SD.lay 19 [I, I, I, I, I, I, I, I, I, I, I, I, I, I, I, I, I, I, I, I, I, I, I, I, I, I, I, I, I, I, I, I, I, I, I, I, I, I, I, I, O, O, O, O, O, O, O, O, O, O, O, O, O, O, O, O, O, O, O] [(1, vs 1), (7, vs 4), (89, vb ((x_12095.Handle == 1) && ((x_12095.Last == 4) && ((x_12095.Value == 0) && ((x_12095.Props == 0) && ((x_12095.f_Type.High == x_12255.High) && (x_12095.f_Type.Low == x_12255.Low))))))), (91, vp 5 0)] [.rd 4 R_T_api_Service x_1, .rd 5 R_T_api_Attribute x_2.1, .rd 5 R_T_api_Attribute x_3.1, .rd 5 R_T_api_Attribute x_4.1, .rd 6 R_T_api_Found x_5, .elt none false (C_api_Found x_17536)] ?_ (fun c_14415_4 => ?_)
                             · refine SD.all2 (i := 40) (j := 41) (by kernel_rfl) ?_ ?_
                               · refine SW.eff D_9 (i := 40) (v := .g (C_api_Found x_17536)) (bs' := [I, I, I, I, I, I, I, I, I, I, I, I, I, I, I, I, I, I, I, I, I, I, I, I, I, I, I, I, I, I, I, I, I, I, I, I, I, I, I, I, I, O, O, O, O, O, O, O, O, O, O, O, O, O, O, O, O, O, O]) rfl (.inr ⟨_, _, _, _, rfl, rfl, rfl, hg_14415⟩) rfl (e_val tk (by kernel_rfl)) (by kernel_rfl) rfl (by kernel_rfl) ?_
                                 exact SD.vie D_9 [.g 0, .g 1, .g 2, .g 3, .g 4] c_14415_2 (by kernel_rfl)
                               · refine SW.eff D_9 (i := 41) (bs' := [I, I, I, I, I, I, I, I, I, I, I, I, I, I, I, I, I, I, I, I, I, I, I, I, I, I, I, I, I, I, I, I, I, I, I, I, I, I, I, I, O, I, O, O, O, O, O, O, O, O, O, O, O, O, O, O, O, O, O]) rfl (.inr ⟨_, _, _, _, rfl, rfl, rfl, hg_14415⟩) rfl (e_c Try.call34 (ok_wirelessref41_Short F 10757 _ e_x_17696) [] [vi .u16 10757] (.g (C_api_UUID x_17696)) (by kernel_rfl) (.inl rfl)) (by kernel_rfl) rfl (by kernel_rfl) ?_
                                 refine SD.takes tk D_9 [(89, true)] (knS rfl hg_14415 kn0) [42] [] [] [I, I, I, I, I, I, I, I, I, I, I, I, I, I, I, I, I, I, I, I, I, I, I, I, I, I, I, I, I, I, I, I, I, I, I, I, I, I, I, I, O, I, I, O, O, O, O, O, O, O, O, O, O, O, O, O, O, O, O] [(1, vs 1), (7, vs 4), (89, vb ((x_12095.Handle == 1) && ((x_12095.Last == 4) && ((x_12095.Value == 0) && ((x_12095.Props == 0) && ((x_12095.f_Type.High == x_12255.High) && (x_12095.f_Type.Low == x_12255.Low))))))), (91, vp 5 0), (94, .g (C_api_Found (T_api_Found.mk 2 0 3 32 x_17696)))] rfl (by kernel_rfl) (by kernel_rfl) (by kernel_rfl) ?_
                                 exact SD.vie D_9 [.g 0, .g 1, .g 2, .g 3, .g 4, .g 5] c_14415_3 (by kernel_rfl)
                             · refine SD.lay 18 [I, I, I, I, I, I, I, I, I, I, I, I, I, I, I, I, I, I, I, I, I, I, I, I, I, I, I, I, I, I, I, I, I, I, I, I, I, I, I, O, O, I, I, O, O, O, O, O, O, O, O, O, O, O, O, O, O, O, O] [(1, vs 1), (7, vs 4), (89, vb ((x_12095.Handle == 1) && ((x_12095.Last == 4) && ((x_12095.Value == 0) && ((x_12095.Props == 0) && ((x_12095.f_Type.High == x_12255.High) && (x_12095.f_Type.Low == x_12255.Low))))))), (90, vs 4), (94, .g (C_api_Found (T_api_Found.mk 2 0 3 32 x_17696)))] [.rd 4 R_T_api_Service x_1, .rd 5 R_T_api_Attribute x_2.1, .rd 5 R_T_api_Attribute x_3.1, .rd 5 R_T_api_Attribute x_4.1, .rd 6 R_T_api_Found x_5] ?_ (fun c_14415_5 => ?_)
                               · refine SD.pre (pre_ix (i := 4) (iv := 1) (sz := 6) (R := R_T_api_Found) (l := x_5) (by kernel_rfl) rfl e_x_17536) ?_
                                 refine SD.all1 (i := 39) (by kernel_rfl) ?_
                                 refine SW.eff D_9 (i := 39) (v := vp 5 0) (bs' := [I, I, I, I, I, I, I, I, I, I, I, I, I, I, I, I, I, I, I, I, I, I, I, I, I, I, I, I, I, I, I, I, I, I, I, I, I, I, I, I, O, I, I, O, O, O, O, O, O, O, O, O, O, O, O, O, O, O, O]) rfl (.inr ⟨_, _, _, _, rfl, rfl, rfl, hg_14415⟩) rfl (e_valE tk (.el 5) [1] (by kernel_rfl)) (by kernel_rfl) rfl (by kernel_rfl) ?_
                                 exact SD.vie D_9 [.g 0, .g 1, .g 2, .g 3, .g 4, .g 5] c_14415_3 (by kernel_rfl)
                               · refine SD.all2 (i := 39) (j := 41) (by kernel_rfl) ?_ ?_
                                 · refine SW.pre (pre_ix (i := 4) (iv := 1) (sz := 6) (R := R_T_api_Found) (l := x_5) (by kernel_rfl) rfl e_x_17536) ?_
                                   refine SW.eff D_9 (i := 39) (v := vp 5 0) (bs' := [I, I, I, I, I, I, I, I, I, I, I, I, I, I, I, I, I, I, I, I, I, I, I, I, I, I, I, I, I, I, I, I, I, I, I, I, I, I, I, I, O, O, O, O, O, O, O, O, O, O, O, O, O, O, O, O, O, O, O]) rfl (.inr ⟨_, _, _, _, rfl, rfl, rfl, hg_14415⟩) rfl (e_valE tk (.el 5) [1] (by kernel_rfl)) (by kernel_rfl) rfl (by kernel_rfl) ?_
                                   exact SD.vie D_9 [.g 0, .g 1, .g 2, .g 3, .g 4, .g 5] c_14415_4 (by kernel_rfl)
                                 · refine SW.eff D_9 (i := 41) (bs' := [I, I, I, I, I, I, I, I, I, I, I, I, I, I, I, I, I, I, I, I, I, I, I, I, I, I, I, I, I, I, I, I, I, I, I, I, I, I, I, O, O, I, O, O, O, O, O, O, O, O, O, O, O, O, O, O, O, O, O]) rfl (.inr ⟨_, _, _, _, rfl, rfl, rfl, hg_14415⟩) rfl (e_c Try.call34 (ok_wirelessref41_Short F 10757 _ e_x_17696) [] [vi .u16 10757] (.g (C_api_UUID x_17696)) (by kernel_rfl) (.inl rfl)) (by kernel_rfl) rfl (by kernel_rfl) ?_
                                   refine SD.takes tk D_9 [(89, true)] (knS rfl hg_14415 kn0) [42] [] [] [I, I, I, I, I, I, I, I, I, I, I, I, I, I, I, I, I, I, I, I, I, I, I, I, I, I, I, I, I, I, I, I, I, I, I, I, I, I, I, O, O, I, I, O, O, O, O, O, O, O, O, O, O, O, O, O, O, O, O] [(1, vs 1), (7, vs 4), (89, vb ((x_12095.Handle == 1) && ((x_12095.Last == 4) && ((x_12095.Value == 0) && ((x_12095.Props == 0) && ((x_12095.f_Type.High == x_12255.High) && (x_12095.f_Type.Low == x_12255.Low))))))), (90, vs 4), (94, .g (C_api_Found (T_api_Found.mk 2 0 3 32 x_17696)))] rfl (by kernel_rfl) (by kernel_rfl) (by kernel_rfl) ?_
                                   exact SD.vie D_9 [.g 0, .g 1, .g 2, .g 3, .g 4] c_14415_5 (by kernel_rfl)
                   · replace hp := if_f hp hg_14415
                     refine SD.takes tk D_9 [(89, false)] (knS rfl hg_14415 kn0) [38, 39, 40, 41, 42, 43, 44, 45] [] [] [I, I, I, I, I, I, I, I, I, I, I, I, I, I, I, I, I, I, I, I, I, I, I, I, I, I, I, I, I, I, I, I, I, I, I, I, I, I, I, I, I, I, I, I, I, I, O, O, O, O, O, O, O, O, O, O, O, O, O] [(1, vs 1), (7, vs 4), (97, vb false)] rfl (by kernel_rfl) (by kernel_rfl) (by kernel_rfl) ?_
                     refine SD.takes tk D_9 [(97, false)] (knS rfl rfl kn0) [46, 47, 48, 49, 50, 51, 52, 53] [] [] [I, I, I, I, I, I, I, I, I, I, I, I, I, I, I, I, I, I, I, I, I, I, I, I, I, I, I, I, I, I, I, I, I, I, I, I, I, I, I, I, I, I, I, I, I, I, I, I, I, I, I, I, I, I, O, O, O, O, O] [(1, vs 1), (105, vb false)] rfl (by kernel_rfl) (by kernel_rfl) (by kernel_rfl) ?_
                     refine SD.takes tk D_9 [(105, false)] (knS rfl rfl kn0) [54, 55, 56, 57, 58] [] [] [I, I, I, I, I, I, I, I, I, I, I, I, I, I, I, I, I, I, I, I, I, I, I, I, I, I, I, I, I, I, I, I, I, I, I, I, I, I, I, I, I, I, I, I, I, I, I, I, I, I, I, I, I, I, I, I, I, I, I] [(0, vb false)] rfl (by kernel_rfl) (by kernel_rfl) (by kernel_rfl) ?_
                     refine SD.done (by kernel_rfl) fun a w h => ?_
                     exact ⟨false, hp, h.at (js := []) (by kernel_rfl)⟩
                 · refine SD.lay 24 [I, I, I, I, I, I, I, I, I, I, I, I, I, I, I, I, I, I, I, I, I, I, I, I, I, I, I, I, I, I, I, I, I, I, I, O, O, O, O, O, O, O, O, O, O, O, O, O, O, O, O, O, O, O, O, O, O, O, O] [(1, vs 1), (7, vs 4), (81, vb ((len x_9613.Value) == 2)), (84, .g (C_api_Found x_12095)), (86, .g (C_api_Found (T_api_Found.mk 1 4 0 0 x_12255)))] [.rd 4 R_T_api_Service x_1, .rd 5 R_T_api_Attribute x_2.1, .rd 5 R_T_api_Attribute x_3.1, .rd 5 R_T_api_Attribute x_4.1, .rd 6 R_T_api_Found x_5] ?_ (fun c_9614_1 => ?_)
                   · refine SD.all1 (i := 35) (by kernel_rfl) ?_
                     refine SW.eff D_9 (i := 35) (bs' := [I, I, I, I, I, I, I, I, I, I, I, I, I, I, I, I, I, I, I, I, I, I, I, I, I, I, I, I, I, I, I, I, I, I, I, I, O, O, O, O, O, O, O, O, O, O, O, O, O, O, O, O, O, O, O, O, O, O, O]) rfl (.inr ⟨_, _, _, _, rfl, rfl, rfl, hg_9614⟩) rfl (e_eqs tk (cs := (C_api_Found x_12095)) (ds := (C_api_Found (T_api_Found.mk 1 4 0 0 x_12255))) [(x_12095.Handle == 1), (x_12095.Last == 4), (x_12095.Value == 0), (x_12095.Props == 0), (x_12095.f_Type.High == x_12255.High), (x_12095.f_Type.Low == x_12255.Low)] ((x_12095.Handle == 1) && ((x_12095.Last == 4) && ((x_12095.Value == 0) && ((x_12095.Props == 0) && ((x_12095.f_Type.High == x_12255.High) && (x_12095.f_Type.Low == x_12255.Low)))))) rfl rfl (by kernel_rfl) (by kernel_rfl) (by kernel_rfl) (.inl ⟨rfl, (by kernel_rfl)⟩)) (by kernel_rfl) rfl (by kernel_rfl) ?_
                     refine SD.takes tk D_9 [(81, true)] (knS rfl hg_9614 kn0) [36, 37] [] [] [I, I, I, I, I, I, I, I, I, I, I, I, I, I, I, I, I, I, I, I, I, I, I, I, I, I, I, I, I, I, I, I, I, I, I, I, I, I, O, O, O, O, O, O, O, O, O, O, O, O, O, O, O, O, O, O, O, O, O] [(1, vs 1), (7, vs 4), (89, vb ((x_12095.Handle == 1) && ((x_12095.Last == 4) && ((x_12095.Value == 0) && ((x_12095.Props == 0) && ((x_12095.f_Type.High == x_12255.High) && (x_12095.f_Type.Low == x_12255.Low)))))))] rfl (by kernel_rfl) (by kernel_rfl) (by kernel_rfl) ?_
                     exact SD.vie D_9 [.g 0, .g 1, .g 2, .g 3, .g 4] c_9614_0 (by kernel_rfl)
                   · refine SD.lay 26 [I, I, I, I, I, I, I, I, I, I, I, I, I, I, I, I, I, I, I, I, I, I, I, I, I, I, I, I, I, I, I, I, I, O, O, O, O, O, O, O, O, O, O, O, O, O, O, O, O, O, O, O, O, O, O, O, O, O, O] [(1, vs 1), (7, vs 4), (81, vb ((len x_9613.Value) == 2)), (84, .g (C_api_Found x_12095))] [.rd 4 R_T_api_Service x_1, .rd 5 R_T_api_Attribute x_2.1, .rd 5 R_T_api_Attribute x_3.1, .rd 5 R_T_api_Attribute x_4.1, .rd 6 R_T_api_Found x_5] ?_ (fun c_9614_2 => ?_)
                     · refine SD.all1 (i := 33) (by kernel_rfl) ?_
                       refine SW.eff D_9 (i := 33) (bs' := [I, I, I, I, I, I, I, I, I, I, I, I, I, I, I, I, I, I, I, I, I, I, I, I, I, I, I, I, I, I, I, I, I, I, O, O, O, O, O, O, O, O, O, O, O, O, O, O, O, O, O, O, O, O, O, O, O, O, O]) rfl (.inr ⟨_, _, _, _, rfl, rfl, rfl, hg_9614⟩) rfl (e_c Try.call34 (ok_wirelessref41_Short F 6145 _ e_x_12255) [] [vi .u16 6145] (.g (C_api_UUID x_12255)) (by kernel_rfl) (.inl rfl)) (by kernel_rfl) rfl (by kernel_rfl) ?_
                       refine SD.takes tk D_9 [(81, true)] (knS rfl hg_9614 kn0) [34] [] [] [I, I, I, I, I, I, I, I, I, I, I, I, I, I, I, I, I, I, I, I, I, I, I, I, I, I, I, I, I, I, I, I, I, I, I, O, O, O, O, O, O, O, O, O, O, O, O, O, O, O, O, O, O, O, O, O, O, O, O] [(1, vs 1), (7, vs 4), (81, vb ((len x_9613.Value) == 2)), (84, .g (C_api_Found x_12095)), (86, .g (C_api_Found (T_api_Found.mk 1 4 0 0 x_12255)))] rfl (by kernel_rfl) (by kernel_rfl) (by kernel_rfl) ?_
                       exact SD.vie D_9 [.g 0, .g 1, .g 2, .g 3, .g 4] c_9614_1 (by kernel_rfl)
                     · refine SD.lay 25 [I, I, I, I, I, I, I, I, I, I, I, I, I, I, I, I, I, I, I, I, I, I, I, I, I, I, I, I, I, I, I, I, O, I, I, O, O, O, O, O, O, O, O, O, O, O, O, O, O, O, O, O, O, O, O, O, O, O, O] [(1, vs 1), (7, vs 4), (81, vb ((len x_9613.Value) == 2)), (83, vp 7 0), (86, .g (C_api_Found (T_api_Found.mk 1 4 0 0 x_12255)))] [.rd 4 R_T_api_Service x_1, .rd 5 R_T_api_Attribute x_2.1, .rd 5 R_T_api_Attribute x_3.1, .rd 5 R_T_api_Attribute x_4.1, .rd 6 R_T_api_Found x_5, .gone, .gone, .elt none false (C_api_Found x_12095)] ?_ (fun c_9614_3 => ?_)
                       · refine SD.all1 (i := 32) (by kernel_rfl) ?_
                         refine SW.eff D_9 (i := 32) (v := .g (C_api_Found x_12095)) (bs' := [I, I, I, I, I, I, I, I, I, I, I, I, I, I, I, I, I, I, I, I, I, I, I, I, I, I, I, I, I, I, I, I, I, I, I, O, O, O, O, O, O, O, O, O, O, O, O, O, O, O, O, O, O, O, O, O, O, O, O]) rfl (.inr ⟨_, _, _, _, rfl, rfl, rfl, hg_9614⟩) rfl (e_val tk (by kernel_rfl)) (by kernel_rfl) rfl (by kernel_rfl) ?_
                         exact SD.vie D_9 [.g 0, .g 1, .g 2, .g 3, .g 4] c_9614_1 (by kernel_rfl)
                       · refine SD.lay 27 [I, I, I, I, I, I, I, I, I, I, I, I, I, I, I, I, I, I, I, I, I, I, I, I, I, I, I, I, I, I, I, I, O, O, O, O, O, O, O, O, O, O, O, O, O, O, O, O, O, O, O, O, O, O, O, O, O, O, O] [(1, vs 1), (7, vs 4), (81, vb ((len x_9613.Value) == 2)), (83, vp 7 0)] [.rd 4 R_T_api_Service x_1, .rd 5 R_T_api_Attribute x_2.1, .rd 5 R_T_api_Attribute x_3.1, .rd 5 R_T_api_Attribute x_4.1, .rd 6 R_T_api_Found x_5, .gone, .gone, .elt none false (C_api_Found x_12095)] ?_ (fun c_9614_4 => ?_)
                         · refine SD.all2 (i := 32) (j := 33) (by kernel_rfl) ?_ ?_
                           · refine SW.eff D_9 (i := 32) (v := .g (C_api_Found x_12095)) (bs' := [I, I, I, I, I, I, I, I, I, I, I, I, I, I, I, I, I, I, I, I, I, I, I, I, I, I, I, I, I, I, I, I, I, O, O, O, O, O, O, O, O, O, O, O, O, O, O, O, O, O, O, O, O, O, O, O, O, O, O]) rfl (.inr ⟨_, _, _, _, rfl, rfl, rfl, hg_9614⟩) rfl (e_val tk (by kernel_rfl)) (by kernel_rfl) rfl (by kernel_rfl) ?_
                             exact SD.vie D_9 [.g 0, .g 1, .g 2, .g 3, .g 4] c_9614_2 (by kernel_rfl)
                           · refine SW.eff D_9 (i := 33) (bs' := [I, I, I, I, I, I, I, I, I, I, I, I, I, I, I, I, I, I, I, I, I, I, I, I, I, I, I, I, I, I, I, I, O, I, O, O, O, O, O, O, O, O, O, O, O, O, O, O, O, O, O, O, O, O, O, O, O, O, O]) rfl (.inr ⟨_, _, _, _, rfl, rfl, rfl, hg_9614⟩) rfl (e_c Try.call34 (ok_wirelessref41_Short F 6145 _ e_x_12255) [] [vi .u16 6145] (.g (C_api_UUID x_12255)) (by kernel_rfl) (.inl rfl)) (by kernel_rfl) rfl (by kernel_rfl) ?_
                             refine SD.takes tk D_9 [(81, true)] (knS rfl hg_9614 kn0) [34] [] [] [I, I, I, I, I, I, I, I, I, I, I, I, I, I, I, I, I, I, I, I, I, I, I, I, I, I, I, I, I, I, I, I, O, I, I, O, O, O, O, O, O, O, O, O, O, O, O, O, O, O, O, O, O, O, O, O, O, O, O] [(1, vs 1), (7, vs 4), (81, vb ((len x_9613.Value) == 2)), (83, vp 7 0), (86, .g (C_api_Found (T_api_Found.mk 1 4 0 0 x_12255)))] rfl (by kernel_rfl) (by kernel_rfl) (by kernel_rfl) ?_
                             exact SD.vie D_9 [.g 0, .g 1, .g 2, .g 3, .g 4, .n, .n, .g 7] c_9614_3 (by kernel_rfl)
                         · refine SD.lay 26 [I, I, I, I, I, I, I, I, I, I, I, I, I, I, I, I, I, I, I, I, I, I, I, I, I, I, I, I, I, I, I, O, O, I, I, O, O, O, O, O, O, O, O, O, O, O, O, O, O, O, O, O, O, O, O, O, O, O, O] [(1, vs 1), (7, vs 4), (81, vb ((len x_9613.Value) == 2)), (82, vs 4), (86, .g (C_api_Found (T_api_Found.mk 1 4 0 0 x_12255)))] [.rd 4 R_T_api_Service x_1, .rd 5 R_T_api_Attribute x_2.1, .rd 5 R_T_api_Attribute x_3.1, .rd 5 R_T_api_Attribute x_4.1, .rd 6 R_T_api_Found x_5] ?_ (fun c_9614_5 => ?_)
                           · refine SD.pre (pre_ix (i := 4) (iv := 0) (sz := 6) (R := R_T_api_Found) (l := x_5) (by kernel_rfl) rfl e_x_12095) ?_
                             refine SD.all1 (i := 31) (by kernel_rfl) ?_
                             refine SW.eff D_9 (i := 31) (v := vp 5 0) (bs' := [I, I, I, I, I, I, I, I, I, I, I, I, I, I, I, I, I, I, I, I, I, I, I, I, I, I, I, I, I, I, I, I, O, I, I, O, O, O, O, O, O, O, O, O, O, O, O, O, O, O, O, O, O, O, O, O, O, O, O]) rfl (.inr ⟨_, _, _, _, rfl, rfl, rfl, hg_9614⟩) rfl (e_valE tk (.el 5) [0] (by kernel_rfl)) (by kernel_rfl) rfl (by kernel_rfl) ?_
                             exact SD.vie D_9 [.g 0, .g 1, .g 2, .g 3, .g 4, .n, .n, .g 5] c_9614_3 (by kernel_rfl)
                           · refine SD.all2 (i := 31) (j := 33) (by kernel_rfl) ?_ ?_
                             · refine SW.pre (pre_ix (i := 4) (iv := 0) (sz := 6) (R := R_T_api_Found) (l := x_5) (by kernel_rfl) rfl e_x_12095) ?_
                               refine SW.eff D_9 (i := 31) (v := vp 7 0) (bs' := [I, I, I, I, I, I, I, I, I, I, I, I, I, I, I, I, I, I, I, I, I, I, I, I, I, I, I, I, I, I, I, I, O, O, O, O, O, O, O, O, O, O, O, O, O, O, O, O, O, O, O, O, O, O, O, O, O, O, O]) rfl (.inr ⟨_, _, _, _, rfl, rfl, rfl, hg_9614⟩) rfl (e_valE tk (.el 7) [0] (by kernel_rfl)) (by kernel_rfl) rfl (by kernel_rfl) ?_
                               exact SD.vie D_9 [.g 0, .g 1, .g 2, .g 3, .g 4, .n, .n, .g 7] c_9614_4 (by kernel_rfl)
                             · refine SW.eff D_9 (i := 33) (bs' := [I, I, I, I, I, I, I, I, I, I, I, I, I, I, I, I, I, I, I, I, I, I, I, I, I, I, I, I, I, I, I, O, O, I, O, O, O, O, O, O, O, O, O, O, O, O, O, O, O, O, O, O, O, O, O, O, O, O, O]) rfl (.inr ⟨_, _, _, _, rfl, rfl, rfl, hg_9614⟩) rfl (e_c Try.call34 (ok_wirelessref41_Short F 6145 _ e_x_12255) [] [vi .u16 6145] (.g (C_api_UUID x_12255)) (by kernel_rfl) (.inl rfl)) (by kernel_rfl) rfl (by kernel_rfl) ?_
                               refine SD.takes tk D_9 [(81, true)] (knS rfl hg_9614 kn0) [34] [] [] [I, I, I, I, I, I, I, I, I, I, I, I, I, I, I, I, I, I, I, I, I, I, I, I, I, I, I, I, I, I, I, O, O, I, I, O, O, O, O, O, O, O, O, O, O, O, O, O, O, O, O, O, O, O, O, O, O, O, O] [(1, vs 1), (7, vs 4), (81, vb ((len x_9613.Value) == 2)), (82, vs 4), (86, .g (C_api_Found (T_api_Found.mk 1 4 0 0 x_12255)))] rfl (by kernel_rfl) (by kernel_rfl) (by kernel_rfl) ?_
                               exact SD.vie D_9 [.g 0, .g 1, .g 2, .g 3, .g 4] c_9614_5 (by kernel_rfl)
               · replace hp := if_f hp hg_9614
                 refine SD.takes tk D_9 [(81, false)] (knS rfl hg_9614 kn0) [30, 31, 32, 33, 34, 35, 36, 37] [] [] [I, I, I, I, I, I, I, I, I, I, I, I, I, I, I, I, I, I, I, I, I, I, I, I, I, I, I, I, I, I, I, I, I, I, I, I, I, I, O, O, O, O, O, O, O, O, O, O, O, O, O, O, O, O, O, O, O, O, O] [(1, vs 1), (7, vs 4), (89, vb false)] rfl (by kernel_rfl) (by kernel_rfl) (by kernel_rfl) ?_
                 refine SD.takes tk D_9 [(89, false)] (knS rfl rfl kn0) [38, 39, 40, 41, 42, 43, 44, 45] [] [] [I, I, I, I, I, I, I, I, I, I, I, I, I, I, I, I, I, I, I, I, I, I, I, I, I, I, I, I, I, I, I, I, I, I, I, I, I, I, I, I, I, I, I, I, I, I, O, O, O, O, O, O, O, O, O, O, O, O, O] [(1, vs 1), (7, vs 4), (97, vb false)] rfl (by kernel_rfl) (by kernel_rfl) (by kernel_rfl) ?_
                 refine SD.takes tk D_9 [(97, false)] (knS rfl rfl kn0) [46, 47, 48, 49, 50, 51, 52, 53] [] [] [I, I, I, I, I, I, I, I, I, I, I, I, I, I, I, I, I, I, I, I, I, I, I, I, I, I, I, I, I, I, I, I, I, I, I, I, I, I, I, I, I, I, I, I, I, I, I, I, I, I, I, I, I, I, O, O, O, O, O] [(1, vs 1), (105, vb false)] rfl (by kernel_rfl) (by kernel_rfl) (by kernel_rfl) ?_
                 refine SD.takes tk D_9 [(105, false)] (knS rfl rfl kn0) [54, 55, 56, 57, 58] [] [] [I, I, I, I, I, I, I, I, I, I, I, I, I, I, I, I, I, I, I, I, I, I, I, I, I, I, I, I, I, I, I, I, I, I, I, I, I, I, I, I, I, I, I, I, I, I, I, I, I, I, I, I, I, I, I, I, I, I, I] [(0, vb false)] rfl (by kernel_rfl) (by kernel_rfl) (by kernel_rfl) ?_
                 refine SD.done (by kernel_rfl) fun a w h => ?_
                 exact ⟨false, hp, h.at (js := []) (by kernel_rfl)⟩
             · replace hp := if_f hp hg_9612
               refine SD.takes tk D_9 [(73, false)] (knS rfl hg_9612 kn0) [22, 23, 24, 25, 26, 27, 28, 29] [] [] [I, I, I, I, I, I, I, I, I, I, I, I, I, I, I, I, I, I, I, I, I, I, I, I, I, I, I, I, I, I, O, O, O, O, O, O, O, O, O, O, O, O, O, O, O, O, O, O, O, O, O, O, O, O, O, O, O, O, O] [(1, vs 1), (7, vs 4), (81, vb false)] rfl (by kernel_rfl) (by kernel_rfl) (by kernel_rfl) ?_
               refine SD.takes tk D_9 [(81, false)] (knS rfl rfl kn0) [30, 31, 32, 33, 34, 35, 36, 37] [] [] [I, I, I, I, I, I, I, I, I, I, I, I, I, I, I, I, I, I, I, I, I, I, I, I, I, I, I, I, I, I, I, I, I, I, I, I, I, I, O, O, O, O, O, O, O, O, O, O, O, O, O, O, O, O, O, O, O, O, O] [(1, vs 1), (7, vs 4), (89, vb false)] rfl (by kernel_rfl) (by kernel_rfl) (by kernel_rfl) ?_
               refine SD.takes tk D_9 [(89, false)] (knS rfl rfl kn0) [38, 39, 40, 41, 42, 43, 44, 45] [] [] [I, I, I, I, I, I, I, I, I, I, I, I, I, I, I, I, I, I, I, I, I, I, I, I, I, I, I, I, I, I, I, I, I, I, I, I, I, I, I, I, I, I, I, I, I, I, O, O, O, O, O, O, O, O, O, O, O, O, O] [(1, vs 1), (7, vs 4), (97, vb false)] rfl (by kernel_rfl) (by kernel_rfl) (by kernel_rfl) ?_
               refine SD.takes tk D_9 [(97, false)] (knS rfl rfl kn0) [46, 47, 48, 49, 50, 51, 52, 53] [] [] [I, I, I, I, I, I, I, I, I, I, I, I, I, I, I, I, I, I, I, I, I, I, I, I, I, I, I, I, I, I, I, I, I, I, I, I, I, I, I, I, I, I, I, I, I, I, I, I, I, I, I, I, I, I, O, O, O, O, O] [(1, vs 1), (105, vb false)] rfl (by kernel_rfl) (by kernel_rfl) (by kernel_rfl) ?_
               refine SD.takes tk D_9 [(105, false)] (knS rfl rfl kn0) [54, 55, 56, 57, 58] [] [] [I, I, I, I, I, I, I, I, I, I, I, I, I, I, I, I, I, I, I, I, I, I, I, I, I, I, I, I, I, I, I, I, I, I, I, I, I, I, I, I, I, I, I, I, I, I, I, I, I, I, I, I, I, I, I, I, I, I, I] [(0, vb false)] rfl (by kernel_rfl) (by kernel_rfl) (by kernel_rfl) ?_
               refine SD.done (by kernel_rfl) fun a w h => ?_
               exact ⟨false, hp, h.at (js := []) (by kernel_rfl)⟩
           · refine SD.lay 40 [I, I, I, I, I, I, I, I, I, I, I, I, I, I, I, I, I, I, I, O, O, O, O, O, O, O, O, O, O, O, O, O, O, O, O, O, O, O, O, O, O, O, O, O, O, O, O, O, O, O, O, O, O, O, O, O, O, O, O] [(1, vs 1), (7, vs 4), (65, vb x_891), (69, vs 6), (70, vs 7)] [.rd 4 R_T_api_Service x_1, .rd 5 R_T_api_Attribute x_2.1, .rd 5 R_T_api_Attribute x_3.1, .rd 5 R_T_api_Attribute x_4.1, .rd 6 R_T_api_Found x_5, .gone, .rd 1 R8 x_6012.Value, .own 1 5 R8 [32, 3, 0, 5, 42]] ?_ (fun c_4811_1 => ?_)
             · refine SD.all1 (i := 19) (by kernel_rfl) ?_
               refine SW.eff D_9 (i := 19) (bs' := [I, I, I, I, I, I, I, I, I, I, I, I, I, I, I, I, I, I, I, I, O, O, O, O, O, O, O, O, O, O, O, O, O, O, O, O, O, O, O, O, O, O, O, O, O, O, O, O, O, O, O, O, O, O, O, O, O, O, O]) rfl (.inr ⟨_, _, _, _, rfl, rfl, rfl, hg_4811⟩) rfl (e_c Try.call33 (ok_wirelessref23_Same F x_6012.Value [32, 3, 0, 5, 42] _ e_x_6332) [.g 6, .l 7] [vs 6, vs 7] (vb x_6332) (by kernel_rfl) (.inr ⟨trivial, trivial, trivial⟩)) (by kernel_rfl) rfl (by kernel_rfl) ?_
               refine SD.takes tk D_9 [(65, true)] (knS rfl hg_4811 kn0) [20, 21] [] [] [I, I, I, I, I, I, I, I, I, I, I, I, I, I, I, I, I, I, I, I, I, I, O, O, O, O, O, O, O, O, O, O, O, O, O, O, O, O, O, O, O, O, O, O, O, O, O, O, O, O, O, O, O, O, O, O, O, O, O] [(1, vs 1), (7, vs 4), (73, vb x_6332)] rfl (by kernel_rfl) (by kernel_rfl) (by kernel_rfl) ?_
               exact SD.vie D_9 [.g 0, .g 1, .g 2, .g 3, .g 4] c_4811_0 (by kernel_rfl)
             · refine SD.lay 41 [I, I, I, I, I, I, I, I, I, I, I, I, I, I, I, I, I, I, O, O, O, O, O, O, O, O, O, O, O, O, O, O, O, O, O, O, O, O, O, O, O, O, O, O, O, O, O, O, O, O, O, O, O, O, O, O, O, O, O] [(1, vs 1), (7, vs 4), (65, vb x_891), (69, vs 6)] [.rd 4 R_T_api_Service x_1, .rd 5 R_T_api_Attribute x_2.1, .rd 5 R_T_api_Attribute x_3.1, .rd 5 R_T_api_Attribute x_4.1, .rd 6 R_T_api_Found x_5, .gone, .rd 1 R8 x_6012.Value] ?_ (fun c_4811_2 => ?_)
               · refine SD.all1 (i := 18) (by kernel_rfl) ?_
                 refine SW.eff D_9 (i := 18) (bs' := [I, I, I, I, I, I, I, I, I, I, I, I, I, I, I, I, I, I, I, O, O, O, O, O, O, O, O, O, O, O, O, O, O, O, O, O, O, O, O, O, O, O, O, O, O, O, O, O, O, O, O, O, O, O, O, O, O, O, O]) rfl (.inr ⟨_, _, _, _, rfl, rfl, rfl, hg_4811⟩) rfl (e_lit (sz := 1) (E := 5) (R := R8) (by_ := 1) tk [[ci .u8 32], [ci .u8 3], [ci .u8 0], [ci .u8 5], [ci .u8 42]] [32, 3, 0, 5, 42] (by kernel_rfl) ⟨Clo.int, ⟨Clo.int, ⟨Clo.int, ⟨Clo.int, ⟨Clo.int, trivial⟩⟩⟩⟩⟩ rfl (by kernel_rfl) (by kernel_rfl)) (by kernel_rfl) rfl (by kernel_rfl) ?_
                 exact SD.vie D_9 [.g 0, .g 1, .g 2, .g 3, .g 4, .n, .g 6, .g 7] c_4811_1 (by kernel_rfl)
               · refine SD.lay 41 [I, I, I, I, I, I, I, I, I, I, I, I, I, I, I, I, I, O, I, O, O, O, O, O, O, O, O, O, O, O, O, O, O, O, O, O, O, O, O, O, O, O, O, O, O, O, O, O, O, O, O, O, O, O, O, O, O, O, O] [(1, vs 1), (7, vs 4), (65, vb x_891), (68, vp 5 4), (70, vs 7)] [.rd 4 R_T_api_Service x_1, .rd 5 R_T_api_Attribute x_2.1, .rd 5 R_T_api_Attribute x_3.1, .rd 5 R_T_api_Attribute x_4.1, .rd 6 R_T_api_Found x_5, .elt none false (C_api_Attribute x_6012 (.s 6)), .rd 1 R8 x_6012.Value, .own 1 5 R8 [32, 3, 0, 5, 42]] ?_ (fun c_4811_3 => ?_)
                 · refine SD.all1 (i := 17) (by kernel_rfl) ?_
                   refine SW.eff D_9 (i := 17) (v := vs 6) (bs' := [I, I, I, I, I, I, I, I, I, I, I, I, I, I, I, I, I, I, I, O, O, O, O, O, O, O, O, O, O, O, O, O, O, O, O, O, O, O, O, O, O, O, O, O, O, O, O, O, O, O, O, O, O, O, O, O, O, O, O]) rfl (.inr ⟨_, _, _, _, rfl, rfl, rfl, hg_4811⟩) rfl (e_val tk (by kernel_rfl)) (by kernel_rfl) rfl (by kernel_rfl) ?_
                   exact SD.vie D_9 [.g 0, .g 1, .g 2, .g 3, .g 4, .n, .g 6, .g 7] c_4811_1 (by kernel_rfl)
                 · refine SD.lay 42 [I, I, I, I, I, I, I, I, I, I, I, I, I, I, I, I, I, O, O, O, O, O, O, O, O, O, O, O, O, O, O, O, O, O, O, O, O, O, O, O, O, O, O, O, O, O, O, O, O, O, O, O, O, O, O, O, O, O, O] [(1, vs 1), (7, vs 4), (65, vb x_891), (68, vp 5 4)] [.rd 4 R_T_api_Service x_1, .rd 5 R_T_api_Attribute x_2.1, .rd 5 R_T_api_Attribute x_3.1, .rd 5 R_T_api_Attribute x_4.1, .rd 6 R_T_api_Found x_5, .elt none false (C_api_Attribute x_6012 (.s 6)), .rd 1 R8 x_6012.Value] ?_ (fun c_4811_4 => ?_)
                   · refine SD.all2 (i := 17) (j := 18) (by kernel_rfl) ?_ ?_
                     · refine SW.eff D_9 (i := 17) (v := vs 6) (bs' := [I, I, I, I, I, I, I, I, I, I, I, I, I, I, I, I, I, I, O, O, O, O, O, O, O, O, O, O, O, O, O, O, O, O, O, O, O, O, O, O, O, O, O, O, O, O, O, O, O, O, O, O, O, O, O, O, O, O, O]) rfl (.inr ⟨_, _, _, _, rfl, rfl, rfl, hg_4811⟩) rfl (e_val tk (by kernel_rfl)) (by kernel_rfl) rfl (by kernel_rfl) ?_
                       exact SD.vie D_9 [.g 0, .g 1, .g 2, .g 3, .g 4, .n, .g 6] c_4811_2 (by kernel_rfl)
                     · refine SW.eff D_9 (i := 18) (bs' := [I, I, I, I, I, I, I, I, I, I, I, I, I, I, I, I, I, O, I, O, O, O, O, O, O, O, O, O, O, O, O, O, O, O, O, O, O, O, O, O, O, O, O, O, O, O, O, O, O, O, O, O, O, O, O, O, O, O, O]) rfl (.inr ⟨_, _, _, _, rfl, rfl, rfl, hg_4811⟩) rfl (e_lit (sz := 1) (E := 5) (R := R8) (by_ := 1) tk [[ci .u8 32], [ci .u8 3], [ci .u8 0], [ci .u8 5], [ci .u8 42]] [32, 3, 0, 5, 42] (by kernel_rfl) ⟨Clo.int, ⟨Clo.int, ⟨Clo.int, ⟨Clo.int, ⟨Clo.int, trivial⟩⟩⟩⟩⟩ rfl (by kernel_rfl) (by kernel_rfl)) (by kernel_rfl) rfl (by kernel_rfl) ?_
                       exact SD.vie D_9 [.g 0, .g 1, .g 2, .g 3, .g 4, .g 5, .g 6, .g 7] c_4811_3 (by kernel_rfl)
                   · refine SD.lay 42 [I, I, I, I, I, I, I, I, I, I, I, I, I, I, I, I, O, O, I, O, O, O, O, O, O, O, O, O, O, O, O, O, O, O, O, O, O, O, O, O, O, O, O, O, O, O, O, O, O, O, O, O, O, O, O, O, O, O, O] [(1, vs 1), (7, vs 4), (65, vb x_891), (67, vp 5 0), (70, vs 7)] [.rd 4 R_T_api_Service x_1, .rd 5 R_T_api_Attribute x_2.1, .rd 5 R_T_api_Attribute x_3.1, .rd 5 R_T_api_Attribute x_4.1, .rd 6 R_T_api_Found x_5, .elt none false (C_api_Attribute x_6012 (.s 6)), .rd 1 R8 x_6012.Value, .own 1 5 R8 [32, 3, 0, 5, 42]] ?_ (fun c_4811_5 => ?_)
                     · refine SD.all1 (i := 16) (by kernel_rfl) ?_
                       refine SW.eff D_9 (i := 16) (v := vp 5 4) (bs' := [I, I, I, I, I, I, I, I, I, I, I, I, I, I, I, I, I, O, I, O, O, O, O, O, O, O, O, O, O, O, O, O, O, O, O, O, O, O, O, O, O, O, O, O, O, O, O, O, O, O, O, O, O, O, O, O, O, O, O]) rfl (.inr ⟨_, _, _, _, rfl, rfl, rfl, hg_4811⟩) rfl (e_val tk (by kernel_rfl)) (by kernel_rfl) rfl (by kernel_rfl) ?_
                       exact SD.vie D_9 [.g 0, .g 1, .g 2, .g 3, .g 4, .g 5, .g 6, .g 7] c_4811_3 (by kernel_rfl)
                     · refine SD.lay 43 [I, I, I, I, I, I, I, I, I, I, I, I, I, I, I, I, O, O, O, O, O, O, O, O, O, O, O, O, O, O, O, O, O, O, O, O, O, O, O, O, O, O, O, O, O, O, O, O, O, O, O, O, O, O, O, O, O, O, O] [(1, vs 1), (7, vs 4), (65, vb x_891), (67, vp 5 0)] [.rd 4 R_T_api_Service x_1, .rd 5 R_T_api_Attribute x_2.1, .rd 5 R_T_api_Attribute x_3.1, .rd 5 R_T_api_Attribute x_4.1, .rd 6 R_T_api_Found x_5, .elt none false (C_api_Attribute x_6012 (.s 6)), .rd 1 R8 x_6012.Value] ?_ (fun c_4811_6 => ?_)
                       · refine SD.all2 (i := 16) (j := 18) (by kernel_rfl) ?_ ?_
                         · refine SW.eff D_9 (i := 16) (v := vp 5 4) (bs' := [I, I, I, I, I, I, I, I, I, I, I, I, I, I, I, I, I, O, O, O, O, O, O, O, O, O, O, O, O, O, O, O, O, O, O, O, O, O, O, O, O, O, O, O, O, O, O, O, O, O, O, O, O, O, O, O, O, O, O]) rfl (.inr ⟨_, _, _, _, rfl, rfl, rfl, hg_4811⟩) rfl (e_val tk (by kernel_rfl)) (by kernel_rfl) rfl (by kernel_rfl) ?_
                           exact SD.vie D_9 [.g 0, .g 1, .g 2, .g 3, .g 4, .g 5, .g 6] c_4811_4 (by kernel_rfl)
                         · refine SW.eff D_9 (i := 18) (bs' := [I, I, I, I, I, I, I, I, I, I, I, I, I, I, I, I, O, O, I, O, O, O, O, O, O, O, O, O, O, O, O, O, O, O, O, O, O, O, O, O, O, O, O, O, O, O, O, O, O, O, O, O, O, O, O, O, O, O, O]) rfl (.inr ⟨_, _, _, _, rfl, rfl, rfl, hg_4811⟩) rfl (e_lit (sz := 1) (E := 5) (R := R8) (by_ := 1) tk [[ci .u8 32], [ci .u8 3], [ci .u8 0], [ci .u8 5], [ci .u8 42]] [32, 3, 0, 5, 42] (by kernel_rfl) ⟨Clo.int, ⟨Clo.int, ⟨Clo.int, ⟨Clo.int, ⟨Clo.int, trivial⟩⟩⟩⟩⟩ rfl (by kernel_rfl) (by kernel_rfl)) (by kernel_rfl) rfl (by kernel_rfl) ?_
                           exact SD.vie D_9 [.g 0, .g 1, .g 2, .g 3, .g 4, .g 5, .g 6, .g 7] c_4811_5 (by kernel_rfl)
                       · refine SD.lay 43 [I, I, I, I, I, I, I, I, I, I, I, I, I, I, I, O, O, O, I, O, O, O, O, O, O, O, O, O, O, O, O, O, O, O, O, O, O, O, O, O, O, O, O, O, O, O, O, O, O, O, O, O, O, O, O, O, O, O, O] [(1, vs 1), (7, vs 4), (65, vb x_891), (66, vs 1), (70, vs 5)] [.rd 4 R_T_api_Service x_1, .rd 5 R_T_api_Attribute x_2.1, .rd 5 R_T_api_Attribute x_3.1, .rd 5 R_T_api_Attribute x_4.1, .rd 6 R_T_api_Found x_5, .own 1 5 R8 [32, 3, 0, 5, 42]] ?_ (fun c_4811_7 => ?_)
                         · refine SD.pre (pre_ix (i := 1) (iv := 1) (sz := 5) (R := R_T_api_Attribute) (l := x_2.1) (by kernel_rfl) rfl e_x_6012) ?_
                           refine SD.all1 (i := 15) (by kernel_rfl) ?_
                           refine SW.eff D_9 (i := 15) (v := vp 6 0) (bs' := [I, I, I, I, I, I, I, I, I, I, I, I, I, I, I, I, O, O, I, O, O, O, O, O, O, O, O, O, O, O, O, O, O, O, O, O, O, O, O, O, O, O, O, O, O, O, O, O, O, O, O, O, O, O, O, O, O, O, O]) rfl (.inr ⟨_, _, _, _, rfl, rfl, rfl, hg_4811⟩) rfl (e_valE tk (.el 6) [1] (by kernel_rfl)) (by kernel_rfl) rfl (by kernel_rfl) ?_
                           exact SD.vie D_9 [.g 0, .g 1, .g 2, .g 3, .g 4, .g 6, .g 7, .g 5] c_4811_5 (by kernel_rfl)
                         · refine SD.all2 (i := 15) (j := 18) (by kernel_rfl) ?_ ?_
                           · refine SW.pre (pre_ix (i := 1) (iv := 1) (sz := 5) (R := R_T_api_Attribute) (l := x_2.1) (by kernel_rfl) rfl e_x_6012) ?_
                             refine SW.eff D_9 (i := 15) (v := vp 5 0) (bs' := [I, I, I, I, I, I, I, I, I, I, I, I, I, I, I, I, O, O, O, O, O, O, O, O, O, O, O, O, O, O, O, O, O, O, O, O, O, O, O, O, O, O, O, O, O, O, O, O, O, O, O, O, O, O, O, O, O, O, O]) rfl (.inr ⟨_, _, _, _, rfl, rfl, rfl, hg_4811⟩) rfl (e_valE tk (.el 5) [1] (by kernel_rfl)) (by kernel_rfl) rfl (by kernel_rfl) ?_
                             exact SD.vie D_9 [.g 0, .g 1, .g 2, .g 3, .g 4, .g 5, .g 6] c_4811_6 (by kernel_rfl)
                           · refine SW.eff D_9 (i := 18) (bs' := [I, I, I, I, I, I, I, I, I, I, I, I, I, I, I, O, O, O, I, O, O, O, O, O, O, O, O, O, O, O, O, O, O, O, O, O, O, O, O, O, O, O, O, O, O, O, O, O, O, O, O, O, O, O, O, O, O, O, O]) rfl (.inr ⟨_, _, _, _, rfl, rfl, rfl, hg_4811⟩) rfl (e_lit (sz := 1) (E := 5) (R := R8) (by_ := 1) tk [[ci .u8 32], [ci .u8 3], [ci .u8 0], [ci .u8 5], [ci .u8 42]] [32, 3, 0, 5, 42] (by kernel_rfl) ⟨Clo.int, ⟨Clo.int, ⟨Clo.int, ⟨Clo.int, ⟨Clo.int, trivial⟩⟩⟩⟩⟩ rfl (by kernel_rfl) (by kernel_rfl)) (by kernel_rfl) rfl (by kernel_rfl) ?_
                             exact SD.vie D_9 [.g 0, .g 1, .g 2, .g 3, .g 4, .g 5] c_4811_7 (by kernel_rfl)
         · replace hp := if_f hp hg_4811
           refine SD.takes tk D_9 [(65, false)] (knS rfl hg_4811 kn0) [14, 15, 16, 17, 18, 19, 20, 21] [] [] [I, I, I, I, I, I, I, I, I, I, I, I, I, I, I, I, I, I, I, I, I, I, O, O, O, O, O, O, O, O, O, O, O, O, O, O, O, O, O, O, O, O, O, O, O, O, O, O, O, O, O, O, O, O, O, O, O, O, O] [(1, vs 1), (7, vs 4), (73, vb false)] rfl (by kernel_rfl) (by kernel_rfl) (by kernel_rfl) ?_
           refine SD.takes tk D_9 [(73, false)] (knS rfl rfl kn0) [22, 23, 24, 25, 26, 27, 28, 29] [] [] [I, I, I, I, I, I, I, I, I, I, I, I, I, I, I, I, I, I, I, I, I, I, I, I, I, I, I, I, I, I, O, O, O, O, O, O, O, O, O, O, O, O, O, O, O, O, O, O, O, O, O, O, O, O, O, O, O, O, O] [(1, vs 1), (7, vs 4), (81, vb false)] rfl (by kernel_rfl) (by kernel_rfl) (by kernel_rfl) ?_
           refine SD.takes tk D_9 [(81, false)] (knS rfl rfl kn0) [30, 31, 32, 33, 34, 35, 36, 37] [] [] [I, I, I, I, I, I, I, I, I, I, I, I, I, I, I, I, I, I, I, I, I, I, I, I, I, I, I, I, I, I, I, I, I, I, I, I, I, I, O, O, O, O, O, O, O, O, O, O, O, O, O, O, O, O, O, O, O, O, O] [(1, vs 1), (7, vs 4), (89, vb false)] rfl (by kernel_rfl) (by kernel_rfl) (by kernel_rfl) ?_
           refine SD.takes tk D_9 [(89, false)] (knS rfl rfl kn0) [38, 39, 40, 41, 42, 43, 44, 45] [] [] [I, I, I, I, I, I, I, I, I, I, I, I, I, I, I, I, I, I, I, I, I, I, I, I, I, I, I, I, I, I, I, I, I, I, I, I, I, I, I, I, I, I, I, I, I, I, O, O, O, O, O, O, O, O, O, O, O, O, O] [(1, vs 1), (7, vs 4), (97, vb false)] rfl (by kernel_rfl) (by kernel_rfl) (by kernel_rfl) ?_
           refine SD.takes tk D_9 [(97, false)] (knS rfl rfl kn0) [46, 47, 48, 49, 50, 51, 52, 53] [] [] [I, I, I, I, I, I, I, I, I, I, I, I, I, I, I, I, I, I, I, I, I, I, I, I, I, I, I, I, I, I, I, I, I, I, I, I, I, I, I, I, I, I, I, I, I, I, I, I, I, I, I, I, I, I, O, O, O, O, O] [(1, vs 1), (105, vb false)] rfl (by kernel_rfl) (by kernel_rfl) (by kernel_rfl) ?_
           refine SD.takes tk D_9 [(105, false)] (knS rfl rfl kn0) [54, 55, 56, 57, 58] [] [] [I, I, I, I, I, I, I, I, I, I, I, I, I, I, I, I, I, I, I, I, I, I, I, I, I, I, I, I, I, I, I, I, I, I, I, I, I, I, I, I, I, I, I, I, I, I, I, I, I, I, I, I, I, I, I, I, I, I, I] [(0, vb false)] rfl (by kernel_rfl) (by kernel_rfl) (by kernel_rfl) ?_
           refine SD.done (by kernel_rfl) fun a w h => ?_
           exact ⟨false, hp, h.at (js := []) (by kernel_rfl)⟩
       · refine SD.lay 48 [I, I, I, I, I, I, I, I, I, I, I, O, O, O, O, O, O, O, O, O, O, O, O, O, O, O, O, O, O, O, O, O, O, O, O, O, O, O, O, O, O, O, O, O, O, O, O, O, O, O, O, O, O, O, O, O, O, O, O] [(1, vs 1), (7, vs 4), (57, vb ((x_6.1 == 4) && x_6.2)), (61, vs 6), (62, vs 7)] [.rd 4 R_T_api_Service x_1, .rd 5 R_T_api_Attribute x_2.1, .rd 5 R_T_api_Attribute x_3.1, .rd 5 R_T_api_Attribute x_4.1, .rd 6 R_T_api_Found x_5, .gone, .rd 1 R8 x_571.Value, .own 1 5 R8 [1, 24]] ?_ (fun c_10_1 => ?_)
         · refine SD.all1 (i := 11) (by kernel_rfl) ?_
           refine SW.eff D_9 (i := 11) (bs' := [I, I, I, I, I, I, I, I, I, I, I, I, O, O, O, O, O, O, O, O, O, O, O, O, O, O, O, O, O, O, O, O, O, O, O, O, O, O, O, O, O, O, O, O, O, O, O, O, O, O, O, O, O, O, O, O, O, O, O]) rfl (.inr ⟨_, _, _, _, rfl, rfl, rfl, hg_10⟩) rfl (e_c Try.call33 (ok_wirelessref23_Same F x_571.Value [1, 24] _ e_x_891) [.g 6, .l 7] [vs 6, vs 7] (vb x_891) (by kernel_rfl) (.inr ⟨trivial, trivial, trivial⟩)) (by kernel_rfl) rfl (by kernel_rfl) ?_
           refine SD.takes tk D_9 [(57, true)] (knS rfl hg_10 kn0) [12, 13] [] [] [I, I, I, I, I, I, I, I, I, I, I, I, I, I, O, O, O, O, O, O, O, O, O, O, O, O, O, O, O, O, O, O, O, O, O, O, O, O, O, O, O, O, O, O, O, O, O, O, O, O, O, O, O, O, O, O, O, O, O] [(1, vs 1), (7, vs 4), (65, vb x_891)] rfl (by kernel_rfl) (by kernel_rfl) (by kernel_rfl) ?_
           exact SD.vie D_9 [.g 0, .g 1, .g 2, .g 3, .g 4] c_10_0 (by kernel_rfl)
         · refine SD.lay 49 [I, I, I, I, I, I, I, I, I, I, O, O, O, O, O, O, O, O, O, O, O, O, O, O, O, O, O, O, O, O, O, O, O, O, O, O, O, O, O, O, O, O, O, O, O, O, O, O, O, O, O, O, O, O, O, O, O, O, O] [(1, vs 1), (7, vs 4), (57, vb ((x_6.1 == 4) && x_6.2)), (61, vs 6)] [.rd 4 R_T_api_Service x_1, .rd 5 R_T_api_Attribute x_2.1, .rd 5 R_T_api_Attribute x_3.1, .rd 5 R_T_api_Attribute x_4.1, .rd 6 R_T_api_Found x_5, .gone, .rd 1 R8 x_571.Value] ?_ (fun c_10_2 => ?_)
           · refine SD.all1 (i := 10) (by kernel_rfl) ?_
             refine SW.eff D_9 (i := 10) (bs' := [I, I, I, I, I, I, I, I, I, I, I, O, O, O, O, O, O, O, O, O, O, O, O, O, O, O, O, O, O, O, O, O, O, O, O, O, O, O, O, O, O, O, O, O, O, O, O, O, O, O, O, O, O, O, O, O, O, O, O]) rfl (.inr ⟨_, _, _, _, rfl, rfl, rfl, hg_10⟩) rfl (e_lit (sz := 1) (E := 5) (R := R8) (by_ := 1) tk [[ci .u8 1], [ci .u8 24]] [1, 24] (by kernel_rfl) ⟨Clo.int, ⟨Clo.int, trivial⟩⟩ rfl (by kernel_rfl) (by kernel_rfl)) (by kernel_rfl) rfl (by kernel_rfl) ?_
             exact SD.vie D_9 [.g 0, .g 1, .g 2, .g 3, .g 4, .n, .g 6, .g 7] c_10_1 (by kernel_rfl)
           · refine SD.lay 49 [I, I, I, I, I, I, I, I, I, O, I, O, O, O, O, O, O, O, O, O, O, O, O, O, O, O, O, O, O, O, O, O, O, O, O, O, O, O, O, O, O, O, O, O, O, O, O, O, O, O, O, O, O, O, O, O, O, O, O] [(1, vs 1), (7, vs 4), (57, vb ((x_6.1 == 4) && x_6.2)), (60, vp 5 4), (62, vs 7)] [.rd 4 R_T_api_Service x_1, .rd 5 R_T_api_Attribute x_2.1, .rd 5 R_T_api_Attribute x_3.1, .rd 5 R_T_api_Attribute x_4.1, .rd 6 R_T_api_Found x_5, .elt none false (C_api_Attribute x_571 (.s 6)), .rd 1 R8 x_571.Value, .own 1 5 R8 [1, 24]] ?_ (fun c_10_3 => ?_)
             · refine SD.all1 (i := 9) (by kernel_rfl) ?_
               refine SW.eff D_9 (i := 9) (v := vs 6) (bs' := [I, I, I, I, I, I, I, I, I, I, I, O, O, O, O, O, O, O, O, O, O, O, O, O, O, O, O, O, O, O, O, O, O, O, O, O, O, O, O, O, O, O, O, O, O, O, O, O, O, O, O, O, O, O, O, O, O, O, O]) rfl (.inr ⟨_, _, _, _, rfl, rfl, rfl, hg_10⟩) rfl (e_val tk (by kernel_rfl)) (by kernel_rfl) rfl (by kernel_rfl) ?_
               exact SD.vie D_9 [.g 0, .g 1, .g 2, .g 3, .g 4, .n, .g 6, .g 7] c_10_1 (by kernel_rfl)
             · refine SD.lay 50 [I, I, I, I, I, I, I, I, I, O, O, O, O, O, O, O, O, O, O, O, O, O, O, O, O, O, O, O, O, O, O, O, O, O, O, O, O, O, O, O, O, O, O, O, O, O, O, O, O, O, O, O, O, O, O, O, O, O, O] [(1, vs 1), (7, vs 4), (57, vb ((x_6.1 == 4) && x_6.2)), (60, vp 5 4)] [.rd 4 R_T_api_Service x_1, .rd 5 R_T_api_Attribute x_2.1, .rd 5 R_T_api_Attribute x_3.1, .rd 5 R_T_api_Attribute x_4.1, .rd 6 R_T_api_Found x_5, .elt none false (C_api_Attribute x_571 (.s 6)), .rd 1 R8 x_571.Value] ?_ (fun c_10_4 => ?_)
               · refine SD.all2 (i := 9) (j := 10) (by kernel_rfl) ?_ ?_
                 · refine SW.eff D_9 (i := 9) (v := vs 6) (bs' := [I, I, I, I, I, I, I, I, I, I, O, O, O, O, O, O, O, O, O, O, O, O, O, O, O, O, O, O, O, O, O, O, O, O, O, O, O, O, O, O, O, O, O, O, O, O, O, O, O, O, O, O, O, O, O, O, O, O, O]) rfl (.inr ⟨_, _, _, _, rfl, rfl, rfl, hg_10⟩) rfl (e_val tk (by kernel_rfl)) (by kernel_rfl) rfl (by kernel_rfl) ?_
                   exact SD.vie D_9 [.g 0, .g 1, .g 2, .g 3, .g 4, .n, .g 6] c_10_2 (by kernel_rfl)
                 · refine SW.eff D_9 (i := 10) (bs' := [I, I, I, I, I, I, I, I, I, O, I, O, O, O, O, O, O, O, O, O, O, O, O, O, O, O, O, O, O, O, O, O, O, O, O, O, O, O, O, O, O, O, O, O, O, O, O, O, O, O, O, O, O, O, O, O, O, O, O]) rfl (.inr ⟨_, _, _, _, rfl, rfl, rfl, hg_10⟩) rfl (e_lit (sz := 1) (E := 5) (R := R8) (by_ := 1) tk [[ci .u8 1], [ci .u8 24]] [1, 24] (by kernel_rfl) ⟨Clo.int, ⟨Clo.int, trivial⟩⟩ rfl (by kernel_rfl) (by kernel_rfl)) (by kernel_rfl) rfl (by kernel_rfl) ?_
                   exact SD.vie D_9 [.g 0, .g 1, .g 2, .g 3, .g 4, .g 5, .g 6, .g 7] c_10_3 (by kernel_rfl)
               · refine SD.lay 50 [I, I, I, I, I, I, I, I, O, O, I, O, O, O, O, O, O, O, O, O, O, O, O, O, O, O, O, O, O, O, O, O, O, O, O, O, O, O, O, O, O, O, O, O, O, O, O, O, O, O, O, O, O, O, O, O, O, O, O] [(1, vs 1), (7, vs 4), (57, vb ((x_6.1 == 4) && x_6.2)), (59, vp 5 0), (62, vs 7)] [.rd 4 R_T_api_Service x_1, .rd 5 R_T_api_Attribute x_2.1, .rd 5 R_T_api_Attribute x_3.1, .rd 5 R_T_api_Attribute x_4.1, .rd 6 R_T_api_Found x_5, .elt none false (C_api_Attribute x_571 (.s 6)), .rd 1 R8 x_571.Value, .own 1 5 R8 [1, 24]] ?_ (fun c_10_5 => ?_)
                 · refine SD.all1 (i := 8) (by kernel_rfl) ?_
                   refine SW.eff D_9 (i := 8) (v := vp 5 4) (bs' := [I, I, I, I, I, I, I, I, I, O, I, O, O, O, O, O, O, O, O, O, O, O, O, O, O, O, O, O, O, O, O, O, O, O, O, O, O, O, O, O, O, O, O, O, O, O, O, O, O, O, O, O, O, O, O, O, O, O, O]) rfl (.inr ⟨_, _, _, _, rfl, rfl, rfl, hg_10⟩) rfl (e_val tk (by kernel_rfl)) (by kernel_rfl) rfl (by kernel_rfl) ?_
                   exact SD.vie D_9 [.g 0, .g 1, .g 2, .g 3, .g 4, .g 5, .g 6, .g 7] c_10_3 (by kernel_rfl)
                 · refine SD.lay 51 [I, I, I, I, I, I, I, I, O, O, O, O, O, O, O, O, O, O, O, O, O, O, O, O, O, O, O, O, O, O, O, O, O, O, O, O, O, O, O, O, O, O, O, O, O, O, O, O, O, O, O, O, O, O, O, O, O, O, O] [(1, vs 1), (7, vs 4), (57, vb ((x_6.1 == 4) && x_6.2)), (59, vp 5 0)] [.rd 4 R_T_api_Service x_1, .rd 5 R_T_api_Attribute x_2.1, .rd 5 R_T_api_Attribute x_3.1, .rd 5 R_T_api_Attribute x_4.1, .rd 6 R_T_api_Found x_5, .elt none false (C_api_Attribute x_571 (.s 6)), .rd 1 R8 x_571.Value] ?_ (fun c_10_6 => ?_)
                   · refine SD.all2 (i := 8) (j := 10) (by kernel_rfl) ?_ ?_
                     · refine SW.eff D_9 (i := 8) (v := vp 5 4) (bs' := [I, I, I, I, I, I, I, I, I, O, O, O, O, O, O, O, O, O, O, O, O, O, O, O, O, O, O, O, O, O, O, O, O, O, O, O, O, O, O, O, O, O, O, O, O, O, O, O, O, O, O, O, O, O, O, O, O, O, O]) rfl (.inr ⟨_, _, _, _, rfl, rfl, rfl, hg_10⟩) rfl (e_val tk (by kernel_rfl)) (by kernel_rfl) rfl (by kernel_rfl) ?_
                       exact SD.vie D_9 [.g 0, .g 1, .g 2, .g 3, .g 4, .g 5, .g 6] c_10_4 (by kernel_rfl)
                     · refine SW.eff D_9 (i := 10) (bs' := [I, I, I, I, I, I, I, I, O, O, I, O, O, O, O, O, O, O, O, O, O, O, O, O, O, O, O, O, O, O, O, O, O, O, O, O, O, O, O, O, O, O, O, O, O, O, O, O, O, O, O, O, O, O, O, O, O, O, O]) rfl (.inr ⟨_, _, _, _, rfl, rfl, rfl, hg_10⟩) rfl (e_lit (sz := 1) (E := 5) (R := R8) (by_ := 1) tk [[ci .u8 1], [ci .u8 24]] [1, 24] (by kernel_rfl) ⟨Clo.int, ⟨Clo.int, trivial⟩⟩ rfl (by kernel_rfl) (by kernel_rfl)) (by kernel_rfl) rfl (by kernel_rfl) ?_
                       exact SD.vie D_9 [.g 0, .g 1, .g 2, .g 3, .g 4, .g 5, .g 6, .g 7] c_10_5 (by kernel_rfl)
                   · refine SD.lay 51 [I, I, I, I, I, I, I, O, O, O, I, O, O, O, O, O, O, O, O, O, O, O, O, O, O, O, O, O, O, O, O, O, O, O, O, O, O, O, O, O, O, O, O, O, O, O, O, O, O, O, O, O, O, O, O, O, O, O, O] [(1, vs 1), (7, vs 4), (57, vb ((x_6.1 == 4) && x_6.2)), (58, vs 1), (62, vs 5)] [.rd 4 R_T_api_Service x_1, .rd 5 R_T_api_Attribute x_2.1, .rd 5 R_T_api_Attribute x_3.1, .rd 5 R_T_api_Attribute x_4.1, .rd 6 R_T_api_Found x_5, .own 1 5 R8 [1, 24]] ?_ (fun c_10_7 => ?_)
                     · refine SD.pre (pre_ix (i := 1) (iv := 0) (sz := 5) (R := R_T_api_Attribute) (l := x_2.1) (by kernel_rfl) rfl e_x_571) ?_
                       refine SD.all1 (i := 7) (by kernel_rfl) ?_
                       refine SW.eff D_9 (i := 7) (v := vp 6 0) (bs' := [I, I, I, I, I, I, I, I, O, O, I, O, O, O, O, O, O, O, O, O, O, O, O, O, O, O, O, O, O, O, O, O, O, O, O, O, O, O, O, O, O, O, O, O, O, O, O, O, O, O, O, O, O, O, O, O, O, O, O]) rfl (.inr ⟨_, _, _, _, rfl, rfl, rfl, hg_10⟩) rfl (e_valE tk (.el 6) [0] (by kernel_rfl)) (by kernel_rfl) rfl (by kernel_rfl) ?_
                       exact SD.vie D_9 [.g 0, .g 1, .g 2, .g 3, .g 4, .g 6, .g 7, .g 5] c_10_5 (by kernel_rfl)
                     · refine SD.all2 (i := 7) (j := 10) (by kernel_rfl) ?_ ?_
                       · refine SW.pre (pre_ix (i := 1) (iv := 0) (sz := 5) (R := R_T_api_Attribute) (l := x_2.1) (by kernel_rfl) rfl e_x_571) ?_
                         refine SW.eff D_9 (i := 7) (v := vp 5 0) (bs' := [I, I, I, I, I, I, I, I, O, O, O, O, O, O, O, O, O, O, O, O, O, O, O, O, O, O, O, O, O, O, O, O, O, O, O, O, O, O, O, O, O, O, O, O, O, O, O, O, O, O, O, O, O, O, O, O, O, O, O]) rfl (.inr ⟨_, _, _, _, rfl, rfl, rfl, hg_10⟩) rfl (e_valE tk (.el 5) [0] (by kernel_rfl)) (by kernel_rfl) rfl (by kernel_rfl) ?_
                         exact SD.vie D_9 [.g 0, .g 1, .g 2, .g 3, .g 4, .g 5, .g 6] c_10_6 (by kernel_rfl)
                       · refine SW.eff D_9 (i := 10) (bs' := [I, I, I, I, I, I, I, O, O, O, I, O, O, O, O, O, O, O, O, O, O, O, O, O, O, O, O, O, O, O, O, O, O, O, O, O, O, O, O, O, O, O, O, O, O, O, O, O, O, O, O, O, O, O, O, O, O, O, O]) rfl (.inr ⟨_, _, _, _, rfl, rfl, rfl, hg_10⟩) rfl (e_lit (sz := 1) (E := 5) (R := R8) (by_ := 1) tk [[ci .u8 1], [ci .u8 24]] [1, 24] (by kernel_rfl) ⟨Clo.int, ⟨Clo.int, trivial⟩⟩ rfl (by kernel_rfl) (by kernel_rfl)) (by kernel_rfl) rfl (by kernel_rfl) ?_
                         exact SD.vie D_9 [.g 0, .g 1, .g 2, .g 3, .g 4, .g 5] c_10_7 (by kernel_rfl)
     · replace hp := if_f hp hg_10
       refine SD.takes tk D_9 [(57, false)] (knS rfl hg_10 kn0) [6, 7, 8, 9, 10, 11, 12, 13] [] [] [I, I, I, I, I, I, I, I, I, I, I, I, I, I, O, O, O, O, O, O, O, O, O, O, O, O, O, O, O, O, O, O, O, O, O, O, O, O, O, O, O, O, O, O, O, O, O, O, O, O, O, O, O, O, O, O, O, O, O] [(1, vs 1), (7, vs 4), (65, vb false)] rfl (by kernel_rfl) (by kernel_rfl) (by kernel_rfl) ?_
       refine SD.takes tk D_9 [(65, false)] (knS rfl rfl kn0) [14, 15, 16, 17, 18, 19, 20, 21] [] [] [I, I, I, I, I, I, I, I, I, I, I, I, I, I, I, I, I, I, I, I, I, I, O, O, O, O, O, O, O, O, O, O, O, O, O, O, O, O, O, O, O, O, O, O, O, O, O, O, O, O, O, O, O, O, O, O, O, O, O] [(1, vs 1), (7, vs 4), (73, vb false)] rfl (by kernel_rfl) (by kernel_rfl) (by kernel_rfl) ?_
       refine SD.takes tk D_9 [(73, false)] (knS rfl rfl kn0) [22, 23, 24, 25, 26, 27, 28, 29] [] [] [I, I, I, I, I, I, I, I, I, I, I, I, I, I, I, I, I, I, I, I, I, I, I, I, I, I, I, I, I, I, O, O, O, O, O, O, O, O, O, O, O, O, O, O, O, O, O, O, O, O, O, O, O, O, O, O, O, O, O] [(1, vs 1), (7, vs 4), (81, vb false)] rfl (by kernel_rfl) (by kernel_rfl) (by kernel_rfl) ?_
       refine SD.takes tk D_9 [(81, false)] (knS rfl rfl kn0) [30, 31, 32, 33, 34, 35, 36, 37] [] [] [I, I, I, I, I, I, I, I, I, I, I, I, I, I, I, I, I, I, I, I, I, I, I, I, I, I, I, I, I, I, I, I, I, I, I, I, I, I, O, O, O, O, O, O, O, O, O, O, O, O, O, O, O, O, O, O, O, O, O] [(1, vs 1), (7, vs 4), (89, vb false)] rfl (by kernel_rfl) (by kernel_rfl) (by kernel_rfl) ?_
       refine SD.takes tk D_9 [(89, false)] (knS rfl rfl kn0) [38, 39, 40, 41, 42, 43, 44, 45] [] [] [I, I, I, I, I, I, I, I, I, I, I, I, I, I, I, I, I, I, I, I, I, I, I, I, I, I, I, I, I, I, I, I, I, I, I, I, I, I, I, I, I, I, I, I, I, I, O, O, O, O, O, O, O, O, O, O, O, O, O] [(1, vs 1), (7, vs 4), (97, vb false)] rfl (by kernel_rfl) (by kernel_rfl) (by kernel_rfl) ?_
       refine SD.takes tk D_9 [(97, false)] (knS rfl rfl kn0) [46, 47, 48, 49, 50, 51, 52, 53] [] [] [I, I, I, I, I, I, I, I, I, I, I, I, I, I, I, I, I, I, I, I, I, I, I, I, I, I, I, I, I, I, I, I, I, I, I, I, I, I, I, I, I, I, I, I, I, I, I, I, I, I, I, I, I, I, O, O, O, O, O] [(1, vs 1), (105, vb false)] rfl (by kernel_rfl) (by kernel_rfl) (by kernel_rfl) ?_
       refine SD.takes tk D_9 [(105, false)] (knS rfl rfl kn0) [54, 55, 56, 57, 58] [] [] [I, I, I, I, I, I, I, I, I, I, I, I, I, I, I, I, I, I, I, I, I, I, I, I, I, I, I, I, I, I, I, I, I, I, I, I, I, I, I, I, I, I, I, I, I, I, I, I, I, I, I, I, I, I, I, I, I, I, I] [(0, vb false)] rfl (by kernel_rfl) (by kernel_rfl) (by kernel_rfl) ?_
       refine SD.done (by kernel_rfl) fun a w h => ?_
       exact ⟨false, hp, h.at (js := []) (by kernel_rfl)⟩
   · rintro a w ⟨z_7, hp, h⟩
     refine h.go ?_
     obtain rfl := some_inv' hp
     exact SC.re (js := []) tk (by kernel_rfl)

theorem ok_wirelessref43_Find (F : Nat) (db_1 : (List T_api_Attribute)) (handle_2 : Int) (r : Int) (hp : wirelessref43_Find F db_1 handle_2 = some r) : Spec Try.prog 23 [vs 0, vi .u16 handle_2] [.rd 5 R_T_api_Attribute db_1] (vi .i64 r) [.gone] := by
 refine Spec.enter Try.func23 rfl Try.ntmps23 rfl rfl fun fx => ?_
 refine SC.r tk [(0, vs 0), (1, vi .u16 handle_2)] [] [] [] (by kernel_rfl) ?_
 refine SC.cut (fun a w => wirelessref43_Find_j1 F = some r ∧ A 20 1 fx [] [.gone] a w) ?_ ?_
 · refine SC.r tk [(0, vs 0), (1, vi .u16 handle_2), (5, vi .i64 0)] [] [] [] (by kernel_rfl) ?_
   refine SC.block ?_
   obtain ⟨o1, hi1, ho1⟩ := bind_inv hp
   clear hp
   refine SC.loop (fun n a w => ∃ (x_3 : Int), iter (fun s => wirelessref43_Find_l1 F db_1 handle_2 s) n (x_3) = some o1 ∧ A 20 1 fx [(0, vs 0), (1, vi .u16 handle_2), (5, vi .i64 x_3)] [.rd 5 R_T_api_Attribute db_1] a w) F (fun a w h => ⟨0, hi1, h.at (js := [.g 0]) (by kernel_rfl)⟩) ?_
   rintro n1 a w ⟨x_3, hi1, h⟩
   obtain ⟨n1, q1, rfl, hp, hs1⟩ := iter_inv hi1
   replace hp : wirelessref43_Find_l1 F db_1 handle_2 x_3 = some q1 := hp
   clear hi1
   refine h.go ?_
   refine SC.seq ?_
   refine SC.r tk [(0, vs 0), (1, vi .u16 handle_2), (5, vi .i64 x_3), (9, vb (decide (x_3 < (len db_1))))] [] [] [] (by kernel_rfl) ?_
   refine SC.if' rfl hp (fun hp => ?_) (fun hp => ?_)
   · refine SC.skipThen ?_
     refine SC.seq ?_
     refine SC.block ?_
     obtain ⟨x_4, e_x_4, hp⟩ := bind_inv hp
     refine SC.pre (pre_ix (i := 0) (iv := x_3) (sz := 5) (R := R_T_api_Attribute) (l := db_1) (by kernel_rfl) rfl e_x_4) ?_
     refine SC.r tk [(0, vs 0), (1, vi .u16 handle_2), (5, vi .i64 x_3), (18, vb (x_4.Handle == handle_2))] [] [.el 1] [x_3] (by kernel_rfl) ?_
     refine SC.if' rfl hp (fun hp => ?_) (fun hp => ?_)
     · refine SC.r tk [(4, vi .i64 x_3)] [] [] [] (by kernel_rfl) ?_
       have ho := done_inv hp hs1
       replace hp := ho1
       try rw [ho] at hp
       obtain rfl := some_inv' hp
       exact SC.re (js := [.g 0]) tk (by kernel_rfl)
     · refine SC.skipThen ?_
       refine SC.reg ?_
       refine SL.sim tk 3 [(0, vs 0), (1, vi .u16 handle_2), (5, vi .i64 (w64 (x_3 + 1)))] [] [] [] (by kernel_rfl) ?_
       refine SL.nilJ fun a w h => ?_
       exact ⟨n1, Nat.lt_succ_self _, w64 (x_3 + 1), next_inv hp hs1, h.at (js := [.g 0]) (by kernel_rfl)⟩
   · refine SC.exitJ rfl fun a w h => ?_
     have ho := done_inv hp hs1
     replace hp := ho1
     try rw [ho] at hp
     exact ⟨hp, h.at (js := [.g 0]) (by kernel_rfl)⟩
 · rintro a w ⟨hp, h⟩
   refine h.go ?_
   refine SC.r tk [(4, vi .i64 (-1))] [] [] [] (by kernel_rfl) ?_
   obtain rfl := some_inv' hp
   exact SC.re (js := [.g 0]) tk (by kernel_rfl)

theorem ok_wirelessref43_Set (F : Nat) (db_1 : (List T_api_Attribute)) (handle_2 : Int) (value_3 : (List Int)) (r : (List T_api_Attribute) × Int) (hp : wirelessref43_Set F db_1 handle_2 value_3 = some r) : Spec Try.prog 31 [vs 0, vi .u16 handle_2, vs 1] [.rd 5 R_T_api_Attribute db_1, .rd 1 R8 value_3] (.u [.inl (.s 2), .inl (ci .i64 r.2)]) [.gone, .gone, .rd 5 R_T_api_Attribute r.1] := by
 refine Spec.enter Try.func31 rfl Try.ntmps31 rfl rfl fun fx => ?_
 refine SC.r tk [(0, vs 0), (1, vi .u16 handle_2), (2, vs 1)] [] [] [] (by kernel_rfl) ?_
 refine SC.seq ?_
 refine SC.reg ?_
 refine SL.sim tk 2 [(0, vs 0), (2, vs 1), (10, vs 0), (11, vi .u16 handle_2)] [] [] [] (by kernel_rfl) ?_
 obtain ⟨x_4, e_x_4, hp⟩ := bind_inv hp
 refine SL.eff (e_c Try.call23 (ok_wirelessref43_Find F db_1 handle_2 _ e_x_4) [.g 0] [vs 0, vi .u16 handle_2] (vi .i64 x_4) (by kernel_rfl) (.inl rfl)) rfl (by kernel_rfl) ?_
 refine SL.sim tk 1 [(0, vs 0), (2, vs 1), (8, vi .i64 x_4)] [] [] [] (by kernel_rfl) ?_
 refine SL.nilThen ?_
 refine SC.seq ?_
 refine SC.r tk [(0, vs 0), (2, vs 1), (8, vi .i64 x_4), (14, vb (decide (x_4 < 0)))] [] [] [] (by kernel_rfl) ?_
 refine SC.if' rfl hp (fun hp => ?_) (fun hp => ?_)
 · refine SC.r tk [(6, vs 0), (7, vi .i64 6)] [] [] [] (by kernel_rfl) ?_
   obtain rfl := some_inv' hp
   exact SC.re (js := [.g 0, .g 1, .g 0]) tk (by kernel_rfl)
 · refine SC.skipThen ?_
   refine SC.seq ?_
   refine SC.seq ?_
   refine SC.reg ?_
   obtain ⟨x_5, e_x_5, hp⟩ := bind_inv hp
   refine SL.pre (pre_ix (i := 0) (iv := x_4) (sz := 5) (R := R_T_api_Attribute) (l := db_1) (by kernel_rfl) rfl e_x_5) ?_
   refine SL.sim tk 5 [(0, vs 0), (2, vs 1), (8, vi .i64 x_4), (20, .g (C_api_UUID x_5.f_Type))] [] [.el 2] [x_4] (by kernel_rfl) ?_
   obtain ⟨x_6, e_x_6, hp⟩ := bind_inv hp
   refine SL.eff (e_c Try.call67 (ok_wirelessref43_kept F x_5.f_Type _ e_x_6) [] [.g (C_api_UUID x_5.f_Type)] (vb x_6) (by kernel_rfl) (.inl rfl)) rfl (by kernel_rfl) ?_
   refine SL.norm (itsN := [.rd 5 R_T_api_Attribute db_1, .rd 1 R8 value_3, .elt (some (0, x_4)) false (C_api_Attribute x_5 (.s 3)), .rd 1 R8 x_5.Value]) (by kernel_rfl) ?_
   refine SL.nilThen ?_
   refine SC.if' rfl hp (fun hp => ?_) (fun hp => ?_)
   · refine SC.r tk [(6, vs 0), (7, vi .i64 14)] [] [] [] (by kernel_rfl) ?_
     obtain rfl := some_inv' hp
     exact SC.re (js := [.g 0, .g 1, .g 0]) tk (by kernel_rfl)
   · refine SC.skipThen ?_
     refine SC.seq ?_
     refine SC.r tk [(0, vs 0), (2, vs 1), (8, vi .i64 x_4), (25, vb (decide ((len value_3) > 512)))] [] [] [] (by kernel_rfl) ?_
     refine SC.if' rfl hp (fun hp => ?_) (fun hp => ?_)
     · refine SC.r tk [(6, vs 0), (7, vi .i64 4)] [] [] [] (by kernel_rfl) ?_
       obtain rfl := some_inv' hp
       exact SC.re (js := [.g 0, .g 1, .g 0]) tk (by kernel_rfl)
     · refine SC.skipThen ?_
       refine SC.seq ?_
       refine SC.reg ?_
       refine SL.eff (e_lit (sz := 5) (E := 39) (R := R_T_api_Attribute) (by_ := 56) tk [] ([] : (List T_api_Attribute)) (by kernel_rfl) trivial rfl (by kernel_rfl) (by kernel_rfl)) rfl (by kernel_rfl) ?_
       refine SL.sim tk 1 [(2, vs 1), (8, vi .i64 x_4), (27, vs 4), (28, vs 0)] [] [] [] (by kernel_rfl) ?_
       obtain ⟨l_7, e_l_7, hp⟩ := bind_inv hp
       refine SL.eff (e_app (i := 4) (l := ([] : (List T_api_Attribute))) (sz := 5) (E := 39) (R := R_T_api_Attribute) (by_ := 56) (m := db_1) tk rfl (by kernel_rfl) rfl (.r (by kernel_rfl)) e_l_7 (by kernel_rfl)) rfl (by kernel_rfl) ?_
       refine SL.sim tk 1 [(2, vs 1), (8, vi .i64 x_4), (9, vs 5)] [] [] [] (by kernel_rfl) ?_
       refine SL.nilThen ?_
       refine SC.seq ?_
       refine SC.reg ?_
       refine SL.sim tk 2 [(2, vs 1), (9, vs 5), (30, vs 5), (31, vi .i64 x_4)] [] [] [] (by kernel_rfl) ?_
       refine SL.eff (e_lit (sz := 1) (E := 5) (R := R8) (by_ := 1) tk [] ([] : (List Int)) (by kernel_rfl) trivial rfl (by kernel_rfl) (by kernel_rfl)) rfl (by kernel_rfl) ?_
       refine SL.sim tk 1 [(9, vs 5), (30, vs 5), (31, vi .i64 x_4), (32, vs 6), (33, vs 1)] [] [] [] (by kernel_rfl) ?_
       obtain ⟨l_8, e_l_8, hp⟩ := bind_inv hp
       refine SL.eff (e_app (i := 6) (l := ([] : (List Int))) (sz := 1) (E := 5) (R := R8) (by_ := 1) (m := value_3) tk rfl (by kernel_rfl) rfl (.r (by kernel_rfl)) e_l_8 (by kernel_rfl)) rfl (by kernel_rfl) ?_
       refine SL.norm (itsN := [.rd 5 R_T_api_Attribute db_1, .rd 1 R8 value_3, .elt (some (0, x_4)) false (C_api_Attribute x_5 (.s 3)), .rd 1 R8 x_5.Value, .gone, .own 5 39 R_T_api_Attribute l_7, .gone, .own 1 5 R8 l_8]) (by kernel_rfl) ?_
       obtain ⟨x_9, e_x_9, hp⟩ := bind_inv hp
       refine SL.pre (pre_ixo (i := 5) (iv := x_4) (sz := 5) (E := 39) (R := R_T_api_Attribute) (l := l_7) (by kernel_rfl) rfl e_x_9) ?_
       refine SL.sim tk 2 [(9, vs 5), (34, vs 7), (36, vp 8 4)] [] [.el 8] [x_4] (by kernel_rfl) ?_
       obtain ⟨l_10, e_l_10, hp⟩ := bind_inv hp
       refine SL.pre (pre_frz (i := 7) (sz := 1) (E := 5) (R := R8) (l := l_8) (by kernel_rfl)) ?_
       refine SL.eff0 (e_updf (sz := 5) (R := R_T_api_Attribute) (i := 5) (iv := x_4) (cs1 := (C_api_Attribute ({ x_9 with Value := l_8 }) (.s 7))) (e := { x_9 with Value := l_8 }) tk rfl rfl rfl (by kernel_rfl) rfl rfl rfl (clo_T_api_Attribute (x := { x_9 with Value := l_8 }) (Clo.sl (by kernel_rfl))) (by kernel_rfl) (by kernel_rfl) e_l_10) ?_
       refine SL.nilThen ?_
       refine SC.r tk [(6, vs 5), (7, vi .i64 0)] [] [] [] (by kernel_rfl) ?_
       obtain rfl := some_inv' hp
       exact SC.re (js := [.g 0, .g 1, .z 5]) tk (by kernel_rfl)
end V
end Go.Proofs.Ytchlimkophmjlaa
