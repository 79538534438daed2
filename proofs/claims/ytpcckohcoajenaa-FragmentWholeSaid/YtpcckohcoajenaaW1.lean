/-
  Walks, written by program: each Go function returns what its pure twin says.
-/
import Derived.Test.YtpcckohcoajenaaW0
namespace Go.Proofs.Ytpcckohcoajenaa
namespace V
theorem ok_wirelesslaw32_FragmentFeeds (F : Nat) (a_1 : T_api_Assembler) (l_2 : (List T_api_Packet)) (r : Bool) (hp : wirelesslaw32_FragmentFeeds F a_1 l_2 = some r) : Spec Try.prog 6 [.g [cb a_1.On, .s 0], vs 1] [.rd 1 R8 a_1.Buffer, .rd 2 R_T_api_Packet l_2] (vb r) [.gone, .gone] := by
 refine Spec.enter Try.func6 rfl Try.ntmps6 rfl rfl fun fx => ?_
 refine SC.seq ?_
 refine SC.reg ?_
 refine SL.eff (e_box (E := 41) [cb a_1.On, .s 0] (by kernel_rfl)) rfl (by kernel_rfl) ?_
 refine SL.sim tk 1 [(1, vs 1), (2, vp 2 0)] [] [] [] (by kernel_rfl) ?_
 refine SL.nilThen ?_
 refine SC.seq ?_
 refine SC.seq ?_
 refine SC.reg ?_
 refine SL.sim tk 1 [(1, vs 1), (2, vp 2 0), (13, vs 1)] [] [] [] (by kernel_rfl) ?_
 obtain ⟨x_3, e_x_3, hp⟩ := bind_inv hp
 refine SL.eff (e_c Try.call19 (ok_wirelesslaw32_light F l_2 _ e_x_3) [.g 1] [vs 1] (vb x_3) (by kernel_rfl) (.inl rfl)) rfl (by kernel_rfl) ?_
 refine SL.sim tk 2 [(1, vs 1), (2, vp 2 0), (16, vb (!x_3))] [] [] [] (by kernel_rfl) ?_
 obtain ⟨z_5, hz, hpr⟩ := bind_inv hp
 clear hp
 refine SL.cutAt 4 (fun a w => A 67 2 fx [(1, vs 1), (2, vp 2 0), (20, vb z_5)] [.rd 1 R8 a_1.Buffer, .rd 2 R_T_api_Packet l_2, .blk 41 [cb a_1.On, .s 0]] a w) ?_ ?_
 · have hp := hz
   rcases Bool.eq_false_or_eq_true ((!x_3)) with hg_4 | hg_4
   · replace hp := if_t hp hg_4
     refine SL.no rfl rfl hg_4 rfl ?_
     refine SL.no rfl rfl hg_4 rfl ?_
     refine SL.no rfl rfl hg_4 rfl ?_
     refine SL.pickt rfl hg_4 rfl rfl ?_
     refine SL.nilJ fun a w h => ?_
     obtain rfl := some_inv' hp
     exact h.at (js := [.g 0, .g 1, .g 2]) (by kernel_rfl)
   · replace hp := if_f hp hg_4
     refine SL.yes rfl rfl hg_4 ?_
     refine SL.sim tk 1 [(1, vs 1), (2, vp 2 0), (16, vb (!x_3)), (17, .g [cb a_1.On, .s 0])] [] [] [] (by kernel_rfl) ?_
     refine SL.yes rfl rfl hg_4 ?_
     obtain ⟨x_43, e_x_43, hp⟩ := bind_inv hp
     refine SL.eff (e_c Try.call20 (ok_wirelessref32_Valid F a_1 _ e_x_43) [.g 0] [.g [cb a_1.On, .s 0]] (vb x_43) (by kernel_rfl) (.inl rfl)) rfl (by kernel_rfl) ?_
     refine SL.norm (itsN := [.rd 1 R8 a_1.Buffer, .rd 2 R_T_api_Packet l_2, .blk 41 [cb a_1.On, .s 0]]) (by kernel_rfl) ?_
     refine SL.yes rfl rfl hg_4 ?_
     refine SL.sim tk 1 [(1, vs 1), (2, vp 2 0), (16, vb (!x_3)), (19, vb (!x_43))] [] [] [] (by kernel_rfl) ?_
     refine SL.pickf rfl hg_4 rfl rfl ?_
     refine SL.nilJ fun a w h => ?_
     obtain rfl := some_inv' hp
     exact h.at (js := [.g 0, .g 1, .g 2]) (by kernel_rfl)
 · intro a w h
   have hp := hpr; clear hpr hz
   refine h.goL ?_
   refine SL.nilThen ?_
   refine SC.if' rfl hp (fun hp => ?_) (fun hp => ?_)
   · refine SC.seq ?_
     refine SC.reg ?_
     obtain ⟨x_6, e_x_6, hp⟩ := bind_inv hp
     refine SL.eff (e_c Try.call10 (ok_wirelesslaw32_exampleHolds F  _ e_x_6) [] [] (vb x_6) (by kernel_rfl) (.inl rfl)) rfl (by kernel_rfl) ?_
     refine SL.sim tk 1 [(4, vb x_6)] [] [] [] (by kernel_rfl) ?_
     refine SL.nilThen ?_
     obtain rfl := some_inv' hp
     exact SC.re (js := [.g 0, .g 1]) tk (by kernel_rfl)
   · refine SC.skipThen ?_
     refine SC.seq ?_
     refine SC.reg ?_
     refine SL.sim tk 1 [(1, vs 1), (2, vp 2 0), (22, .g [cb a_1.On, .s 0])] [] [] [] (by kernel_rfl) ?_
     refine SL.eff (e_alloc (E := 41) tk [cb false, nl] (by kernel_rfl)) rfl (by kernel_rfl) ?_
     refine SL.sim tk 1 [(1, vs 1), (2, vp 2 0), (5, vp 3 0)] [(3, 41, [cb a_1.On, .s 0])] [] [] (by kernel_rfl) ?_
     refine SL.nilThen ?_
     refine SC.cut (fun a w => wirelesslaw32_FragmentFeeds_j1 F = some r ∧ A 67 2 fx [] [.gone, .gone] a w) ?_ ?_
     · refine SC.r tk [(1, vs 1), (2, vp 2 0), (5, vp 3 0), (6, vi .i64 0)] [] [] [] (by kernel_rfl) ?_
       refine SC.block ?_
       obtain ⟨o1, hi1, ho1⟩ := bind_inv hp
       clear hp
       refine SC.loop (fun n a w => ∃ (c_10 : T_api_Assembler) (c_13 : T_api_Assembler) (x_14 : Int), iter (fun s => wirelesslaw32_FragmentFeeds_l1 F l_2 s.1 s.2.1 s.2.2) n (c_10, c_13, x_14) = some o1 ∧ A 67 2 fx [(1, vs 1), (2, vp 2 0), (5, vp 4 0), (6, vi .i64 x_14)] [.gone, .rd 2 R_T_api_Packet l_2, .blk 41 [cb c_10.On, .s 3], .rd 1 R8 c_10.Buffer, .blk 41 [cb c_13.On, .s 5], .rd 1 R8 c_13.Buffer] a w) F (fun a w h => ⟨a_1, a_1, 0, hi1, h.at (js := [.g 0, .g 1, .g 2, .g 0, .g 3, .g 0]) (by kernel_rfl)⟩) ?_
       rintro n1 a w ⟨c_10, c_13, x_14, hi1, h⟩
       obtain ⟨n1, q1, rfl, hp, hs1⟩ := iter_inv hi1
       replace hp : wirelesslaw32_FragmentFeeds_l1 F l_2 c_10 c_13 x_14 = some q1 := hp
       clear hi1
       refine h.go ?_
       refine SC.seq ?_
       refine SC.r tk [(1, vs 1), (2, vp 2 0), (5, vp 4 0), (6, vi .i64 x_14), (26, vb (decide (x_14 < (len l_2))))] [] [] [] (by kernel_rfl) ?_
       refine SC.if' rfl hp (fun hp => ?_) (fun hp => ?_)
       · refine SC.skipThen ?_
         refine SC.seq ?_
         refine SC.block ?_
         refine SC.cut (fun a w => ∃ (c_17 : T_api_Assembler) (l_18 : (List T_api_Frame)) (x_19 : Int), wirelesslaw32_FragmentFeeds_j2 F l_2 c_13 x_14 c_17 l_18 x_19 = some q1 ∧ A 67 2 fx [(1, vs 1), (2, vp 2 0), (5, vp 4 0), (6, vi .i64 x_14), (7, vp 6 0), (8, vs 8), (9, vi .i64 x_19)] [.gone, .rd 2 R_T_api_Packet l_2, .blk 41 [cb c_10.On, .s 3], .rd 1 R8 c_10.Buffer, .blk 41 [cb c_13.On, .s 5], .rd 1 R8 c_13.Buffer, .blk 41 [cb c_17.On, .s 7], .rd 1 R8 c_17.Buffer, .rd 2 R_T_api_Frame l_18] a w) ?_ ?_
         · obtain ⟨x_37, e_x_37, hp⟩ := bind_inv hp
           refine SC.pre (pre_ix (i := 1) (iv := x_14) (sz := 2) (R := R_T_api_Packet) (l := l_2) (by kernel_rfl) rfl e_x_37) ?_
           refine SC.draw MO [false, true, true, true, true, true, true, true] (by kernel_rfl) fun kap_38 D_39 => ?_
           refine SD.takes tk D_39 [] kn0 [0, 1, 2, 3, 4] [.el 6] [x_14] [true, true, true, true, true, false, false, false, false, false, false, false, false, false] [(1, vs 1), (2, vp 2 0), (5, vp 4 0), (6, vi .i64 x_14), (30, .g [cb c_10.On, .s 3]), (34, .g [ci .i64 x_37.LLID, .s 7])] rfl (by kernel_rfl) (by kernel_rfl) (by kernel_rfl) ?_
           refine SD.all2 (i := 5) (j := 10) (by kernel_rfl) ?_ ?_
           · obtain ⟨x_40, e_x_40, hp⟩ := bind_inv hp
             refine SW.eff D_39 (i := 5) (bs' := [true, true, true, true, true, true, false, false, false, false, false, false, false, false]) rfl (.inl rfl) rfl (e_c Try.call21 (ok_fragment_Feed F c_10 x_37 _ e_x_40) [.g 3, .g 7] [.g [cb c_10.On, .s 3], .g [ci .i64 x_37.LLID, .s 7]] (.u [.inr [cb x_40.1.On, .s 8], .inl (.s 9), .inl (ci .i64 x_40.2.2)]) (by kernel_rfl) (.inl rfl)) (by kernel_rfl) rfl (by kernel_rfl) ?_
             refine SD.takes tk D_39 [] kn0 [6, 7, 8, 9] [] [] [true, true, true, true, true, true, true, true, true, true, false, false, false, false] [(1, vs 1), (2, vp 2 0), (5, vp 4 0), (6, vi .i64 x_14), (36, .g [cb x_40.1.On, .s 8]), (37, vs 9), (38, vi .i64 x_40.2.2)] rfl (by kernel_rfl) (by kernel_rfl) (by kernel_rfl) ?_
             refine SD.all1 (i := 10) (by kernel_rfl) ?_
             refine SW.eff D_39 (i := 10) (bs' := [true, true, true, true, true, true, true, true, true, true, true, false, false, false]) rfl (.inl rfl) rfl (e_alloc (E := 41) tk [cb false, nl] (by kernel_rfl)) (by kernel_rfl) rfl (by kernel_rfl) ?_
             refine SD.norm (itsN := [.gone, .rd 2 R_T_api_Packet l_2, .blk 41 [cb c_10.On, .s 3], .rd 1 R8 c_10.Buffer, .blk 41 [cb c_13.On, .s 5], .rd 1 R8 c_13.Buffer, .elt (some (1, x_14)) false [ci .i64 x_37.LLID, .s 7], .rd 1 R8 x_37.Payload, .rd 1 R8 x_40.1.Buffer, .rd 2 R_T_api_Frame x_40.2.1, .blk 41 [cb false, nl]]) (by kernel_rfl) ?_
             refine SD.all1 (i := 11) (by kernel_rfl) ?_
             refine SW.store D_39 tk (i := 11) (q := 10) (T := 41) (cs := [cb x_40.1.On, .s 8]) (bs' := [true, true, true, true, true, true, true, true, true, true, true, true, false, false]) rfl (by kernel_rfl) rfl rfl (by kernel_rfl) ?_
             refine SD.takes tk D_39 [] kn0 [12, 13] [] [] [true, true, true, true, true, true, true, true, true, true, true, true, true, true] [(1, vs 1), (2, vp 2 0), (5, vp 4 0), (6, vi .i64 x_14), (7, vp 10 0), (8, vs 9), (9, vi .i64 x_40.2.2)] rfl (by kernel_rfl) (by kernel_rfl) (by kernel_rfl) ?_
             refine SD.done (by kernel_rfl) fun a w h => ?_
             exact ⟨x_40.1, x_40.2.1, x_40.2.2, hp, h.at (js := [.g 0, .g 1, .g 2, .g 3, .g 4, .g 5, .g 10, .g 8, .g 9]) (by kernel_rfl)⟩
           · refine SW.eff D_39 (i := 10) (bs' := [true, true, true, true, true, false, false, false, false, false, true, false, false, false]) rfl (.inl rfl) rfl (e_alloc (E := 41) tk [cb false, nl] (by kernel_rfl)) (by kernel_rfl) rfl (by kernel_rfl) ?_
             obtain ⟨x_41, e_x_41, hp⟩ := bind_inv hp
             refine SD.all1 (i := 5) (by kernel_rfl) ?_
             refine SW.eff D_39 (i := 5) (bs' := [true, true, true, true, true, true, false, false, false, false, true, false, false, false]) rfl (.inl rfl) rfl (e_c Try.call21 (ok_fragment_Feed F c_10 x_37 _ e_x_41) [.g 3, .g 7] [.g [cb c_10.On, .s 3], .g [ci .i64 x_37.LLID, .s 7]] (.u [.inr [cb x_41.1.On, .s 9], .inl (.s 10), .inl (ci .i64 x_41.2.2)]) (by kernel_rfl) (.inl rfl)) (by kernel_rfl) rfl (by kernel_rfl) ?_
             refine SD.norm (itsN := [.gone, .rd 2 R_T_api_Packet l_2, .blk 41 [cb c_10.On, .s 3], .rd 1 R8 c_10.Buffer, .blk 41 [cb c_13.On, .s 5], .rd 1 R8 c_13.Buffer, .elt (some (1, x_14)) false [ci .i64 x_37.LLID, .s 7], .rd 1 R8 x_37.Payload, .blk 41 [cb false, nl], .rd 1 R8 x_41.1.Buffer, .rd 2 R_T_api_Frame x_41.2.1]) (by kernel_rfl) ?_
             refine SD.takes tk D_39 [] kn0 [6, 7, 8, 9] [] [] [true, true, true, true, true, true, true, true, true, true, true, false, false, false] [(1, vs 1), (2, vp 2 0), (5, vp 4 0), (6, vi .i64 x_14), (7, vp 8 0), (36, .g [cb x_41.1.On, .s 9]), (37, vs 10), (38, vi .i64 x_41.2.2)] rfl (by kernel_rfl) (by kernel_rfl) (by kernel_rfl) ?_
             refine SD.all1 (i := 11) (by kernel_rfl) ?_
             refine SW.store D_39 tk (i := 11) (q := 8) (T := 41) (cs := [cb x_41.1.On, .s 9]) (bs' := [true, true, true, true, true, true, true, true, true, true, true, true, false, false]) rfl (by kernel_rfl) rfl rfl (by kernel_rfl) ?_
             refine SD.takes tk D_39 [] kn0 [12, 13] [] [] [true, true, true, true, true, true, true, true, true, true, true, true, true, true] [(1, vs 1), (2, vp 2 0), (5, vp 4 0), (6, vi .i64 x_14), (7, vp 8 0), (8, vs 10), (9, vi .i64 x_41.2.2)] rfl (by kernel_rfl) (by kernel_rfl) (by kernel_rfl) ?_
             refine SD.done (by kernel_rfl) fun a w h => ?_
             exact ⟨x_41.1, x_41.2.1, x_41.2.2, hp, h.at (js := [.g 0, .g 1, .g 2, .g 3, .g 4, .g 5, .g 8, .g 9, .g 10]) (by kernel_rfl)⟩
         · rintro a w ⟨c_17, l_18, x_19, hp, h⟩
           refine h.go ?_
           refine SC.cut (fun a w => ∃ (c_22 : T_api_Assembler) (l_23 : (List T_api_Frame)) (x_24 : Int), wirelesslaw32_FragmentFeeds_j3 F x_14 c_17 l_18 x_19 c_22 l_23 x_24 = some q1 ∧ A 67 2 fx [(1, vs 1), (2, vp 2 0), (5, vp 4 0), (6, vi .i64 x_14), (7, vp 6 0), (8, vs 8), (9, vi .i64 x_19), (10, vp 9 0), (11, vs 11), (12, vi .i64 x_24)] [.gone, .rd 2 R_T_api_Packet l_2, .blk 41 [cb c_10.On, .s 3], .rd 1 R8 c_10.Buffer, .blk 41 [cb c_13.On, .s 5], .rd 1 R8 c_13.Buffer, .blk 41 [cb c_17.On, .s 7], .rd 1 R8 c_17.Buffer, .rd 2 R_T_api_Frame l_18, .blk 41 [cb c_22.On, .s 10], .rd 1 R8 c_22.Buffer, .rd 2 R_T_api_Frame l_23] a w) ?_ ?_
           · obtain ⟨x_32, e_x_32, hp⟩ := bind_inv hp
             refine SC.pre (pre_ix (i := 1) (iv := x_14) (sz := 2) (R := R_T_api_Packet) (l := l_2) (by kernel_rfl) rfl e_x_32) ?_
             refine SC.draw MO [false, true, true, true, true, true, true, true, true, true, true] (by kernel_rfl) fun kap_33 D_34 => ?_
             refine SD.takes tk D_34 [] kn0 [0, 1, 2, 3, 4] [.el 9] [x_14] [true, true, true, true, true, false, false, false, false, false, false, false, false, false] [(1, vs 1), (2, vp 2 0), (5, vp 4 0), (6, vi .i64 x_14), (7, vp 6 0), (8, vs 8), (9, vi .i64 x_19), (40, .g [cb c_13.On, .s 5]), (44, .g [ci .i64 x_32.LLID, .s 10])] rfl (by kernel_rfl) (by kernel_rfl) (by kernel_rfl) ?_
             refine SD.all2 (i := 5) (j := 10) (by kernel_rfl) ?_ ?_
             · obtain ⟨x_35, e_x_35, hp⟩ := bind_inv hp
               refine SW.eff D_34 (i := 5) (bs' := [true, true, true, true, true, true, false, false, false, false, false, false, false, false]) rfl (.inl rfl) rfl (e_c Try.call22 (ok_wirelessref32_Feed F c_13 x_32 _ e_x_35) [.g 5, .g 10] [.g [cb c_13.On, .s 5], .g [ci .i64 x_32.LLID, .s 10]] (.u [.inr [cb x_35.1.On, .s 11], .inl (.s 12), .inl (ci .i64 x_35.2.2)]) (by kernel_rfl) (.inl rfl)) (by kernel_rfl) rfl (by kernel_rfl) ?_
               refine SD.takes tk D_34 [] kn0 [6, 7, 8, 9] [] [] [true, true, true, true, true, true, true, true, true, true, false, false, false, false] [(1, vs 1), (2, vp 2 0), (5, vp 4 0), (6, vi .i64 x_14), (7, vp 6 0), (8, vs 8), (9, vi .i64 x_19), (46, .g [cb x_35.1.On, .s 11]), (47, vs 12), (48, vi .i64 x_35.2.2)] rfl (by kernel_rfl) (by kernel_rfl) (by kernel_rfl) ?_
               refine SD.all1 (i := 10) (by kernel_rfl) ?_
               refine SW.eff D_34 (i := 10) (bs' := [true, true, true, true, true, true, true, true, true, true, true, false, false, false]) rfl (.inl rfl) rfl (e_alloc (E := 41) tk [cb false, nl] (by kernel_rfl)) (by kernel_rfl) rfl (by kernel_rfl) ?_
               refine SD.norm (itsN := [.gone, .rd 2 R_T_api_Packet l_2, .blk 41 [cb c_10.On, .s 3], .rd 1 R8 c_10.Buffer, .blk 41 [cb c_13.On, .s 5], .rd 1 R8 c_13.Buffer, .blk 41 [cb c_17.On, .s 7], .rd 1 R8 c_17.Buffer, .rd 2 R_T_api_Frame l_18, .elt (some (1, x_14)) false [ci .i64 x_32.LLID, .s 10], .rd 1 R8 x_32.Payload, .rd 1 R8 x_35.1.Buffer, .rd 2 R_T_api_Frame x_35.2.1, .blk 41 [cb false, nl]]) (by kernel_rfl) ?_
               refine SD.all1 (i := 11) (by kernel_rfl) ?_
               refine SW.store D_34 tk (i := 11) (q := 13) (T := 41) (cs := [cb x_35.1.On, .s 11]) (bs' := [true, true, true, true, true, true, true, true, true, true, true, true, false, false]) rfl (by kernel_rfl) rfl rfl (by kernel_rfl) ?_
               refine SD.takes tk D_34 [] kn0 [12, 13] [] [] [true, true, true, true, true, true, true, true, true, true, true, true, true, true] [(1, vs 1), (2, vp 2 0), (5, vp 4 0), (6, vi .i64 x_14), (7, vp 6 0), (8, vs 8), (9, vi .i64 x_19), (10, vp 13 0), (11, vs 12), (12, vi .i64 x_35.2.2)] rfl (by kernel_rfl) (by kernel_rfl) (by kernel_rfl) ?_
               refine SD.done (by kernel_rfl) fun a w h => ?_
               exact ⟨x_35.1, x_35.2.1, x_35.2.2, hp, h.at (js := [.g 0, .g 1, .g 2, .g 3, .g 4, .g 5, .g 6, .g 7, .g 8, .g 13, .g 11, .g 12]) (by kernel_rfl)⟩
             · refine SW.eff D_34 (i := 10) (bs' := [true, true, true, true, true, false, false, false, false, false, true, false, false, false]) rfl (.inl rfl) rfl (e_alloc (E := 41) tk [cb false, nl] (by kernel_rfl)) (by kernel_rfl) rfl (by kernel_rfl) ?_
               obtain ⟨x_36, e_x_36, hp⟩ := bind_inv hp
               refine SD.all1 (i := 5) (by kernel_rfl) ?_
               refine SW.eff D_34 (i := 5) (bs' := [true, true, true, true, true, true, false, false, false, false, true, false, false, false]) rfl (.inl rfl) rfl (e_c Try.call22 (ok_wirelessref32_Feed F c_13 x_32 _ e_x_36) [.g 5, .g 10] [.g [cb c_13.On, .s 5], .g [ci .i64 x_32.LLID, .s 10]] (.u [.inr [cb x_36.1.On, .s 12], .inl (.s 13), .inl (ci .i64 x_36.2.2)]) (by kernel_rfl) (.inl rfl)) (by kernel_rfl) rfl (by kernel_rfl) ?_
               refine SD.norm (itsN := [.gone, .rd 2 R_T_api_Packet l_2, .blk 41 [cb c_10.On, .s 3], .rd 1 R8 c_10.Buffer, .blk 41 [cb c_13.On, .s 5], .rd 1 R8 c_13.Buffer, .blk 41 [cb c_17.On, .s 7], .rd 1 R8 c_17.Buffer, .rd 2 R_T_api_Frame l_18, .elt (some (1, x_14)) false [ci .i64 x_32.LLID, .s 10], .rd 1 R8 x_32.Payload, .blk 41 [cb false, nl], .rd 1 R8 x_36.1.Buffer, .rd 2 R_T_api_Frame x_36.2.1]) (by kernel_rfl) ?_
               refine SD.takes tk D_34 [] kn0 [6, 7, 8, 9] [] [] [true, true, true, true, true, true, true, true, true, true, true, false, false, false] [(1, vs 1), (2, vp 2 0), (5, vp 4 0), (6, vi .i64 x_14), (7, vp 6 0), (8, vs 8), (9, vi .i64 x_19), (10, vp 11 0), (46, .g [cb x_36.1.On, .s 12]), (47, vs 13), (48, vi .i64 x_36.2.2)] rfl (by kernel_rfl) (by kernel_rfl) (by kernel_rfl) ?_
               refine SD.all1 (i := 11) (by kernel_rfl) ?_
               refine SW.store D_34 tk (i := 11) (q := 11) (T := 41) (cs := [cb x_36.1.On, .s 12]) (bs' := [true, true, true, true, true, true, true, true, true, true, true, true, false, false]) rfl (by kernel_rfl) rfl rfl (by kernel_rfl) ?_
               refine SD.takes tk D_34 [] kn0 [12, 13] [] [] [true, true, true, true, true, true, true, true, true, true, true, true, true, true] [(1, vs 1), (2, vp 2 0), (5, vp 4 0), (6, vi .i64 x_14), (7, vp 6 0), (8, vs 8), (9, vi .i64 x_19), (10, vp 11 0), (11, vs 13), (12, vi .i64 x_36.2.2)] rfl (by kernel_rfl) (by kernel_rfl) (by kernel_rfl) ?_
               refine SD.done (by kernel_rfl) fun a w h => ?_
               exact ⟨x_36.1, x_36.2.1, x_36.2.2, hp, h.at (js := [.g 0, .g 1, .g 2, .g 3, .g 4, .g 5, .g 6, .g 7, .g 8, .g 11, .g 12, .g 13]) (by kernel_rfl)⟩
           · rintro a w ⟨c_22, l_23, x_24, hp, h⟩
             refine h.go ?_
             refine SC.seq ?_
             refine SC.seq ?_
             refine SC.reg ?_
             refine SL.sim tk 2 [(1, vs 1), (2, vp 2 0), (5, vp 4 0), (6, vi .i64 x_14), (7, vp 6 0), (8, vs 8), (9, vi .i64 x_19), (10, vp 9 0), (11, vs 11), (12, vi .i64 x_24), (49, .g [cb c_17.On, .s 7]), (50, .g [cb c_22.On, .s 10])] [] [] [] (by kernel_rfl) ?_
             obtain ⟨x_25, e_x_25, hp⟩ := bind_inv hp
             refine SL.eff (e_c Try.call23 (ok_wirelessref32_SameAssembler F c_17 c_22 _ e_x_25) [.g 7, .g 10] [.g [cb c_17.On, .s 7], .g [cb c_22.On, .s 10]] (vb x_25) (by kernel_rfl) (.inl rfl)) rfl (by kernel_rfl) ?_
             refine SL.sim tk 2 [(1, vs 1), (2, vp 2 0), (5, vp 4 0), (6, vi .i64 x_14), (7, vp 6 0), (8, vs 8), (9, vi .i64 x_19), (10, vp 9 0), (11, vs 11), (12, vi .i64 x_24), (53, vb (!x_25))] [] [] [] (by kernel_rfl) ?_
             obtain ⟨z_27, hz, hpr⟩ := bind_inv hp
             clear hp
             refine SL.cutAt 5 (fun a w => A 67 2 fx [(1, vs 1), (2, vp 2 0), (5, vp 4 0), (6, vi .i64 x_14), (7, vp 6 0), (9, vi .i64 x_19), (10, vp 8 0), (12, vi .i64 x_24), (58, vb z_27)] [.gone, .rd 2 R_T_api_Packet l_2, .blk 41 [cb c_10.On, .s 3], .rd 1 R8 c_10.Buffer, .blk 41 [cb c_13.On, .s 5], .rd 1 R8 c_13.Buffer, .blk 41 [cb c_17.On, .s 7], .rd 1 R8 c_17.Buffer, .blk 41 [cb c_22.On, .s 9], .rd 1 R8 c_22.Buffer] a w) ?_ ?_
             · have hp := hz
               rcases Bool.eq_false_or_eq_true ((!x_25)) with hg_26 | hg_26
               · replace hp := if_t hp hg_26
                 refine SL.no rfl rfl hg_26 rfl ?_
                 refine SL.no rfl rfl hg_26 rfl ?_
                 refine SL.no rfl rfl hg_26 rfl ?_
                 refine SL.no rfl rfl hg_26 rfl ?_
                 refine SL.pickt rfl hg_26 rfl rfl ?_
                 refine SL.nilJ fun a w h => ?_
                 obtain rfl := some_inv' hp
                 exact h.at (js := [.g 0, .g 1, .g 2, .g 3, .g 4, .g 5, .g 6, .g 7, .g 9, .g 10]) (by kernel_rfl)
               · replace hp := if_f hp hg_26
                 refine SL.yes rfl rfl hg_26 ?_
                 refine SL.sim tk 1 [(1, vs 1), (2, vp 2 0), (5, vp 4 0), (6, vi .i64 x_14), (7, vp 6 0), (9, vi .i64 x_19), (10, vp 9 0), (11, vs 11), (12, vi .i64 x_24), (53, vb (!x_25)), (54, vs 8)] [] [] [] (by kernel_rfl) ?_
                 refine SL.yes rfl rfl hg_26 ?_
                 refine SL.sim tk 1 [(1, vs 1), (2, vp 2 0), (5, vp 4 0), (6, vi .i64 x_14), (7, vp 6 0), (9, vi .i64 x_19), (10, vp 9 0), (12, vi .i64 x_24), (53, vb (!x_25)), (54, vs 8), (55, vs 11)] [] [] [] (by kernel_rfl) ?_
                 refine SL.yes rfl rfl hg_26 ?_
                 obtain ⟨x_31, e_x_31, hp⟩ := bind_inv hp
                 refine SL.eff (e_c Try.call24 (ok_wirelessref32_SameFrames F l_18 l_23 _ e_x_31) [.g 8, .g 11] [vs 8, vs 11] (vb x_31) (by kernel_rfl) (.inl rfl)) rfl (by kernel_rfl) ?_
                 refine SL.norm (itsN := [.gone, .rd 2 R_T_api_Packet l_2, .blk 41 [cb c_10.On, .s 3], .rd 1 R8 c_10.Buffer, .blk 41 [cb c_13.On, .s 5], .rd 1 R8 c_13.Buffer, .blk 41 [cb c_17.On, .s 7], .rd 1 R8 c_17.Buffer, .rd 2 R_T_api_Frame l_18, .blk 41 [cb c_22.On, .s 10], .rd 1 R8 c_22.Buffer, .rd 2 R_T_api_Frame l_23]) (by kernel_rfl) ?_
                 refine SL.yes rfl rfl hg_26 ?_
                 refine SL.sim tk 1 [(1, vs 1), (2, vp 2 0), (5, vp 4 0), (6, vi .i64 x_14), (7, vp 6 0), (9, vi .i64 x_19), (10, vp 9 0), (12, vi .i64 x_24), (53, vb (!x_25)), (54, vs 8), (55, vs 11), (56, vb x_31), (57, vb (!x_31))] [] [] [] (by kernel_rfl) ?_
                 refine SL.pickf rfl hg_26 rfl rfl ?_
                 refine SL.nilJ fun a w h => ?_
                 obtain rfl := some_inv' hp
                 exact h.at (js := [.g 0, .g 1, .g 2, .g 3, .g 4, .g 5, .g 6, .g 7, .g 9, .g 10]) (by kernel_rfl)
             · intro a w h
               have hp := hpr; clear hpr hz
               refine h.goL ?_
               refine SL.sim tk 5 [(1, vs 1), (2, vp 2 0), (5, vp 4 0), (6, vi .i64 x_14), (7, vp 6 0), (10, vp 8 0), (63, vb (z_27 || (x_19 != x_24)))] [] [] [] (by kernel_rfl) ?_
               refine SL.nilThen ?_
               refine SC.if' rfl hp (fun hp => ?_) (fun hp => ?_)
               · refine SC.r tk [(4, vb false)] [] [] [] (by kernel_rfl) ?_
                 have ho := done_inv hp hs1
                 replace hp := ho1
                 try rw [ho] at hp
                 obtain rfl := some_inv' hp
                 exact SC.re (js := [.g 0, .g 1]) tk (by kernel_rfl)
               · refine SC.skipThen ?_
                 refine SC.draw MO [false, true, false, true, false, true, true, true, true, true] (by kernel_rfl) fun kap_28 D_29 => ?_
                 refine SD.takes tk D_29 [] kn0 [0, 1] [] [] [true, true, false, false] [(1, vs 1), (2, vp 2 0), (5, vp 4 0), (6, vi .i64 x_14), (64, .g [cb c_17.On, .s 7]), (65, .g [cb c_22.On, .s 9])] rfl (by kernel_rfl) (by kernel_rfl) (by kernel_rfl) ?_
                 refine SD.all1 (i := 2) (by kernel_rfl) ?_
                 refine SW.store D_29 tk (i := 2) (q := 2) (T := 41) (cs := [cb c_17.On, .s 7]) (bs' := [true, true, true, false]) rfl (by kernel_rfl) rfl rfl (by kernel_rfl) ?_
                 refine SD.all1 (i := 3) (by kernel_rfl) ?_
                 refine SW.store D_29 tk (i := 3) (q := 4) (T := 41) (cs := [cb c_22.On, .s 9]) (bs' := [true, true, true, true]) rfl (by kernel_rfl) rfl rfl (by kernel_rfl) ?_
                 refine SD.norm (itsN := [.gone, .rd 2 R_T_api_Packet l_2, .blk 41 [cb c_17.On, .s 7], .rd 1 R8 c_10.Buffer, .blk 41 [cb c_22.On, .s 9], .rd 1 R8 c_13.Buffer, .blk 41 [cb c_17.On, .s 7], .rd 1 R8 c_17.Buffer, .blk 41 [cb c_22.On, .s 9], .rd 1 R8 c_22.Buffer]) (by kernel_rfl) ?_
                 refine SD.doneThen (by kernel_rfl) ?_
                 refine SC.reg ?_
                 refine SL.sim tk 3 [(1, vs 1), (2, vp 2 0), (5, vp 4 0), (6, vi .i64 (w64 (x_14 + 1)))] [] [] [] (by kernel_rfl) ?_
                 refine SL.nilJ fun a w h => ?_
                 exact ⟨n1, Nat.lt_succ_self _, c_17, c_22, w64 (x_14 + 1), next_inv hp hs1, h.at (js := [.g 0, .g 1, .g 2, .g 7, .g 4, .g 9]) (by kernel_rfl)⟩
       · refine SC.exitJ rfl fun a w h => ?_
         have ho := done_inv hp hs1
         replace hp := ho1
         try rw [ho] at hp
         exact ⟨hp, h.at (js := [.g 0, .g 1]) (by kernel_rfl)⟩
     · rintro a w ⟨hp, h⟩
       refine h.go ?_
       refine SC.seq ?_
       refine SC.reg ?_
       obtain ⟨x_7, e_x_7, hp⟩ := bind_inv hp
       refine SL.eff (e_c Try.call10 (ok_wirelesslaw32_exampleHolds F  _ e_x_7) [] [] (vb x_7) (by kernel_rfl) (.inl rfl)) rfl (by kernel_rfl) ?_
       refine SL.sim tk 1 [(4, vb x_7)] [] [] [] (by kernel_rfl) ?_
       refine SL.nilThen ?_
       obtain rfl := some_inv' hp
       exact SC.re (js := [.g 0, .g 1]) tk (by kernel_rfl)

theorem ok_wirelesslaw32_FragmentWhole (F : Nat) (frames_1 : (List T_api_Frame)) (most_2 : Int) (gaps_3 : (List Int)) (r : Bool) (hp : wirelesslaw32_FragmentWhole F frames_1 most_2 gaps_3 = some r) : Spec Try.prog 7 [vs 0, vi .i64 most_2, vs 1] [.rd 2 R_T_api_Frame frames_1, .rd 1 R8 gaps_3] (vb r) [.gone, .gone] := by
 refine Spec.enter Try.func7 rfl Try.ntmps7 rfl rfl fun fx => ?_
 refine SC.r tk [(0, vs 0), (1, vi .i64 most_2), (2, vs 1)] [] [] [] (by kernel_rfl) ?_
 refine SC.seq ?_
 refine SC.r tk [(0, vs 0), (1, vi .i64 most_2), (2, vs 1), (31, vb (((decide ((len frames_1) > 20)) || (decide (most_2 < 1))) || (decide (most_2 > 251))))] [] [] [] (by kernel_rfl) ?_
 refine SC.if' rfl hp (fun hp => ?_) (fun hp => ?_)
 · refine SC.seq ?_
   refine SC.reg ?_
   obtain ⟨x_4, e_x_4, hp⟩ := bind_inv hp
   refine SL.eff (e_c Try.call10 (ok_wirelesslaw32_exampleHolds F  _ e_x_4) [] [] (vb x_4) (by kernel_rfl) (.inl rfl)) rfl (by kernel_rfl) ?_
   refine SL.sim tk 1 [(6, vb x_4)] [] [] [] (by kernel_rfl) ?_
   refine SL.nilThen ?_
   obtain rfl := some_inv' hp
   exact SC.re (js := [.g 0, .g 1]) tk (by kernel_rfl)
 · refine SC.skipThen ?_
   refine SC.r tk [(0, vs 0), (1, vi .i64 most_2), (2, vs 1), (7, vi .i64 0), (8, vi .i64 0)] [] [] [] (by kernel_rfl) ?_
   refine SC.seq ?_
   refine SC.reg ?_
   refine SL.eff (e_alloc (E := 41) tk [cb false, nl] (by kernel_rfl)) rfl (by kernel_rfl) ?_
   refine SL.nilThen ?_
   refine SC.cut (fun a w => wirelesslaw32_FragmentWhole_j1 F = some r ∧ A 165 2 fx [] [.gone, .gone] a w) ?_ ?_
   · refine SC.r tk [(0, vs 0), (1, vi .i64 most_2), (2, vs 1), (7, vi .i64 0), (8, vi .i64 0), (9, vp 2 0), (10, vi .i64 0)] [] [] [] (by kernel_rfl) ?_
     refine SC.block ?_
     obtain ⟨o1, hi1, ho1⟩ := bind_inv hp
     clear hp
     refine SC.loop (fun n a w => ∃ (x_6 : Int) (x_7 : Int) (c_10 : T_api_Assembler) (x_11 : Int), iter (fun s => wirelesslaw32_FragmentWhole_l1 F frames_1 most_2 gaps_3 s.1 s.2.1 s.2.2.1 s.2.2.2) n (x_6, x_7, c_10, x_11) = some o1 ∧ A 165 2 fx [(0, vs 0), (1, vi .i64 most_2), (2, vs 1), (7, vi .i64 x_6), (8, vi .i64 x_7), (9, vp 2 0), (10, vi .i64 x_11)] [.rd 2 R_T_api_Frame frames_1, .rd 1 R8 gaps_3, .blk 41 [cb c_10.On, .s 3], .rd 1 R8 c_10.Buffer] a w) F (fun a w h => ⟨0, 0, (T_api_Assembler.mk false []), 0, hi1, h.at (js := [.g 0, .g 1, .g 2, .n]) (by kernel_rfl)⟩) ?_
     rintro n1 a w ⟨x_6, x_7, c_10, x_11, hi1, h⟩
     obtain ⟨n1, q1, rfl, hp, hs1⟩ := iter_inv hi1
     replace hp : wirelesslaw32_FragmentWhole_l1 F frames_1 most_2 gaps_3 x_6 x_7 c_10 x_11 = some q1 := hp
     clear hi1
     refine h.go ?_
     refine SC.seq ?_
     refine SC.r tk [(0, vs 0), (1, vi .i64 most_2), (2, vs 1), (7, vi .i64 x_6), (8, vi .i64 x_7), (9, vp 2 0), (10, vi .i64 x_11), (36, vb (decide (x_11 < (len frames_1))))] [] [] [] (by kernel_rfl) ?_
     refine SC.if' rfl hp (fun hp => ?_) (fun hp => ?_)
     · refine SC.skipThen ?_
       refine SC.cut (fun a w => ∃ (x_12 : Int) (x_13 : Int) (c_16 : T_api_Assembler), wirelesslaw32_FragmentWhole_j2 F x_11 x_12 x_13 c_16 = some q1 ∧ A 165 2 fx [(0, vs 0), (1, vi .i64 most_2), (2, vs 1), (7, vi .i64 x_12), (8, vi .i64 x_13), (9, vp 2 0), (10, vi .i64 x_11)] [.rd 2 R_T_api_Frame frames_1, .rd 1 R8 gaps_3, .blk 41 [cb c_16.On, .s 3], .rd 1 R8 c_16.Buffer] a w) ?_ ?_
       · refine SC.block ?_
         obtain ⟨x_17, e_x_17, hp⟩ := bind_inv hp
         refine SC.pre (pre_ix (i := 0) (iv := x_11) (sz := 2) (R := R_T_api_Frame) (l := frames_1) (by kernel_rfl) rfl e_x_17) ?_
         refine SC.r tk [(0, vs 0), (1, vi .i64 most_2), (2, vs 1), (7, vi .i64 (w64 (x_6 + (len x_17.Payload)))), (8, vi .i64 x_7), (9, vp 2 0), (10, vi .i64 x_11)] [] [.el 4] [x_11] (by kernel_rfl) ?_
         refine SC.seq ?_
         refine SC.seq ?_
         refine SC.reg ?_
         refine SL.sim tk 3 [(0, vs 0), (1, vi .i64 most_2), (2, vs 1), (7, vi .i64 (w64 (x_6 + (len x_17.Payload)))), (8, vi .i64 x_7), (9, vp 2 0), (10, vi .i64 x_11), (49, vb (decide ((w64 (x_6 + (len x_17.Payload))) > 16384)))] [] [] [] (by kernel_rfl) ?_
         obtain ⟨z_19, hz, hpr⟩ := bind_inv hp
         clear hp
         refine SL.cutAt 7 (fun a w => A 165 2 fx [(0, vs 0), (1, vi .i64 most_2), (2, vs 1), (7, vi .i64 (w64 (x_6 + (len x_17.Payload)))), (8, vi .i64 x_7), (9, vp 2 0), (10, vi .i64 x_11), (56, vb z_19)] [.rd 2 R_T_api_Frame frames_1, .rd 1 R8 gaps_3, .blk 41 [cb c_10.On, .s 3], .rd 1 R8 c_10.Buffer] a w) ?_ ?_
         · have hp := hz
           rcases Bool.eq_false_or_eq_true (decide ((w64 (x_6 + (len x_17.Payload))) > 16384)) with hg_18 | hg_18
           · replace hp := if_t hp hg_18
             refine SL.no rfl rfl hg_18 rfl ?_
             refine SL.no rfl rfl hg_18 rfl ?_
             refine SL.no rfl rfl hg_18 rfl ?_
             refine SL.no rfl rfl hg_18 rfl ?_
             refine SL.no rfl rfl hg_18 rfl ?_
             refine SL.no rfl rfl hg_18 rfl ?_
             refine SL.pickt rfl hg_18 rfl rfl ?_
             refine SL.nilJ fun a w h => ?_
             obtain rfl := some_inv' hp
             exact h.at (js := [.g 0, .g 1, .g 2, .g 3]) (by kernel_rfl)
           · replace hp := if_f hp hg_18
             refine SL.yes rfl rfl hg_18 ?_
             refine SL.sim tk 1 [(0, vs 0), (1, vi .i64 most_2), (2, vs 1), (7, vi .i64 (w64 (x_6 + (len x_17.Payload)))), (8, vi .i64 x_7), (9, vp 2 0), (10, vi .i64 x_11), (49, vb (decide ((w64 (x_6 + (len x_17.Payload))) > 16384))), (50, vs 0)] [] [] [] (by kernel_rfl) ?_
             refine SL.yes rfl rfl hg_18 ?_
             refine SL.sim tk 1 [(0, vs 0), (1, vi .i64 most_2), (2, vs 1), (7, vi .i64 (w64 (x_6 + (len x_17.Payload)))), (8, vi .i64 x_7), (9, vp 2 0), (10, vi .i64 x_11), (49, vb (decide ((w64 (x_6 + (len x_17.Payload))) > 16384))), (50, vs 0), (51, vi .i64 x_11)] [] [] [] (by kernel_rfl) ?_
             refine SL.yes rfl rfl hg_18 ?_
             obtain ⟨x_73, e_x_73, hp⟩ := bind_inv hp
             refine SL.pre (pre_ix (i := 0) (iv := x_11) (sz := 2) (R := R_T_api_Frame) (l := frames_1) (by kernel_rfl) rfl e_x_73) ?_
             refine SL.sim tk 1 [(0, vs 0), (1, vi .i64 most_2), (2, vs 1), (7, vi .i64 (w64 (x_6 + (len x_17.Payload)))), (8, vi .i64 x_7), (9, vp 2 0), (10, vi .i64 x_11), (49, vb (decide ((w64 (x_6 + (len x_17.Payload))) > 16384))), (50, vs 0), (51, vi .i64 x_11), (52, vp 6 0)] [] [.el 6] [x_11] (by kernel_rfl) ?_
             refine SL.yes rfl rfl hg_18 ?_
             refine SL.sim tk 1 [(0, vs 0), (1, vi .i64 most_2), (2, vs 1), (7, vi .i64 (w64 (x_6 + (len x_17.Payload)))), (8, vi .i64 x_7), (9, vp 2 0), (10, vi .i64 x_11), (49, vb (decide ((w64 (x_6 + (len x_17.Payload))) > 16384))), (50, vs 0), (51, vi .i64 x_11), (52, vp 6 0), (53, vp 6 0)] [] [] [] (by kernel_rfl) ?_
             refine SL.yes rfl rfl hg_18 ?_
             refine SL.sim tk 1 [(0, vs 0), (1, vi .i64 most_2), (2, vs 1), (7, vi .i64 (w64 (x_6 + (len x_17.Payload)))), (8, vi .i64 x_7), (9, vp 2 0), (10, vi .i64 x_11), (49, vb (decide ((w64 (x_6 + (len x_17.Payload))) > 16384))), (50, vs 0), (51, vi .i64 x_11), (52, vp 6 0), (53, vp 6 0), (54, vi .u16 x_73.CID)] [] [] [] (by kernel_rfl) ?_
             refine SL.yes rfl rfl hg_18 ?_
             refine SL.sim tk 1 [(0, vs 0), (1, vi .i64 most_2), (2, vs 1), (7, vi .i64 (w64 (x_6 + (len x_17.Payload)))), (8, vi .i64 x_7), (9, vp 2 0), (10, vi .i64 x_11), (49, vb (decide ((w64 (x_6 + (len x_17.Payload))) > 16384))), (50, vs 0), (51, vi .i64 x_11), (52, vp 6 0), (53, vp 6 0), (54, vi .u16 x_73.CID), (55, vb (x_73.CID == 0))] [] [] [] (by kernel_rfl) ?_
             refine SL.pickf rfl hg_18 rfl rfl ?_
             refine SL.nilJ fun a w h => ?_
             obtain rfl := some_inv' hp
             exact h.at (js := [.g 0, .g 1, .g 2, .g 3]) (by kernel_rfl)
         · intro a w h
           have hp := hpr; clear hpr hz
           refine h.goL ?_
           refine SL.nilThen ?_
           refine SC.if' rfl hp (fun hp => ?_) (fun hp => ?_)
           · refine SC.seq ?_
             refine SC.reg ?_
             obtain ⟨x_20, e_x_20, hp⟩ := bind_inv hp
             refine SL.eff (e_c Try.call10 (ok_wirelesslaw32_exampleHolds F  _ e_x_20) [] [] (vb x_20) (by kernel_rfl) (.inl rfl)) rfl (by kernel_rfl) ?_
             refine SL.sim tk 1 [(6, vb x_20)] [] [] [] (by kernel_rfl) ?_
             refine SL.nilThen ?_
             have ho := done_inv hp hs1
             replace hp := ho1
             try rw [ho] at hp
             obtain rfl := some_inv' hp
             exact SC.re (js := [.g 0, .g 1]) tk (by kernel_rfl)
           · refine SC.skipThen ?_
             refine SC.seq ?_
             refine SC.reg ?_
             obtain ⟨x_21, e_x_21, hp⟩ := bind_inv hp
             refine SL.pre (pre_ix (i := 0) (iv := x_11) (sz := 2) (R := R_T_api_Frame) (l := frames_1) (by kernel_rfl) rfl e_x_21) ?_
             refine SL.sim tk 5 [(0, vs 0), (1, vi .i64 most_2), (2, vs 1), (7, vi .i64 (w64 (x_6 + (len x_17.Payload)))), (8, vi .i64 x_7), (9, vp 2 0), (10, vi .i64 x_11), (62, .g [ci .u16 x_21.CID, .s 5]), (63, vi .i64 most_2)] [] [.el 4] [x_11] (by kernel_rfl) ?_
             obtain ⟨x_22, e_x_22, hp⟩ := bind_inv hp
             refine SL.eff (e_c Try.call16 (ok_fragment_Split F x_21 most_2 _ e_x_22) [.g 5] [.g [ci .u16 x_21.CID, .s 5], vi .i64 most_2] (.u [.inl (.s 6), .inl (ci .i64 x_22.2)]) (by kernel_rfl) (.inl rfl)) rfl (by kernel_rfl) ?_
             refine SL.sim tk 5 [(0, vs 0), (1, vi .i64 most_2), (2, vs 1), (7, vi .i64 (w64 (x_6 + (len x_17.Payload)))), (8, vi .i64 x_7), (9, vp 2 0), (10, vi .i64 x_11), (11, vs 6), (12, vi .i64 x_22.2)] [] [] [] (by kernel_rfl) ?_
             refine SL.nilThen ?_
             refine SC.seq ?_
             refine SC.r tk [(0, vs 0), (1, vi .i64 most_2), (2, vs 1), (7, vi .i64 (w64 (x_6 + (len x_17.Payload)))), (8, vi .i64 x_7), (9, vp 2 0), (10, vi .i64 x_11), (11, vs 6), (68, vb (x_22.2 != 0))] [] [] [] (by kernel_rfl) ?_
             refine SC.if' rfl hp (fun hp => ?_) (fun hp => ?_)
             · refine SC.r tk [(6, vb false)] [] [] [] (by kernel_rfl) ?_
               have ho := done_inv hp hs1
               replace hp := ho1
               try rw [ho] at hp
               obtain rfl := some_inv' hp
               exact SC.re (js := [.g 0, .g 1]) tk (by kernel_rfl)
             · refine SC.skipThen ?_
               refine SC.r tk [(0, vs 0), (1, vi .i64 most_2), (2, vs 1), (7, vi .i64 (w64 (x_6 + (len x_17.Payload)))), (8, vi .i64 x_7), (9, vp 2 0), (10, vi .i64 x_11), (11, vs 6), (13, vn)] [] [] [] (by kernel_rfl) ?_
               refine SC.cut (fun a w => ∃ (x_23 : Int) (c_26 : T_api_Assembler) (l_27 : (List T_api_Frame)), wirelesslaw32_FragmentWhole_j3 F frames_1 x_6 x_11 x_17 x_23 c_26 l_27 = some q1 ∧ A 165 2 fx [(0, vs 0), (1, vi .i64 most_2), (2, vs 1), (7, vi .i64 (w64 (x_6 + (len x_17.Payload)))), (8, vi .i64 x_23), (9, vp 2 0), (10, vi .i64 x_11), (13, vs 4)] [.rd 2 R_T_api_Frame frames_1, .rd 1 R8 gaps_3, .blk 41 [cb c_26.On, .s 3], .rd 1 R8 c_26.Buffer, .own 2 25 R_T_api_Frame l_27] a w) ?_ ?_
               · refine SC.r tk [(0, vs 0), (1, vi .i64 most_2), (2, vs 1), (7, vi .i64 (w64 (x_6 + (len x_17.Payload)))), (8, vi .i64 x_7), (9, vp 2 0), (10, vi .i64 x_11), (11, vs 6), (13, vn), (14, vi .i64 0)] [] [] [] (by kernel_rfl) ?_
                 refine SC.block ?_
                 obtain ⟨o2, hi2, ho2⟩ := bind_inv hp
                 clear hp
                 refine SC.loop (fun n a w => ∃ (x_30 : Int) (c_33 : T_api_Assembler) (l_34 : (List T_api_Frame)) (x_35 : Int), iter (fun s => wirelesslaw32_FragmentWhole_l2 F most_2 gaps_3 x_22 s.1 s.2.1 s.2.2.1 s.2.2.2) n (x_30, c_33, l_34, x_35) = some o2 ∧ A 165 2 fx [(0, vs 0), (1, vi .i64 most_2), (2, vs 1), (7, vi .i64 (w64 (x_6 + (len x_17.Payload)))), (8, vi .i64 x_30), (9, vp 2 0), (10, vi .i64 x_11), (11, vs 4), (13, vs 5), (14, vi .i64 x_35)] [.rd 2 R_T_api_Frame frames_1, .rd 1 R8 gaps_3, .blk 41 [cb c_33.On, .s 3], .rd 1 R8 c_33.Buffer, .rd 2 R_T_api_Packet x_22.1, .own 2 25 R_T_api_Frame l_34] a w) F (fun a w h => ⟨x_7, c_10, [], 0, hi2, h.at (js := [.g 0, .g 1, .g 2, .g 3, .g 6, .n]) (by kernel_rfl)⟩) ?_
                 rintro n2 a w ⟨x_30, c_33, l_34, x_35, hi2, h⟩
                 obtain ⟨n2, q2, rfl, hp, hs2⟩ := iter_inv hi2
                 replace hp : wirelesslaw32_FragmentWhole_l2 F most_2 gaps_3 x_22 x_30 c_33 l_34 x_35 = some q2 := hp
                 clear hi2
                 refine h.go ?_
                 refine SC.seq ?_
                 refine SC.r tk [(0, vs 0), (1, vi .i64 most_2), (2, vs 1), (7, vi .i64 (w64 (x_6 + (len x_17.Payload)))), (8, vi .i64 x_30), (9, vp 2 0), (10, vi .i64 x_11), (11, vs 4), (13, vs 5), (14, vi .i64 x_35), (72, vb (decide (x_35 < (len x_22.1))))] [] [] [] (by kernel_rfl) ?_
                 refine SC.if' rfl hp (fun hp => ?_) (fun hp => ?_)
                 · refine SC.skipThen ?_
                   refine SC.cut (fun a w => ∃ (x_36 : Int) (c_39 : T_api_Assembler) (l_40 : (List T_api_Frame)), wirelesslaw32_FragmentWhole_j4 F x_35 x_36 c_39 l_40 = some q2 ∧ A 165 2 fx [(0, vs 0), (1, vi .i64 most_2), (2, vs 1), (7, vi .i64 (w64 (x_6 + (len x_17.Payload)))), (8, vi .i64 x_36), (9, vp 2 0), (10, vi .i64 x_11), (11, vs 4), (13, vs 5), (14, vi .i64 x_35)] [.rd 2 R_T_api_Frame frames_1, .rd 1 R8 gaps_3, .blk 41 [cb c_39.On, .s 3], .rd 1 R8 c_39.Buffer, .rd 2 R_T_api_Packet x_22.1, .own 2 25 R_T_api_Frame l_40] a w) ?_ ?_
                   · refine SC.block ?_
                     refine SC.cut (fun a w => ∃ (c_43 : T_api_Assembler) (l_44 : (List T_api_Frame)) (x_45 : Int), wirelesslaw32_FragmentWhole_j5 F most_2 gaps_3 x_22 x_30 l_34 x_35 c_43 l_44 x_45 = some q2 ∧ A 165 2 fx [(0, vs 0), (1, vi .i64 most_2), (2, vs 1), (7, vi .i64 (w64 (x_6 + (len x_17.Payload)))), (8, vi .i64 x_30), (9, vp 2 0), (10, vi .i64 x_11), (11, vs 4), (13, vs 5), (14, vi .i64 x_35), (15, vp 6 0), (16, vs 8), (17, vi .i64 x_45)] [.rd 2 R_T_api_Frame frames_1, .rd 1 R8 gaps_3, .blk 41 [cb c_33.On, .s 3], .rd 1 R8 c_33.Buffer, .rd 2 R_T_api_Packet x_22.1, .own 2 25 R_T_api_Frame l_34, .blk 41 [cb c_43.On, .s 7], .rd 1 R8 c_43.Buffer, .rd 2 R_T_api_Frame l_44] a w) ?_ ?_
                     · obtain ⟨x_67, e_x_67, hp⟩ := bind_inv hp
                       refine SC.pre (pre_ix (i := 4) (iv := x_35) (sz := 2) (R := R_T_api_Packet) (l := x_22.1) (by kernel_rfl) rfl e_x_67) ?_
                       refine SC.draw MO [true, true, true, true, true, true, true, true] (by kernel_rfl) fun kap_68 D_69 => ?_
                       refine SD.takes tk D_69 [] kn0 [0, 1, 2, 3, 4] [.el 6] [x_35] [true, true, true, true, true, false, false, false, false, false, false, false, false, false] [(0, vs 0), (1, vi .i64 most_2), (2, vs 1), (7, vi .i64 (w64 (x_6 + (len x_17.Payload)))), (8, vi .i64 x_30), (9, vp 2 0), (10, vi .i64 x_11), (11, vs 4), (13, vs 5), (14, vi .i64 x_35), (76, .g [cb c_33.On, .s 3]), (80, .g [ci .i64 x_67.LLID, .s 7])] rfl (by kernel_rfl) (by kernel_rfl) (by kernel_rfl) ?_
                       refine SD.all2 (i := 5) (j := 10) (by kernel_rfl) ?_ ?_
                       · obtain ⟨x_70, e_x_70, hp⟩ := bind_inv hp
                         refine SW.eff D_69 (i := 5) (bs' := [true, true, true, true, true, true, false, false, false, false, false, false, false, false]) rfl (.inl rfl) rfl (e_c Try.call21 (ok_fragment_Feed F c_33 x_67 _ e_x_70) [.g 3, .g 7] [.g [cb c_33.On, .s 3], .g [ci .i64 x_67.LLID, .s 7]] (.u [.inr [cb x_70.1.On, .s 8], .inl (.s 9), .inl (ci .i64 x_70.2.2)]) (by kernel_rfl) (.inl rfl)) (by kernel_rfl) rfl (by kernel_rfl) ?_
                         refine SD.takes tk D_69 [] kn0 [6, 7, 8, 9] [] [] [true, true, true, true, true, true, true, true, true, true, false, false, false, false] [(0, vs 0), (1, vi .i64 most_2), (2, vs 1), (7, vi .i64 (w64 (x_6 + (len x_17.Payload)))), (8, vi .i64 x_30), (9, vp 2 0), (10, vi .i64 x_11), (11, vs 4), (13, vs 5), (14, vi .i64 x_35), (82, .g [cb x_70.1.On, .s 8]), (83, vs 9), (84, vi .i64 x_70.2.2)] rfl (by kernel_rfl) (by kernel_rfl) (by kernel_rfl) ?_
                         refine SD.all1 (i := 10) (by kernel_rfl) ?_
                         refine SW.eff D_69 (i := 10) (bs' := [true, true, true, true, true, true, true, true, true, true, true, false, false, false]) rfl (.inl rfl) rfl (e_alloc (E := 41) tk [cb false, nl] (by kernel_rfl)) (by kernel_rfl) rfl (by kernel_rfl) ?_
                         refine SD.norm (itsN := [.rd 2 R_T_api_Frame frames_1, .rd 1 R8 gaps_3, .blk 41 [cb c_33.On, .s 3], .rd 1 R8 c_33.Buffer, .rd 2 R_T_api_Packet x_22.1, .own 2 25 R_T_api_Frame l_34, .elt (some (4, x_35)) false [ci .i64 x_67.LLID, .s 7], .rd 1 R8 x_67.Payload, .rd 1 R8 x_70.1.Buffer, .rd 2 R_T_api_Frame x_70.2.1, .blk 41 [cb false, nl]]) (by kernel_rfl) ?_
                         refine SD.all1 (i := 11) (by kernel_rfl) ?_
                         refine SW.store D_69 tk (i := 11) (q := 10) (T := 41) (cs := [cb x_70.1.On, .s 8]) (bs' := [true, true, true, true, true, true, true, true, true, true, true, true, false, false]) rfl (by kernel_rfl) rfl rfl (by kernel_rfl) ?_
                         refine SD.takes tk D_69 [] kn0 [12, 13] [] [] [true, true, true, true, true, true, true, true, true, true, true, true, true, true] [(0, vs 0), (1, vi .i64 most_2), (2, vs 1), (7, vi .i64 (w64 (x_6 + (len x_17.Payload)))), (8, vi .i64 x_30), (9, vp 2 0), (10, vi .i64 x_11), (11, vs 4), (13, vs 5), (14, vi .i64 x_35), (15, vp 10 0), (16, vs 9), (17, vi .i64 x_70.2.2)] rfl (by kernel_rfl) (by kernel_rfl) (by kernel_rfl) ?_
                         refine SD.done (by kernel_rfl) fun a w h => ?_
                         exact ⟨x_70.1, x_70.2.1, x_70.2.2, hp, h.at (js := [.g 0, .g 1, .g 2, .g 3, .g 4, .g 5, .g 10, .g 8, .g 9]) (by kernel_rfl)⟩
                       · refine SW.eff D_69 (i := 10) (bs' := [true, true, true, true, true, false, false, false, false, false, true, false, false, false]) rfl (.inl rfl) rfl (e_alloc (E := 41) tk [cb false, nl] (by kernel_rfl)) (by kernel_rfl) rfl (by kernel_rfl) ?_
                         obtain ⟨x_71, e_x_71, hp⟩ := bind_inv hp
                         refine SD.all1 (i := 5) (by kernel_rfl) ?_
                         refine SW.eff D_69 (i := 5) (bs' := [true, true, true, true, true, true, false, false, false, false, true, false, false, false]) rfl (.inl rfl) rfl (e_c Try.call21 (ok_fragment_Feed F c_33 x_67 _ e_x_71) [.g 3, .g 7] [.g [cb c_33.On, .s 3], .g [ci .i64 x_67.LLID, .s 7]] (.u [.inr [cb x_71.1.On, .s 9], .inl (.s 10), .inl (ci .i64 x_71.2.2)]) (by kernel_rfl) (.inl rfl)) (by kernel_rfl) rfl (by kernel_rfl) ?_
                         refine SD.norm (itsN := [.rd 2 R_T_api_Frame frames_1, .rd 1 R8 gaps_3, .blk 41 [cb c_33.On, .s 3], .rd 1 R8 c_33.Buffer, .rd 2 R_T_api_Packet x_22.1, .own 2 25 R_T_api_Frame l_34, .elt (some (4, x_35)) false [ci .i64 x_67.LLID, .s 7], .rd 1 R8 x_67.Payload, .blk 41 [cb false, nl], .rd 1 R8 x_71.1.Buffer, .rd 2 R_T_api_Frame x_71.2.1]) (by kernel_rfl) ?_
                         refine SD.takes tk D_69 [] kn0 [6, 7, 8, 9] [] [] [true, true, true, true, true, true, true, true, true, true, true, false, false, false] [(0, vs 0), (1, vi .i64 most_2), (2, vs 1), (7, vi .i64 (w64 (x_6 + (len x_17.Payload)))), (8, vi .i64 x_30), (9, vp 2 0), (10, vi .i64 x_11), (11, vs 4), (13, vs 5), (14, vi .i64 x_35), (15, vp 8 0), (82, .g [cb x_71.1.On, .s 9]), (83, vs 10), (84, vi .i64 x_71.2.2)] rfl (by kernel_rfl) (by kernel_rfl) (by kernel_rfl) ?_
                         refine SD.all1 (i := 11) (by kernel_rfl) ?_
                         refine SW.store D_69 tk (i := 11) (q := 8) (T := 41) (cs := [cb x_71.1.On, .s 9]) (bs' := [true, true, true, true, true, true, true, true, true, true, true, true, false, false]) rfl (by kernel_rfl) rfl rfl (by kernel_rfl) ?_
                         refine SD.takes tk D_69 [] kn0 [12, 13] [] [] [true, true, true, true, true, true, true, true, true, true, true, true, true, true] [(0, vs 0), (1, vi .i64 most_2), (2, vs 1), (7, vi .i64 (w64 (x_6 + (len x_17.Payload)))), (8, vi .i64 x_30), (9, vp 2 0), (10, vi .i64 x_11), (11, vs 4), (13, vs 5), (14, vi .i64 x_35), (15, vp 8 0), (16, vs 10), (17, vi .i64 x_71.2.2)] rfl (by kernel_rfl) (by kernel_rfl) (by kernel_rfl) ?_
                         refine SD.done (by kernel_rfl) fun a w h => ?_
                         exact ⟨x_71.1, x_71.2.1, x_71.2.2, hp, h.at (js := [.g 0, .g 1, .g 2, .g 3, .g 4, .g 5, .g 8, .g 9, .g 10]) (by kernel_rfl)⟩
                     · rintro a w ⟨c_43, l_44, x_45, hp, h⟩
                       refine h.go ?_
                       refine SC.seq ?_
                       refine SC.seq ?_
                       refine SC.reg ?_
                       refine SL.sim tk 3 [(0, vs 0), (1, vi .i64 most_2), (2, vs 1), (7, vi .i64 (w64 (x_6 + (len x_17.Payload)))), (8, vi .i64 x_30), (9, vp 2 0), (10, vi .i64 x_11), (11, vs 4), (13, vs 5), (14, vi .i64 x_35), (15, vp 6 0), (16, vs 8), (87, vb (x_45 != 0))] [] [] [] (by kernel_rfl) ?_
                       obtain ⟨z_47, hz, hpr⟩ := bind_inv hp
                       clear hp
                       refine SL.cutAt 8 (fun a w => A 165 2 fx [(0, vs 0), (1, vi .i64 most_2), (2, vs 1), (7, vi .i64 (w64 (x_6 + (len x_17.Payload)))), (8, vi .i64 x_30), (9, vp 2 0), (10, vi .i64 x_11), (11, vs 4), (13, vs 5), (14, vi .i64 x_35), (15, vp 6 0), (16, vs 8), (95, vb z_47)] [.rd 2 R_T_api_Frame frames_1, .rd 1 R8 gaps_3, .blk 41 [cb c_33.On, .s 3], .rd 1 R8 c_33.Buffer, .rd 2 R_T_api_Packet x_22.1, .own 2 25 R_T_api_Frame l_34, .blk 41 [cb c_43.On, .s 7], .rd 1 R8 c_43.Buffer, .rd 2 R_T_api_Frame l_44] a w) ?_ ?_
                       · have hp := hz
                         rcases Bool.eq_false_or_eq_true ((x_45 != 0)) with hg_46 | hg_46
                         · replace hp := if_t hp hg_46
                           refine SL.no rfl rfl hg_46 rfl ?_
                           refine SL.no rfl rfl hg_46 rfl ?_
                           refine SL.no rfl rfl hg_46 rfl ?_
                           refine SL.no rfl rfl hg_46 rfl ?_
                           refine SL.no rfl rfl hg_46 rfl ?_
                           refine SL.no rfl rfl hg_46 rfl ?_
                           refine SL.no rfl rfl hg_46 rfl ?_
                           refine SL.pickt rfl hg_46 rfl rfl ?_
                           refine SL.nilJ fun a w h => ?_
                           obtain rfl := some_inv' hp
                           exact h.at (js := [.g 0, .g 1, .g 2, .g 3, .g 4, .g 5, .g 6, .g 7, .g 8]) (by kernel_rfl)
                         · replace hp := if_f hp hg_46
                           refine SL.yes rfl rfl hg_46 ?_
                           refine SL.sim tk 1 [(0, vs 0), (1, vi .i64 most_2), (2, vs 1), (7, vi .i64 (w64 (x_6 + (len x_17.Payload)))), (8, vi .i64 x_30), (9, vp 2 0), (10, vi .i64 x_11), (11, vs 4), (13, vs 5), (14, vi .i64 x_35), (15, vp 6 0), (16, vs 8), (87, vb (x_45 != 0)), (88, vs 4)] [] [] [] (by kernel_rfl) ?_
                           refine SL.yes rfl rfl hg_46 ?_
                           refine SL.sim tk 1 [(0, vs 0), (1, vi .i64 most_2), (2, vs 1), (7, vi .i64 (w64 (x_6 + (len x_17.Payload)))), (8, vi .i64 x_30), (9, vp 2 0), (10, vi .i64 x_11), (11, vs 4), (13, vs 5), (14, vi .i64 x_35), (15, vp 6 0), (16, vs 8), (87, vb (x_45 != 0)), (88, vs 4), (89, vi .i64 x_35)] [] [] [] (by kernel_rfl) ?_
                           refine SL.yes rfl rfl hg_46 ?_
                           obtain ⟨x_66, e_x_66, hp⟩ := bind_inv hp
                           refine SL.pre (pre_ix (i := 4) (iv := x_35) (sz := 2) (R := R_T_api_Packet) (l := x_22.1) (by kernel_rfl) rfl e_x_66) ?_
                           refine SL.sim tk 1 [(0, vs 0), (1, vi .i64 most_2), (2, vs 1), (7, vi .i64 (w64 (x_6 + (len x_17.Payload)))), (8, vi .i64 x_30), (9, vp 2 0), (10, vi .i64 x_11), (11, vs 4), (13, vs 5), (14, vi .i64 x_35), (15, vp 6 0), (16, vs 8), (87, vb (x_45 != 0)), (88, vs 4), (89, vi .i64 x_35), (90, vp 9 0)] [] [.el 9] [x_35] (by kernel_rfl) ?_
                           refine SL.yes rfl rfl hg_46 ?_
                           refine SL.sim tk 1 [(0, vs 0), (1, vi .i64 most_2), (2, vs 1), (7, vi .i64 (w64 (x_6 + (len x_17.Payload)))), (8, vi .i64 x_30), (9, vp 2 0), (10, vi .i64 x_11), (11, vs 4), (13, vs 5), (14, vi .i64 x_35), (15, vp 6 0), (16, vs 8), (87, vb (x_45 != 0)), (88, vs 4), (89, vi .i64 x_35), (90, vp 9 0), (91, vp 9 1)] [] [] [] (by kernel_rfl) ?_
                           refine SL.yes rfl rfl hg_46 ?_
                           refine SL.sim tk 1 [(0, vs 0), (1, vi .i64 most_2), (2, vs 1), (7, vi .i64 (w64 (x_6 + (len x_17.Payload)))), (8, vi .i64 x_30), (9, vp 2 0), (10, vi .i64 x_11), (11, vs 4), (13, vs 5), (14, vi .i64 x_35), (15, vp 6 0), (16, vs 8), (87, vb (x_45 != 0)), (88, vs 4), (89, vi .i64 x_35), (90, vp 9 0), (91, vp 9 1), (92, vs 10)] [] [] [] (by kernel_rfl) ?_
                           refine SL.yes rfl rfl hg_46 ?_
                           refine SL.sim tk 1 [(0, vs 0), (1, vi .i64 most_2), (2, vs 1), (7, vi .i64 (w64 (x_6 + (len x_17.Payload)))), (8, vi .i64 x_30), (9, vp 2 0), (10, vi .i64 x_11), (11, vs 4), (13, vs 5), (14, vi .i64 x_35), (15, vp 6 0), (16, vs 8), (87, vb (x_45 != 0)), (88, vs 4), (89, vi .i64 x_35), (90, vp 9 0), (91, vp 9 1), (92, vs 10), (93, vi .i64 (len x_66.Payload))] [] [] [] (by kernel_rfl) ?_
                           refine SL.yes rfl rfl hg_46 ?_
                           refine SL.sim tk 1 [(0, vs 0), (1, vi .i64 most_2), (2, vs 1), (7, vi .i64 (w64 (x_6 + (len x_17.Payload)))), (8, vi .i64 x_30), (9, vp 2 0), (10, vi .i64 x_11), (11, vs 4), (13, vs 5), (14, vi .i64 x_35), (15, vp 6 0), (16, vs 8), (87, vb (x_45 != 0)), (88, vs 4), (89, vi .i64 x_35), (90, vp 9 0), (91, vp 9 1), (92, vs 10), (93, vi .i64 (len x_66.Payload)), (94, vb (decide ((len x_66.Payload) < 1)))] [] [] [] (by kernel_rfl) ?_
                           refine SL.pickf rfl hg_46 rfl rfl ?_
                           refine SL.nilJ fun a w h => ?_
                           obtain rfl := some_inv' hp
                           exact h.at (js := [.g 0, .g 1, .g 2, .g 3, .g 4, .g 5, .g 6, .g 7, .g 8]) (by kernel_rfl)
                       · intro a w h
                         have hp := hpr; clear hpr hz
                         refine h.goL ?_
                         refine SL.sim tk 1 [(0, vs 0), (1, vi .i64 most_2), (2, vs 1), (7, vi .i64 (w64 (x_6 + (len x_17.Payload)))), (8, vi .i64 x_30), (9, vp 2 0), (10, vi .i64 x_11), (11, vs 4), (13, vs 5), (14, vi .i64 x_35), (15, vp 6 0), (16, vs 8), (96, vb z_47)] [] [] [] (by kernel_rfl) ?_
                         obtain ⟨z_49, hz, hpr⟩ := bind_inv hp
                         clear hp
                         refine SL.cutAt 9 (fun a w => A 165 2 fx [(0, vs 0), (1, vi .i64 most_2), (2, vs 1), (7, vi .i64 (w64 (x_6 + (len x_17.Payload)))), (8, vi .i64 x_30), (9, vp 2 0), (10, vi .i64 x_11), (11, vs 4), (13, vs 5), (14, vi .i64 x_35), (15, vp 6 0), (16, vs 8), (105, vb z_49)] [.rd 2 R_T_api_Frame frames_1, .rd 1 R8 gaps_3, .blk 41 [cb c_33.On, .s 3], .rd 1 R8 c_33.Buffer, .rd 2 R_T_api_Packet x_22.1, .own 2 25 R_T_api_Frame l_34, .blk 41 [cb c_43.On, .s 7], .rd 1 R8 c_43.Buffer, .rd 2 R_T_api_Frame l_44] a w) ?_ ?_
                         · have hp := hz
                           rcases Bool.eq_false_or_eq_true (z_47) with hg_48 | hg_48
                           · replace hp := if_t hp hg_48
                             refine SL.no rfl rfl hg_48 rfl ?_
                             refine SL.no rfl rfl hg_48 rfl ?_
                             refine SL.no rfl rfl hg_48 rfl ?_
                             refine SL.no rfl rfl hg_48 rfl ?_
                             refine SL.no rfl rfl hg_48 rfl ?_
                             refine SL.no rfl rfl hg_48 rfl ?_
                             refine SL.no rfl rfl hg_48 rfl ?_
                             refine SL.no rfl rfl hg_48 rfl ?_
                             refine SL.pickt rfl hg_48 rfl rfl ?_
                             refine SL.nilJ fun a w h => ?_
                             obtain rfl := some_inv' hp
                             exact h.at (js := [.g 0, .g 1, .g 2, .g 3, .g 4, .g 5, .g 6, .g 7, .g 8]) (by kernel_rfl)
                           · replace hp := if_f hp hg_48
                             refine SL.yes rfl rfl hg_48 ?_
                             refine SL.sim tk 1 [(0, vs 0), (1, vi .i64 most_2), (2, vs 1), (7, vi .i64 (w64 (x_6 + (len x_17.Payload)))), (8, vi .i64 x_30), (9, vp 2 0), (10, vi .i64 x_11), (11, vs 4), (13, vs 5), (14, vi .i64 x_35), (15, vp 6 0), (16, vs 8), (96, vb z_47), (97, vs 4)] [] [] [] (by kernel_rfl) ?_
                             refine SL.yes rfl rfl hg_48 ?_
                             refine SL.sim tk 1 [(0, vs 0), (1, vi .i64 most_2), (2, vs 1), (7, vi .i64 (w64 (x_6 + (len x_17.Payload)))), (8, vi .i64 x_30), (9, vp 2 0), (10, vi .i64 x_11), (11, vs 4), (13, vs 5), (14, vi .i64 x_35), (15, vp 6 0), (16, vs 8), (96, vb z_47), (97, vs 4), (98, vi .i64 x_35)] [] [] [] (by kernel_rfl) ?_
                             refine SL.yes rfl rfl hg_48 ?_
                             obtain ⟨x_64, e_x_64, hp⟩ := bind_inv hp
                             refine SL.pre (pre_ix (i := 4) (iv := x_35) (sz := 2) (R := R_T_api_Packet) (l := x_22.1) (by kernel_rfl) rfl e_x_64) ?_
                             refine SL.sim tk 1 [(0, vs 0), (1, vi .i64 most_2), (2, vs 1), (7, vi .i64 (w64 (x_6 + (len x_17.Payload)))), (8, vi .i64 x_30), (9, vp 2 0), (10, vi .i64 x_11), (11, vs 4), (13, vs 5), (14, vi .i64 x_35), (15, vp 6 0), (16, vs 8), (96, vb z_47), (97, vs 4), (98, vi .i64 x_35), (99, vp 9 0)] [] [.el 9] [x_35] (by kernel_rfl) ?_
                             refine SL.yes rfl rfl hg_48 ?_
                             refine SL.sim tk 1 [(0, vs 0), (1, vi .i64 most_2), (2, vs 1), (7, vi .i64 (w64 (x_6 + (len x_17.Payload)))), (8, vi .i64 x_30), (9, vp 2 0), (10, vi .i64 x_11), (11, vs 4), (13, vs 5), (14, vi .i64 x_35), (15, vp 6 0), (16, vs 8), (96, vb z_47), (97, vs 4), (98, vi .i64 x_35), (99, vp 9 0), (100, vp 9 1)] [] [] [] (by kernel_rfl) ?_
                             refine SL.yes rfl rfl hg_48 ?_
                             refine SL.sim tk 1 [(0, vs 0), (1, vi .i64 most_2), (2, vs 1), (7, vi .i64 (w64 (x_6 + (len x_17.Payload)))), (8, vi .i64 x_30), (9, vp 2 0), (10, vi .i64 x_11), (11, vs 4), (13, vs 5), (14, vi .i64 x_35), (15, vp 6 0), (16, vs 8), (96, vb z_47), (97, vs 4), (98, vi .i64 x_35), (99, vp 9 0), (100, vp 9 1), (101, vs 10)] [] [] [] (by kernel_rfl) ?_
                             refine SL.yes rfl rfl hg_48 ?_
                             refine SL.sim tk 1 [(0, vs 0), (1, vi .i64 most_2), (2, vs 1), (7, vi .i64 (w64 (x_6 + (len x_17.Payload)))), (8, vi .i64 x_30), (9, vp 2 0), (10, vi .i64 x_11), (11, vs 4), (13, vs 5), (14, vi .i64 x_35), (15, vp 6 0), (16, vs 8), (96, vb z_47), (97, vs 4), (98, vi .i64 x_35), (99, vp 9 0), (100, vp 9 1), (101, vs 10), (102, vi .i64 (len x_64.Payload))] [] [] [] (by kernel_rfl) ?_
                             refine SL.yes rfl rfl hg_48 ?_
                             refine SL.sim tk 1 [(0, vs 0), (1, vi .i64 most_2), (2, vs 1), (7, vi .i64 (w64 (x_6 + (len x_17.Payload)))), (8, vi .i64 x_30), (9, vp 2 0), (10, vi .i64 x_11), (11, vs 4), (13, vs 5), (14, vi .i64 x_35), (15, vp 6 0), (16, vs 8), (96, vb z_47), (97, vs 4), (98, vi .i64 x_35), (99, vp 9 0), (100, vp 9 1), (101, vs 10), (102, vi .i64 (len x_64.Payload)), (103, vi .i64 most_2)] [] [] [] (by kernel_rfl) ?_
                             refine SL.yes rfl rfl hg_48 ?_
                             refine SL.sim tk 1 [(0, vs 0), (1, vi .i64 most_2), (2, vs 1), (7, vi .i64 (w64 (x_6 + (len x_17.Payload)))), (8, vi .i64 x_30), (9, vp 2 0), (10, vi .i64 x_11), (11, vs 4), (13, vs 5), (14, vi .i64 x_35), (15, vp 6 0), (16, vs 8), (96, vb z_47), (97, vs 4), (98, vi .i64 x_35), (99, vp 9 0), (100, vp 9 1), (101, vs 10), (102, vi .i64 (len x_64.Payload)), (103, vi .i64 most_2), (104, vb (decide ((len x_64.Payload) > most_2)))] [] [] [] (by kernel_rfl) ?_
                             refine SL.pickf rfl hg_48 rfl rfl ?_
                             refine SL.nilJ fun a w h => ?_
                             obtain rfl := some_inv' hp
                             exact h.at (js := [.g 0, .g 1, .g 2, .g 3, .g 4, .g 5, .g 6, .g 7, .g 8]) (by kernel_rfl)
                         · intro a w h
                           have hp := hpr; clear hpr hz
                           refine h.goL ?_
                           refine SL.nilThen ?_
                           refine SC.if' rfl hp (fun hp => ?_) (fun hp => ?_)
                           · refine SC.r tk [(6, vb false)] [] [] [] (by kernel_rfl) ?_
                             have ho := done_inv hp hs2
                             replace hp := ho2
                             try rw [ho] at hp
                             have ho := done_inv hp hs1
                             replace hp := ho1
                             try rw [ho] at hp
                             obtain rfl := some_inv' hp
                             exact SC.re (js := [.g 0, .g 1]) tk (by kernel_rfl)
                           · refine SC.skipThen ?_
                             refine SC.seq ?_
                             refine SC.reg ?_
                             refine SL.sim tk 2 [(0, vs 0), (1, vi .i64 most_2), (2, vs 1), (7, vi .i64 (w64 (x_6 + (len x_17.Payload)))), (8, vi .i64 x_30), (9, vp 2 0), (10, vi .i64 x_11), (11, vs 4), (13, vs 5), (14, vi .i64 x_35), (15, vp 6 0), (106, vs 5), (107, vs 8)] [] [] [] (by kernel_rfl) ?_
                             obtain ⟨l_50, e_l_50, hp⟩ := bind_inv hp
                             refine SL.eff (e_app (i := 5) (l := l_34) (sz := 2) (E := 25) (R := R_T_api_Frame) (by_ := 32) (m := l_44) tk rfl (by kernel_rfl) rfl (.r (by kernel_rfl)) e_l_50 (by kernel_rfl)) rfl (by kernel_rfl) ?_
                             refine SL.sim tk 1 [(0, vs 0), (1, vi .i64 most_2), (2, vs 1), (7, vi .i64 (w64 (x_6 + (len x_17.Payload)))), (8, vi .i64 x_30), (9, vp 2 0), (10, vi .i64 x_11), (11, vs 4), (13, vs 9), (14, vi .i64 x_35), (15, vp 6 0)] [] [] [] (by kernel_rfl) ?_
                             refine SL.nilThen ?_
                             refine SC.cut (fun a w => ∃ (x_51 : Int), wirelesslaw32_FragmentWhole_j6 F x_35 c_43 l_50 x_51 = some q2 ∧ A 165 2 fx [(0, vs 0), (1, vi .i64 most_2), (2, vs 1), (7, vi .i64 (w64 (x_6 + (len x_17.Payload)))), (8, vi .i64 x_51), (9, vp 2 0), (10, vi .i64 x_11), (11, vs 4), (13, vs 5), (14, vi .i64 x_35), (15, vp 6 0)] [.rd 2 R_T_api_Frame frames_1, .rd 1 R8 gaps_3, .blk 41 [cb c_33.On, .s 3], .rd 1 R8 c_33.Buffer, .rd 2 R_T_api_Packet x_22.1, .own 2 25 R_T_api_Frame l_50, .blk 41 [cb c_43.On, .s 7], .rd 1 R8 c_43.Buffer] a w) ?_ ?_
                             · refine SC.block ?_
                               obtain ⟨o3, hi3, ho3⟩ := bind_inv hp
                               clear hp
                               refine SC.loop (fun n a w => ∃ (x_52 : Int), iter (fun s => wirelesslaw32_FragmentWhole_l3 F gaps_3 c_43 s) n (x_52) = some o3 ∧ A 165 2 fx [(0, vs 0), (1, vi .i64 most_2), (2, vs 1), (7, vi .i64 (w64 (x_6 + (len x_17.Payload)))), (8, vi .i64 x_52), (9, vp 2 0), (10, vi .i64 x_11), (11, vs 4), (13, vs 5), (14, vi .i64 x_35), (15, vp 6 0)] [.rd 2 R_T_api_Frame frames_1, .rd 1 R8 gaps_3, .blk 41 [cb c_33.On, .s 3], .rd 1 R8 c_33.Buffer, .rd 2 R_T_api_Packet x_22.1, .own 2 25 R_T_api_Frame l_50, .blk 41 [cb c_43.On, .s 7], .rd 1 R8 c_43.Buffer] a w) F (fun a w h => ⟨x_30, hi3, h.at (js := [.g 0, .g 1, .g 2, .g 3, .g 4, .g 9, .g 6, .g 7]) (by kernel_rfl)⟩) ?_
                               rintro n3 a w ⟨x_52, hi3, h⟩
                               obtain ⟨n3, q3, rfl, hp, hs3⟩ := iter_inv hi3
                               replace hp : wirelesslaw32_FragmentWhole_l3 F gaps_3 c_43 x_52 = some q3 := hp
                               clear hi3
                               refine h.go ?_
                               refine SC.seq ?_
                               refine SC.seq ?_
                               refine SC.reg ?_
                               refine SL.sim tk 5 [(0, vs 0), (1, vi .i64 most_2), (2, vs 1), (7, vi .i64 (w64 (x_6 + (len x_17.Payload)))), (8, vi .i64 x_52), (9, vp 2 0), (10, vi .i64 x_11), (11, vs 4), (13, vs 5), (14, vi .i64 x_35), (15, vp 6 0), (113, vb (decide (x_52 < (len gaps_3))))] [] [] [] (by kernel_rfl) ?_
                               obtain ⟨z_54, hz, hpr⟩ := bind_inv hp
                               clear hp
                               refine SL.cutAt 7 (fun a w => A 165 2 fx [(0, vs 0), (1, vi .i64 most_2), (2, vs 1), (7, vi .i64 (w64 (x_6 + (len x_17.Payload)))), (8, vi .i64 x_52), (9, vp 2 0), (10, vi .i64 x_11), (11, vs 4), (13, vs 5), (14, vi .i64 x_35), (15, vp 6 0), (120, vb z_54)] [.rd 2 R_T_api_Frame frames_1, .rd 1 R8 gaps_3, .blk 41 [cb c_33.On, .s 3], .rd 1 R8 c_33.Buffer, .rd 2 R_T_api_Packet x_22.1, .own 2 25 R_T_api_Frame l_50, .blk 41 [cb c_43.On, .s 7], .rd 1 R8 c_43.Buffer] a w) ?_ ?_
                               · have hp := hz
                                 rcases Bool.eq_false_or_eq_true (decide (x_52 < (len gaps_3))) with hg_53 | hg_53
                                 · replace hp := if_t hp hg_53
                                   refine SL.yes rfl rfl hg_53 ?_
                                   refine SL.sim tk 1 [(0, vs 0), (1, vi .i64 most_2), (2, vs 1), (7, vi .i64 (w64 (x_6 + (len x_17.Payload)))), (8, vi .i64 x_52), (9, vp 2 0), (10, vi .i64 x_11), (11, vs 4), (13, vs 5), (14, vi .i64 x_35), (15, vp 6 0), (113, vb (decide (x_52 < (len gaps_3)))), (114, vs 1)] [] [] [] (by kernel_rfl) ?_
                                   refine SL.yes rfl rfl hg_53 ?_
                                   refine SL.sim tk 1 [(0, vs 0), (1, vi .i64 most_2), (2, vs 1), (7, vi .i64 (w64 (x_6 + (len x_17.Payload)))), (8, vi .i64 x_52), (9, vp 2 0), (10, vi .i64 x_11), (11, vs 4), (13, vs 5), (14, vi .i64 x_35), (15, vp 6 0), (113, vb (decide (x_52 < (len gaps_3)))), (114, vs 1), (115, vi .i64 x_52)] [] [] [] (by kernel_rfl) ?_
                                   refine SL.yes rfl rfl hg_53 ?_
                                   obtain ⟨x_61, e_x_61, hp⟩ := bind_inv hp
                                   refine SL.pre (pre_ix (i := 1) (iv := x_52) (sz := 1) (R := R8) (l := gaps_3) (by kernel_rfl) rfl e_x_61) ?_
                                   refine SL.sim tk 1 [(0, vs 0), (1, vi .i64 most_2), (2, vs 1), (7, vi .i64 (w64 (x_6 + (len x_17.Payload)))), (8, vi .i64 x_52), (9, vp 2 0), (10, vi .i64 x_11), (11, vs 4), (13, vs 5), (14, vi .i64 x_35), (15, vp 6 0), (113, vb (decide (x_52 < (len gaps_3)))), (114, vs 1), (115, vi .i64 x_52), (116, vp 8 0)] [] [.el 8] [x_52] (by kernel_rfl) ?_
                                   refine SL.yes rfl rfl hg_53 ?_
                                   refine SL.sim tk 1 [(0, vs 0), (1, vi .i64 most_2), (2, vs 1), (7, vi .i64 (w64 (x_6 + (len x_17.Payload)))), (8, vi .i64 x_52), (9, vp 2 0), (10, vi .i64 x_11), (11, vs 4), (13, vs 5), (14, vi .i64 x_35), (15, vp 6 0), (113, vb (decide (x_52 < (len gaps_3)))), (114, vs 1), (115, vi .i64 x_52), (116, vp 8 0), (117, vi .u8 x_61)] [] [] [] (by kernel_rfl) ?_
                                   refine SL.yes rfl rfl hg_53 ?_
                                   obtain ⟨x_62, e_x_62, hp⟩ := bind_inv hp
                                   refine SL.sim tk 1 [(0, vs 0), (1, vi .i64 most_2), (2, vs 1), (7, vi .i64 (w64 (x_6 + (len x_17.Payload)))), (8, vi .i64 x_52), (9, vp 2 0), (10, vi .i64 x_11), (11, vs 4), (13, vs 5), (14, vi .i64 x_35), (15, vp 6 0), (113, vb (decide (x_52 < (len gaps_3)))), (114, vs 1), (115, vi .i64 x_52), (116, vp 8 0), (117, vi .u8 x_61), (118, vi .u8 x_62)] [] [.bin .rem .u8 x_61 3 x_62 e_x_62] [x_61, 3] (by kernel_rfl) ?_
                                   refine SL.yes rfl rfl hg_53 ?_
                                   refine SL.sim tk 1 [(0, vs 0), (1, vi .i64 most_2), (2, vs 1), (7, vi .i64 (w64 (x_6 + (len x_17.Payload)))), (8, vi .i64 x_52), (9, vp 2 0), (10, vi .i64 x_11), (11, vs 4), (13, vs 5), (14, vi .i64 x_35), (15, vp 6 0), (113, vb (decide (x_52 < (len gaps_3)))), (114, vs 1), (115, vi .i64 x_52), (116, vp 8 0), (117, vi .u8 x_61), (118, vi .u8 x_62), (119, vb (x_62 == 0))] [] [] [] (by kernel_rfl) ?_
                                   refine SL.pickt rfl hg_53 rfl rfl ?_
                                   refine SL.nilJ fun a w h => ?_
                                   obtain rfl := some_inv' hp
                                   exact h.at (js := [.g 0, .g 1, .g 2, .g 3, .g 4, .g 5, .g 6, .g 7]) (by kernel_rfl)
                                 · replace hp := if_f hp hg_53
                                   refine SL.no rfl rfl hg_53 rfl ?_
                                   refine SL.no rfl rfl hg_53 rfl ?_
                                   refine SL.no rfl rfl hg_53 rfl ?_
                                   refine SL.no rfl rfl hg_53 rfl ?_
                                   refine SL.no rfl rfl hg_53 rfl ?_
                                   refine SL.no rfl rfl hg_53 rfl ?_
                                   refine SL.pickf rfl hg_53 rfl rfl ?_
                                   refine SL.nilJ fun a w h => ?_
                                   obtain rfl := some_inv' hp
                                   exact h.at (js := [.g 0, .g 1, .g 2, .g 3, .g 4, .g 5, .g 6, .g 7]) (by kernel_rfl)
                               · intro a w h
                                 have hp := hpr; clear hpr hz
                                 refine h.goL ?_
                                 refine SL.nilThen ?_
                                 refine SC.if' rfl hp (fun hp => ?_) (fun hp => ?_)
                                 · refine SC.skipThen ?_
                                   refine SC.block ?_
                                   refine SC.seq ?_
                                   refine SC.reg ?_
                                   refine SL.sim tk 2 [(0, vs 0), (1, vi .i64 most_2), (2, vs 1), (7, vi .i64 (w64 (x_6 + (len x_17.Payload)))), (8, vi .i64 x_52), (9, vp 2 0), (10, vi .i64 x_11), (11, vs 4), (13, vs 5), (14, vi .i64 x_35), (15, vp 6 0), (122, .g [cb c_43.On, .s 7]), (123, .g [ci .i64 1, nl])] [] [] [] (by kernel_rfl) ?_
                                   obtain ⟨x_55, e_x_55, hp⟩ := bind_inv hp
                                   refine SL.eff (e_c Try.call21 (ok_fragment_Feed F c_43 (T_api_Packet.mk 1 []) _ e_x_55) [.g 7, .n] [.g [cb c_43.On, .s 7], .g [ci .i64 1, nl]] (.u [.inr [cb x_55.1.On, .s 8], .inl (.s 9), .inl (ci .i64 x_55.2.2)]) (by kernel_rfl) (.inl rfl)) rfl (by kernel_rfl) ?_
                                   refine SL.sim tk 4 [(0, vs 0), (1, vi .i64 most_2), (2, vs 1), (7, vi .i64 (w64 (x_6 + (len x_17.Payload)))), (8, vi .i64 x_52), (9, vp 2 0), (10, vi .i64 x_11), (11, vs 4), (13, vs 5), (14, vi .i64 x_35), (15, vp 6 0), (125, .g [cb x_55.1.On, .s 8]), (126, vs 9), (127, vi .i64 x_55.2.2)] [] [] [] (by kernel_rfl) ?_
                                   refine SL.eff (e_alloc (E := 41) tk [cb false, nl] (by kernel_rfl)) rfl (by kernel_rfl) ?_
                                   refine SL.sim tk 3 [(0, vs 0), (1, vi .i64 most_2), (2, vs 1), (7, vi .i64 (w64 (x_6 + (len x_17.Payload)))), (8, vi .i64 x_52), (9, vp 2 0), (10, vi .i64 x_11), (11, vs 4), (13, vs 5), (14, vi .i64 x_35), (15, vp 6 0), (18, vp 10 0), (19, vs 9), (20, vi .i64 x_55.2.2)] [(10, 41, [cb x_55.1.On, .s 8])] [] [] (by kernel_rfl) ?_
                                   refine SL.nilThen ?_
                                   refine SC.seq ?_
                                   refine SC.seq ?_
                                   refine SC.reg ?_
                                   refine SL.sim tk 8 [(0, vs 0), (1, vi .i64 most_2), (2, vs 1), (7, vi .i64 (w64 (x_6 + (len x_17.Payload)))), (8, vi .i64 x_52), (9, vp 2 0), (10, vi .i64 x_11), (11, vs 4), (13, vs 5), (14, vi .i64 x_35), (15, vp 6 0), (18, vp 10 0), (135, vb ((x_55.2.2 != 0) || ((len x_55.2.1) != 0)))] [] [] [] (by kernel_rfl) ?_
                                   obtain ⟨z_57, hz, hpr⟩ := bind_inv hp
                                   clear hp
                                   refine SL.cutAt 5 (fun a w => A 165 2 fx [(0, vs 0), (1, vi .i64 most_2), (2, vs 1), (7, vi .i64 (w64 (x_6 + (len x_17.Payload)))), (8, vi .i64 x_52), (9, vp 2 0), (10, vi .i64 x_11), (11, vs 4), (13, vs 5), (14, vi .i64 x_35), (15, vp 6 0), (140, vb z_57)] [.rd 2 R_T_api_Frame frames_1, .rd 1 R8 gaps_3, .blk 41 [cb c_33.On, .s 3], .rd 1 R8 c_33.Buffer, .rd 2 R_T_api_Packet x_22.1, .own 2 25 R_T_api_Frame l_50, .blk 41 [cb c_43.On, .s 7], .rd 1 R8 c_43.Buffer] a w) ?_ ?_
                                   · have hp := hz
                                     rcases Bool.eq_false_or_eq_true (((x_55.2.2 != 0) || ((len x_55.2.1) != 0))) with hg_56 | hg_56
                                     · replace hp := if_t hp hg_56
                                       refine SL.no rfl rfl hg_56 rfl ?_
                                       refine SL.no rfl rfl hg_56 rfl ?_
                                       refine SL.no rfl rfl hg_56 rfl ?_
                                       refine SL.no rfl rfl hg_56 rfl ?_
                                       refine SL.pickt rfl hg_56 rfl rfl ?_
                                       refine SL.nilJ fun a w h => ?_
                                       obtain rfl := some_inv' hp
                                       exact h.at (js := [.g 0, .g 1, .g 2, .g 3, .g 4, .g 5, .g 6, .g 7]) (by kernel_rfl)
                                     · replace hp := if_f hp hg_56
                                       refine SL.yes rfl rfl hg_56 ?_
                                       refine SL.sim tk 1 [(0, vs 0), (1, vi .i64 most_2), (2, vs 1), (7, vi .i64 (w64 (x_6 + (len x_17.Payload)))), (8, vi .i64 x_52), (9, vp 2 0), (10, vi .i64 x_11), (11, vs 4), (13, vs 5), (14, vi .i64 x_35), (15, vp 6 0), (18, vp 10 0), (135, vb ((x_55.2.2 != 0) || ((len x_55.2.1) != 0))), (136, .g [cb c_43.On, .s 7])] [] [] [] (by kernel_rfl) ?_
                                       refine SL.yes rfl rfl hg_56 ?_
                                       refine SL.sim tk 1 [(0, vs 0), (1, vi .i64 most_2), (2, vs 1), (7, vi .i64 (w64 (x_6 + (len x_17.Payload)))), (8, vi .i64 x_52), (9, vp 2 0), (10, vi .i64 x_11), (11, vs 4), (13, vs 5), (14, vi .i64 x_35), (15, vp 6 0), (135, vb ((x_55.2.2 != 0) || ((len x_55.2.1) != 0))), (136, .g [cb c_43.On, .s 7]), (137, .g [cb x_55.1.On, .s 8])] [] [] [] (by kernel_rfl) ?_
                                       refine SL.yes rfl rfl hg_56 ?_
                                       obtain ⟨x_59, e_x_59, hp⟩ := bind_inv hp
                                       refine SL.eff (e_c Try.call23 (ok_wirelessref32_SameAssembler F c_43 x_55.1 _ e_x_59) [.g 7, .g 8] [.g [cb c_43.On, .s 7], .g [cb x_55.1.On, .s 8]] (vb x_59) (by kernel_rfl) (.inl rfl)) rfl (by kernel_rfl) ?_
                                       refine SL.norm (itsN := [.rd 2 R_T_api_Frame frames_1, .rd 1 R8 gaps_3, .blk 41 [cb c_33.On, .s 3], .rd 1 R8 c_33.Buffer, .rd 2 R_T_api_Packet x_22.1, .own 2 25 R_T_api_Frame l_50, .blk 41 [cb c_43.On, .s 7], .rd 1 R8 c_43.Buffer, .rd 1 R8 x_55.1.Buffer, .rd 2 R_T_api_Frame x_55.2.1, .blk 41 [cb x_55.1.On, .s 8]]) (by kernel_rfl) ?_
                                       refine SL.yes rfl rfl hg_56 ?_
                                       refine SL.sim tk 1 [(0, vs 0), (1, vi .i64 most_2), (2, vs 1), (7, vi .i64 (w64 (x_6 + (len x_17.Payload)))), (8, vi .i64 x_52), (9, vp 2 0), (10, vi .i64 x_11), (11, vs 4), (13, vs 5), (14, vi .i64 x_35), (15, vp 6 0), (135, vb ((x_55.2.2 != 0) || ((len x_55.2.1) != 0))), (136, .g [cb c_43.On, .s 7]), (137, .g [cb x_55.1.On, .s 8]), (138, vb x_59), (139, vb (!x_59))] [] [] [] (by kernel_rfl) ?_
                                       refine SL.pickf rfl hg_56 rfl rfl ?_
                                       refine SL.nilJ fun a w h => ?_
                                       obtain rfl := some_inv' hp
                                       exact h.at (js := [.g 0, .g 1, .g 2, .g 3, .g 4, .g 5, .g 6, .g 7]) (by kernel_rfl)
                                   · intro a w h
                                     have hp := hpr; clear hpr hz
                                     refine h.goL ?_
                                     refine SL.nilThen ?_
                                     refine SC.if' rfl hp (fun hp => ?_) (fun hp => ?_)
                                     · refine SC.r tk [(6, vb false)] [] [] [] (by kernel_rfl) ?_
                                       have ho := done_inv hp hs3
                                       replace hp := ho3
                                       try rw [ho] at hp
                                       have ho := done_inv hp hs2
                                       replace hp := ho2
                                       try rw [ho] at hp
                                       have ho := done_inv hp hs1
                                       replace hp := ho1
                                       try rw [ho] at hp
                                       obtain rfl := some_inv' hp
                                       exact SC.re (js := [.g 0, .g 1]) tk (by kernel_rfl)
                                     · refine SC.skipThen ?_
                                       refine SC.reg ?_
                                       refine SL.sim tk 3 [(0, vs 0), (1, vi .i64 most_2), (2, vs 1), (7, vi .i64 (w64 (x_6 + (len x_17.Payload)))), (8, vi .i64 (w64 (x_52 + 1))), (9, vp 2 0), (10, vi .i64 x_11), (11, vs 4), (13, vs 5), (14, vi .i64 x_35), (15, vp 6 0)] [] [] [] (by kernel_rfl) ?_
                                       refine SL.nilJ fun a w h => ?_
                                       exact ⟨n3, Nat.lt_succ_self _, w64 (x_52 + 1), next_inv hp hs3, h.at (js := [.g 0, .g 1, .g 2, .g 3, .g 4, .g 5, .g 6, .g 7]) (by kernel_rfl)⟩
                                 · refine SC.exitJ rfl fun a w h => ?_
                                   have ho := done_inv hp hs3
                                   replace hp := ho3
                                   try rw [ho] at hp
                                   exact ⟨x_52, hp, h.at (js := [.g 0, .g 1, .g 2, .g 3, .g 4, .g 5, .g 6, .g 7]) (by kernel_rfl)⟩
                             · rintro a w ⟨x_51, hp, h⟩
                               refine h.go ?_
                               refine SC.r tk [(0, vs 0), (1, vi .i64 most_2), (2, vs 1), (7, vi .i64 (w64 (x_6 + (len x_17.Payload)))), (8, vi .i64 (w64 (x_51 + 1))), (9, vp 2 0), (10, vi .i64 x_11), (11, vs 4), (13, vs 5), (14, vi .i64 x_35), (15, vp 6 0)] [] [] [] (by kernel_rfl) ?_
                               refine SC.reg ?_
                               refine SL.sim tk 2 [(0, vs 0), (1, vi .i64 most_2), (2, vs 1), (7, vi .i64 (w64 (x_6 + (len x_17.Payload)))), (8, vi .i64 (w64 (x_51 + 1))), (9, vp 2 0), (10, vi .i64 x_11), (11, vs 4), (13, vs 5), (14, vi .i64 x_35)] [(2, 41, [cb c_43.On, .s 7])] [] [] (by kernel_rfl) ?_
                               refine SL.nilJ fun a w h => ?_
                               exact ⟨w64 (x_51 + 1), c_43, l_50, hp, h.at (js := [.g 0, .g 1, .g 2, .g 7, .g 4, .g 5]) (by kernel_rfl)⟩
                   · rintro a w ⟨x_36, c_39, l_40, hp, h⟩
                     refine h.go ?_
                     refine SC.reg ?_
                     refine SL.sim tk 3 [(0, vs 0), (1, vi .i64 most_2), (2, vs 1), (7, vi .i64 (w64 (x_6 + (len x_17.Payload)))), (8, vi .i64 x_36), (9, vp 2 0), (10, vi .i64 x_11), (11, vs 4), (13, vs 5), (14, vi .i64 (w64 (x_35 + 1)))] [] [] [] (by kernel_rfl) ?_
                     refine SL.nilJ fun a w h => ?_
                     exact ⟨n2, Nat.lt_succ_self _, x_36, c_39, l_40, w64 (x_35 + 1), next_inv hp hs2, h.at (js := [.g 0, .g 1, .g 2, .g 3, .g 4, .g 5]) (by kernel_rfl)⟩
                 · refine SC.exitJ rfl fun a w h => ?_
                   have ho := done_inv hp hs2
                   replace hp := ho2
                   try rw [ho] at hp
                   exact ⟨x_30, c_33, l_34, hp, h.at (js := [.g 0, .g 1, .g 2, .g 3, .g 5]) (by kernel_rfl)⟩
               · rintro a w ⟨x_23, c_26, l_27, hp, h⟩
                 refine h.go ?_
                 refine SC.seq ?_
                 refine SC.reg ?_
                 refine SL.sim tk 5 [(0, vs 0), (1, vi .i64 most_2), (2, vs 1), (7, vi .i64 (w64 (x_6 + (len x_17.Payload)))), (8, vi .i64 x_23), (9, vp 2 0), (10, vi .i64 x_11), (146, vs 4), (147, vs 0), (148, vi .i64 x_11), (150, vi .i64 (w64 (x_11 + 1)))] [] [] [] (by kernel_rfl) ?_
                 obtain ⟨l_28, e_l_28, hp⟩ := bind_inv hp
                 refine SL.eff (e_sub (sz := 2) (E := 25) (R := R_T_api_Frame) (by_ := 32) (l := frames_1) tk rfl (.inl ⟨0, rfl, (by kernel_rfl)⟩) rfl rfl e_l_28 (by kernel_rfl)) rfl (by kernel_rfl) ?_
                 obtain ⟨x_29, e_x_29, hp⟩ := bind_inv hp
                 refine SL.eff (e_c Try.call24 (ok_wirelessref32_SameFrames F l_27 l_28 _ e_x_29) [.l 4, .g 5] [vs 4, vs 5] (vb x_29) (by kernel_rfl) (.inr ⟨trivial, trivial, trivial⟩)) rfl (by kernel_rfl) ?_
                 refine SL.sim tk 11 [(0, vs 0), (1, vi .i64 most_2), (2, vs 1), (7, vi .i64 (w64 (x_6 + (len x_17.Payload)))), (8, vi .i64 x_23), (9, vp 2 0), (10, vi .i64 x_11), (163, vb (((!x_29) || c_26.On) || ((len c_26.Buffer) != 0)))] [] [] [] (by kernel_rfl) ?_
                 refine SL.nilThen ?_
                 refine SC.if' rfl hp (fun hp => ?_) (fun hp => ?_)
                 · refine SC.r tk [(6, vb false)] [] [] [] (by kernel_rfl) ?_
                   have ho := done_inv hp hs1
                   replace hp := ho1
                   try rw [ho] at hp
                   obtain rfl := some_inv' hp
                   exact SC.re (js := [.g 0, .g 1]) tk (by kernel_rfl)
                 · refine SC.skipJ fun a w h => ?_
                   exact ⟨w64 (x_6 + (len x_17.Payload)), x_23, c_26, hp, h.at (js := [.g 0, .g 1, .g 2, .g 3]) (by kernel_rfl)⟩
       · rintro a w ⟨x_12, x_13, c_16, hp, h⟩
         refine h.go ?_
         refine SC.reg ?_
         refine SL.sim tk 3 [(0, vs 0), (1, vi .i64 most_2), (2, vs 1), (7, vi .i64 x_12), (8, vi .i64 x_13), (9, vp 2 0), (10, vi .i64 (w64 (x_11 + 1)))] [] [] [] (by kernel_rfl) ?_
         refine SL.nilJ fun a w h => ?_
         exact ⟨n1, Nat.lt_succ_self _, x_12, x_13, c_16, w64 (x_11 + 1), next_inv hp hs1, h.at (js := [.g 0, .g 1, .g 2, .g 3]) (by kernel_rfl)⟩
     · refine SC.exitJ rfl fun a w h => ?_
       have ho := done_inv hp hs1
       replace hp := ho1
       try rw [ho] at hp
       exact ⟨hp, h.at (js := [.g 0, .g 1]) (by kernel_rfl)⟩
   · rintro a w ⟨hp, h⟩
     refine h.go ?_
     refine SC.seq ?_
     refine SC.reg ?_
     obtain ⟨x_5, e_x_5, hp⟩ := bind_inv hp
     refine SL.eff (e_c Try.call10 (ok_wirelesslaw32_exampleHolds F  _ e_x_5) [] [] (vb x_5) (by kernel_rfl) (.inl rfl)) rfl (by kernel_rfl) ?_
     refine SL.sim tk 1 [(6, vb x_5)] [] [] [] (by kernel_rfl) ?_
     refine SL.nilThen ?_
     obtain rfl := some_inv' hp
     exact SC.re (js := [.g 0, .g 1]) tk (by kernel_rfl)

theorem ok_wirelesslaw32_FragmentUnique (F : Nat) (b_1 : (List Int)) (f_2 : T_api_Frame) (r : Bool) (hp : wirelesslaw32_FragmentUnique F b_1 f_2 = some r) : Spec Try.prog 8 [vs 0, .g [ci .u16 f_2.CID, .s 1]] [.rd 1 R8 b_1, .rd 1 R8 f_2.Payload] (vb r) [.gone, .gone] := by
 refine Spec.enter Try.func8 rfl Try.ntmps8 rfl rfl fun fx => ?_
 refine SC.seq ?_
 refine SC.reg ?_
 refine SL.eff (e_box (E := 25) [ci .u16 f_2.CID, .s 1] (by kernel_rfl)) rfl (by kernel_rfl) ?_
 refine SL.sim tk 1 [(0, vs 0), (3, vp 2 0)] [] [] [] (by kernel_rfl) ?_
 refine SL.nilThen ?_
 refine SC.seq ?_
 refine SC.r tk [(0, vs 0), (3, vp 2 0), (20, vb ((decide ((len b_1) > 65536)) || (decide ((len f_2.Payload) > 65536))))] [] [] [] (by kernel_rfl) ?_
 refine SC.if' rfl hp (fun hp => ?_) (fun hp => ?_)
 · refine SC.seq ?_
   refine SC.reg ?_
   obtain ⟨x_3, e_x_3, hp⟩ := bind_inv hp
   refine SL.eff (e_c Try.call10 (ok_wirelesslaw32_exampleHolds F  _ e_x_3) [] [] (vb x_3) (by kernel_rfl) (.inl rfl)) rfl (by kernel_rfl) ?_
   refine SL.sim tk 1 [(4, vb x_3)] [] [] [] (by kernel_rfl) ?_
   refine SL.nilThen ?_
   obtain rfl := some_inv' hp
   exact SC.re (js := [.g 0, .g 1]) tk (by kernel_rfl)
 · refine SC.skipThen ?_
   refine SC.seq ?_
   refine SC.reg ?_
   refine SL.sim tk 1 [(0, vs 0), (3, vp 2 0), (23, vs 0)] [] [] [] (by kernel_rfl) ?_
   obtain ⟨x_4, e_x_4, hp⟩ := bind_inv hp
   refine SL.eff (e_c Try.call14 (ok_fragment_Decode F b_1 _ e_x_4) [.g 0] [vs 0] (.u [.inr [ci .u16 x_4.1.CID, .s 3], .inl (ci .i64 x_4.2)]) (by kernel_rfl) (.inl rfl)) rfl (by kernel_rfl) ?_
   refine SL.sim tk 3 [(0, vs 0), (3, vp 2 0), (25, .g [ci .u16 x_4.1.CID, .s 3]), (26, vi .i64 x_4.2)] [] [] [] (by kernel_rfl) ?_
   refine SL.eff (e_alloc (E := 25) tk [ci .u16 0, nl] (by kernel_rfl)) rfl (by kernel_rfl) ?_
   refine SL.norm (itsN := [.rd 1 R8 b_1, .rd 1 R8 f_2.Payload, .blk 25 [ci .u16 f_2.CID, .s 1], .rd 1 R8 x_4.1.Payload, .blk 25 [ci .u16 0, nl]]) (by kernel_rfl) ?_
   refine SL.sim tk 2 [(0, vs 0), (3, vp 2 0), (5, vp 4 0), (6, vi .i64 x_4.2)] [(4, 25, [ci .u16 x_4.1.CID, .s 3])] [] [] (by kernel_rfl) ?_
   refine SL.nilThen ?_
   refine SC.cut (fun a w => wirelesslaw32_FragmentUnique_j1 F f_2 = some r ∧ A 88 2 fx [(3, vp 2 0)] [.gone, .rd 1 R8 f_2.Payload, .blk 25 [ci .u16 f_2.CID, .s 1]] a w) ?_ ?_
   · refine SC.r tk [(0, vs 0), (3, vp 2 0), (5, vp 4 0), (28, vb (x_4.2 == 0))] [] [] [] (by kernel_rfl) ?_
     refine SC.if' rfl hp (fun hp => ?_) (fun hp => ?_)
     · refine SC.seq ?_
       refine SC.reg ?_
       refine SL.sim tk 1 [(0, vs 0), (3, vp 2 0), (30, .g [ci .u16 x_4.1.CID, .s 3])] [] [] [] (by kernel_rfl) ?_
       obtain ⟨x_19, e_x_19, hp⟩ := bind_inv hp
       refine SL.eff (e_c Try.call11 (ok_fragment_Encode F x_4.1 _ e_x_19) [.g 3] [.g [ci .u16 x_4.1.CID, .s 3]] (.u [.inl (.s 5), .inl (ci .i64 x_19.2)]) (by kernel_rfl) (.inl rfl)) rfl (by kernel_rfl) ?_
       refine SL.sim tk 5 [(0, vs 0), (3, vp 2 0), (7, vs 5), (8, vi .i64 x_19.2)] [] [] [] (by kernel_rfl) ?_
       refine SL.nilThen ?_
       refine SC.seq ?_
       refine SC.reg ?_
       refine SL.sim tk 3 [(0, vs 0), (3, vp 2 0), (7, vs 5), (36, vb (x_19.2 != 0))] [] [] [] (by kernel_rfl) ?_
       obtain ⟨z_21, hz, hpr⟩ := bind_inv hp
       clear hp
       refine SL.cutAt 5 (fun a w => A 88 2 fx [(3, vp 2 0), (41, vb z_21)] [.gone, .rd 1 R8 f_2.Payload, .blk 25 [ci .u16 f_2.CID, .s 1]] a w) ?_ ?_
       · have hp := hz
         rcases Bool.eq_false_or_eq_true ((x_19.2 != 0)) with hg_20 | hg_20
         · replace hp := if_t hp hg_20
           refine SL.no rfl rfl hg_20 rfl ?_
           refine SL.no rfl rfl hg_20 rfl ?_
           refine SL.no rfl rfl hg_20 rfl ?_
           refine SL.no rfl rfl hg_20 rfl ?_
           refine SL.pickt rfl hg_20 rfl rfl ?_
           refine SL.nilJ fun a w h => ?_
           obtain rfl := some_inv' hp
           exact h.at (js := [.g 0, .g 1, .g 2]) (by kernel_rfl)
         · replace hp := if_f hp hg_20
           refine SL.yes rfl rfl hg_20 ?_
           refine SL.sim tk 1 [(3, vp 2 0), (7, vs 5), (36, vb (x_19.2 != 0)), (37, vs 0)] [] [] [] (by kernel_rfl) ?_
           refine SL.yes rfl rfl hg_20 ?_
           refine SL.sim tk 1 [(3, vp 2 0), (36, vb (x_19.2 != 0)), (37, vs 0), (38, vs 5)] [] [] [] (by kernel_rfl) ?_
           refine SL.yes rfl rfl hg_20 ?_
           obtain ⟨x_23, e_x_23, hp⟩ := bind_inv hp
           refine SL.eff (e_c Try.call13 (ok_wirelessref23_Same F b_1 x_19.1 _ e_x_23) [.g 0, .g 5] [vs 0, vs 5] (vb x_23) (by kernel_rfl) (.inl rfl)) rfl (by kernel_rfl) ?_
           refine SL.norm (itsN := [.rd 1 R8 b_1, .rd 1 R8 f_2.Payload, .blk 25 [ci .u16 f_2.CID, .s 1], .rd 1 R8 x_4.1.Payload, .blk 25 [ci .u16 x_4.1.CID, .s 3], .rd 1 R8 x_19.1]) (by kernel_rfl) ?_
           refine SL.yes rfl rfl hg_20 ?_
           refine SL.sim tk 1 [(3, vp 2 0), (36, vb (x_19.2 != 0)), (40, vb (!x_23))] [] [] [] (by kernel_rfl) ?_
           refine SL.pickf rfl hg_20 rfl rfl ?_
           refine SL.nilJ fun a w h => ?_
           obtain rfl := some_inv' hp
           exact h.at (js := [.g 0, .g 1, .g 2]) (by kernel_rfl)
       · intro a w h
         have hp := hpr; clear hpr hz
         refine h.goL ?_
         refine SL.nilThen ?_
         refine SC.if' rfl hp (fun hp => ?_) (fun hp => ?_)
         · refine SC.r tk [(4, vb false)] [] [] [] (by kernel_rfl) ?_
           obtain rfl := some_inv' hp
           exact SC.re (js := [.g 0, .g 1]) tk (by kernel_rfl)
         · refine SC.skipJ fun a w h => ?_
           exact ⟨hp, h.at (js := [.g 0, .g 1, .g 2]) (by kernel_rfl)⟩
     · refine SC.skipJ fun a w h => ?_
       exact ⟨hp, h.at (js := [.g 0, .g 1, .g 2]) (by kernel_rfl)⟩
   · rintro a w ⟨hp, h⟩
     refine h.go ?_
     refine SC.seq ?_
     refine SC.reg ?_
     refine SL.sim tk 1 [(3, vp 2 0), (43, .g [ci .u16 f_2.CID, .s 1])] [] [] [] (by kernel_rfl) ?_
     obtain ⟨x_5, e_x_5, hp⟩ := bind_inv hp
     refine SL.eff (e_c Try.call11 (ok_fragment_Encode F f_2 _ e_x_5) [.g 1] [.g [ci .u16 f_2.CID, .s 1]] (.u [.inl (.s 3), .inl (ci .i64 x_5.2)]) (by kernel_rfl) (.inl rfl)) rfl (by kernel_rfl) ?_
     refine SL.sim tk 5 [(3, vp 2 0), (6, vi .i64 x_5.2), (9, vs 3)] [] [] [] (by kernel_rfl) ?_
     refine SL.nilThen ?_
     refine SC.seq ?_
     refine SC.r tk [(3, vp 2 0), (9, vs 3), (48, vb (x_5.2 != 0))] [] [] [] (by kernel_rfl) ?_
     refine SC.if' rfl hp (fun hp => ?_) (fun hp => ?_)
     · refine SC.seq ?_
       refine SC.reg ?_
       refine SL.sim tk 4 [(52, vb ((len x_5.1) == 0))] [] [] [] (by kernel_rfl) ?_
       obtain ⟨z_7, hz, hpr⟩ := bind_inv hp
       clear hp
       refine SL.cutAt 2 (fun a w => A 88 2 fx [(54, vb z_7)] [.gone, .gone] a w) ?_ ?_
       · have hp := hz
         rcases Bool.eq_false_or_eq_true (((len x_5.1) == 0)) with hg_6 | hg_6
         · replace hp := if_t hp hg_6
           refine SL.yes rfl rfl hg_6 ?_
           obtain ⟨x_9, e_x_9, hp⟩ := bind_inv hp
           refine SL.eff (e_c Try.call10 (ok_wirelesslaw32_exampleHolds F  _ e_x_9) [] [] (vb x_9) (by kernel_rfl) (.inl rfl)) rfl (by kernel_rfl) ?_
           refine SL.norm (itsN := [.gone, .rd 1 R8 f_2.Payload, .blk 25 [ci .u16 f_2.CID, .s 1], .rd 1 R8 x_5.1]) (by kernel_rfl) ?_
           refine SL.pickt rfl hg_6 rfl rfl ?_
           refine SL.nilJ fun a w h => ?_
           obtain rfl := some_inv' hp
           exact h.at (js := [.g 0, .g 1]) (by kernel_rfl)
         · replace hp := if_f hp hg_6
           refine SL.no rfl rfl hg_6 rfl ?_
           refine SL.pickf rfl hg_6 rfl rfl ?_
           refine SL.nilJ fun a w h => ?_
           obtain rfl := some_inv' hp
           exact h.at (js := [.g 0, .g 1]) (by kernel_rfl)
       · intro a w h
         have hp := hpr; clear hpr hz
         refine h.goL ?_
         refine SL.sim tk 1 [(4, vb z_7)] [] [] [] (by kernel_rfl) ?_
         refine SL.nilThen ?_
         obtain rfl := some_inv' hp
         exact SC.re (js := [.g 0, .g 1]) tk (by kernel_rfl)
     · refine SC.skipThen ?_
       refine SC.seq ?_
       refine SC.reg ?_
       refine SL.sim tk 1 [(3, vp 2 0), (9, vs 3), (56, vs 3)] [] [] [] (by kernel_rfl) ?_
       obtain ⟨x_10, e_x_10, hp⟩ := bind_inv hp
       refine SL.eff (e_c Try.call14 (ok_fragment_Decode F x_5.1 _ e_x_10) [.g 3] [vs 3] (.u [.inr [ci .u16 x_10.1.CID, .s 4], .inl (ci .i64 x_10.2)]) (by kernel_rfl) (.inl rfl)) rfl (by kernel_rfl) ?_
       refine SL.norm (itsN := [.gone, .rd 1 R8 f_2.Payload, .blk 25 [ci .u16 f_2.CID, .s 1], .rd 1 R8 x_5.1, .rd 1 R8 x_10.1.Payload]) (by kernel_rfl) ?_
       refine SL.sim tk 3 [(3, vp 2 0), (9, vs 3), (58, .g [ci .u16 x_10.1.CID, .s 4]), (59, vi .i64 x_10.2)] [] [] [] (by kernel_rfl) ?_
       refine SL.eff (e_alloc (E := 25) tk [ci .u16 0, nl] (by kernel_rfl)) rfl (by kernel_rfl) ?_
       refine SL.sim tk 2 [(3, vp 2 0), (9, vs 3), (10, vp 5 0), (11, vi .i64 x_10.2)] [(5, 25, [ci .u16 x_10.1.CID, .s 4])] [] [] (by kernel_rfl) ?_
       refine SL.nilThen ?_
       refine SC.seq ?_
       refine SC.reg ?_
       refine SL.sim tk 10 [(3, vp 2 0), (9, vs 3), (10, vp 5 0), (69, vb ((x_10.2 == 0) && (x_10.1.CID == f_2.CID)))] [] [] [] (by kernel_rfl) ?_
       obtain ⟨z_12, hz, hpr⟩ := bind_inv hp
       clear hp
       refine SL.cutAt 6 (fun a w => A 88 2 fx [(3, vp 2 0), (9, vs 3), (75, vb z_12)] [.gone, .rd 1 R8 f_2.Payload, .blk 25 [ci .u16 f_2.CID, .s 1], .rd 1 R8 x_5.1] a w) ?_ ?_
       · have hp := hz
         rcases Bool.eq_false_or_eq_true (((x_10.2 == 0) && (x_10.1.CID == f_2.CID))) with hg_11 | hg_11
         · replace hp := if_t hp hg_11
           refine SL.yes rfl rfl hg_11 ?_
           refine SL.sim tk 1 [(3, vp 2 0), (9, vs 3), (69, vb ((x_10.2 == 0) && (x_10.1.CID == f_2.CID))), (70, vp 5 1)] [] [] [] (by kernel_rfl) ?_
           refine SL.yes rfl rfl hg_11 ?_
           refine SL.sim tk 1 [(3, vp 2 0), (9, vs 3), (69, vb ((x_10.2 == 0) && (x_10.1.CID == f_2.CID))), (71, vs 4)] [] [] [] (by kernel_rfl) ?_
           refine SL.yes rfl rfl hg_11 ?_
           refine SL.sim tk 1 [(3, vp 2 0), (9, vs 3), (69, vb ((x_10.2 == 0) && (x_10.1.CID == f_2.CID))), (71, vs 4), (72, vp 2 1)] [] [] [] (by kernel_rfl) ?_
           refine SL.yes rfl rfl hg_11 ?_
           refine SL.sim tk 1 [(3, vp 2 0), (9, vs 3), (69, vb ((x_10.2 == 0) && (x_10.1.CID == f_2.CID))), (71, vs 4), (73, vs 1)] [] [] [] (by kernel_rfl) ?_
           refine SL.yes rfl rfl hg_11 ?_
           obtain ⟨x_18, e_x_18, hp⟩ := bind_inv hp
           refine SL.eff (e_c Try.call13 (ok_wirelessref23_Same F x_10.1.Payload f_2.Payload _ e_x_18) [.g 4, .g 1] [vs 4, vs 1] (vb x_18) (by kernel_rfl) (.inl rfl)) rfl (by kernel_rfl) ?_
           refine SL.norm (itsN := [.gone, .rd 1 R8 f_2.Payload, .blk 25 [ci .u16 f_2.CID, .s 1], .rd 1 R8 x_5.1, .rd 1 R8 x_10.1.Payload, .blk 25 [ci .u16 x_10.1.CID, .s 4]]) (by kernel_rfl) ?_
           refine SL.pickt rfl hg_11 rfl rfl ?_
           refine SL.nilJ fun a w h => ?_
           obtain rfl := some_inv' hp
           exact h.at (js := [.g 0, .g 1, .g 2, .g 3]) (by kernel_rfl)
         · replace hp := if_f hp hg_11
           refine SL.no rfl rfl hg_11 rfl ?_
           refine SL.no rfl rfl hg_11 rfl ?_
           refine SL.no rfl rfl hg_11 rfl ?_
           refine SL.no rfl rfl hg_11 rfl ?_
           refine SL.no rfl rfl hg_11 rfl ?_
           refine SL.pickf rfl hg_11 rfl rfl ?_
           refine SL.nilJ fun a w h => ?_
           obtain rfl := some_inv' hp
           exact h.at (js := [.g 0, .g 1, .g 2, .g 3]) (by kernel_rfl)
       · intro a w h
         have hp := hpr; clear hpr hz
         refine h.goL ?_
         refine SL.sim tk 10 [(85, vb (z_12 && ((len x_5.1) == (w64 ((len f_2.Payload) + 4)))))] [] [] [] (by kernel_rfl) ?_
         obtain ⟨z_14, hz, hpr⟩ := bind_inv hp
         clear hp
         refine SL.cutAt 2 (fun a w => A 88 2 fx [(87, vb z_14)] [.gone, .gone] a w) ?_ ?_
         · have hp := hz
           rcases Bool.eq_false_or_eq_true ((z_12 && ((len x_5.1) == (w64 ((len f_2.Payload) + 4))))) with hg_13 | hg_13
           · replace hp := if_t hp hg_13
             refine SL.yes rfl rfl hg_13 ?_
             obtain ⟨x_16, e_x_16, hp⟩ := bind_inv hp
             refine SL.eff (e_c Try.call10 (ok_wirelesslaw32_exampleHolds F  _ e_x_16) [] [] (vb x_16) (by kernel_rfl) (.inl rfl)) rfl (by kernel_rfl) ?_
             refine SL.pickt rfl hg_13 rfl rfl ?_
             refine SL.nilJ fun a w h => ?_
             obtain rfl := some_inv' hp
             exact h.at (js := [.g 0, .g 1]) (by kernel_rfl)
           · replace hp := if_f hp hg_13
             refine SL.no rfl rfl hg_13 rfl ?_
             refine SL.pickf rfl hg_13 rfl rfl ?_
             refine SL.nilJ fun a w h => ?_
             obtain rfl := some_inv' hp
             exact h.at (js := [.g 0, .g 1]) (by kernel_rfl)
         · intro a w h
           have hp := hpr; clear hpr hz
           refine h.goL ?_
           refine SL.sim tk 1 [(4, vb z_14)] [] [] [] (by kernel_rfl) ?_
           refine SL.nilThen ?_
           obtain rfl := some_inv' hp
           exact SC.re (js := [.g 0, .g 1]) tk (by kernel_rfl)

theorem ok_wirelesslaw32_FragmentRecovers (F : Nat) (l_1 : (List T_api_Packet)) (f_2 : T_api_Frame) (most_3 : Int) (r : Bool) (hp : wirelesslaw32_FragmentRecovers F l_1 f_2 most_3 = some r) : Spec Try.prog 9 [vs 0, .g [ci .u16 f_2.CID, .s 1], vi .i64 most_3] [.rd 2 R_T_api_Packet l_1, .rd 1 R8 f_2.Payload] (vb r) [.gone, .gone] := by
 refine Spec.enter Try.func9 rfl Try.ntmps9 rfl rfl fun fx => ?_
 refine SC.seq ?_
 refine SC.reg ?_
 refine SL.eff (e_box (E := 25) [ci .u16 f_2.CID, .s 1] (by kernel_rfl)) rfl (by kernel_rfl) ?_
 refine SL.sim tk 1 [(0, vs 0), (2, vi .i64 most_3), (4, vp 2 0)] [] [] [] (by kernel_rfl) ?_
 refine SL.nilThen ?_
 refine SC.seq ?_
 refine SC.seq ?_
 refine SC.reg ?_
 refine SL.sim tk 1 [(0, vs 0), (2, vi .i64 most_3), (4, vp 2 0), (16, vs 0)] [] [] [] (by kernel_rfl) ?_
 obtain ⟨x_4, e_x_4, hp⟩ := bind_inv hp
 refine SL.eff (e_c Try.call19 (ok_wirelesslaw32_light F l_1 _ e_x_4) [.g 0] [vs 0] (vb x_4) (by kernel_rfl) (.inl rfl)) rfl (by kernel_rfl) ?_
 refine SL.sim tk 20 [(0, vs 0), (2, vi .i64 most_3), (4, vp 2 0), (37, vb (((((!x_4) || (f_2.CID == 0)) || (decide ((len f_2.Payload) > 4096))) || (decide (most_3 < 1))) || (decide (most_3 > 251))))] [] [] [] (by kernel_rfl) ?_
 refine SL.nilThen ?_
 refine SC.if' rfl hp (fun hp => ?_) (fun hp => ?_)
 · refine SC.seq ?_
   refine SC.reg ?_
   obtain ⟨x_5, e_x_5, hp⟩ := bind_inv hp
   refine SL.eff (e_c Try.call10 (ok_wirelesslaw32_exampleHolds F  _ e_x_5) [] [] (vb x_5) (by kernel_rfl) (.inl rfl)) rfl (by kernel_rfl) ?_
   refine SL.norm (itsN := [.rd 2 R_T_api_Packet l_1, .rd 1 R8 f_2.Payload, .blk 25 [ci .u16 f_2.CID, .s 1]]) (by kernel_rfl) ?_
   refine SL.sim tk 1 [(6, vb x_5)] [] [] [] (by kernel_rfl) ?_
   refine SL.nilThen ?_
   obtain rfl := some_inv' hp
   exact SC.re (js := [.g 0, .g 1]) tk (by kernel_rfl)
 · refine SC.skipThen ?_
   refine SC.seq ?_
   refine SC.reg ?_
   refine SL.eff (e_alloc (E := 41) tk [cb false, nl] (by kernel_rfl)) rfl (by kernel_rfl) ?_
   refine SL.norm (itsN := [.rd 2 R_T_api_Packet l_1, .rd 1 R8 f_2.Payload, .blk 25 [ci .u16 f_2.CID, .s 1], .blk 41 [cb false, nl]]) (by kernel_rfl) ?_
   refine SL.nilThen ?_
   refine SC.cut (fun a w => ∃ (c_8 : T_api_Assembler), wirelesslaw32_FragmentRecovers_j1 F f_2 most_3 c_8 = some r ∧ A 101 2 fx [(2, vi .i64 most_3), (4, vp 2 0), (7, vp 3 0)] [.gone, .rd 1 R8 f_2.Payload, .blk 25 [ci .u16 f_2.CID, .s 1], .blk 41 [cb c_8.On, .s 4], .rd 1 R8 c_8.Buffer] a w) ?_ ?_
   · refine SC.r tk [(0, vs 0), (2, vi .i64 most_3), (4, vp 2 0), (7, vp 3 0), (8, vi .i64 0)] [] [] [] (by kernel_rfl) ?_
     refine SC.block ?_
     obtain ⟨o2, hi2, ho2⟩ := bind_inv hp
     clear hp
     refine SC.loop (fun n a w => ∃ (c_37 : T_api_Assembler) (x_38 : Int), iter (fun s => wirelesslaw32_FragmentRecovers_l2 F l_1 s.1 s.2) n (c_37, x_38) = some o2 ∧ A 101 2 fx [(0, vs 0), (2, vi .i64 most_3), (4, vp 2 0), (7, vp 3 0), (8, vi .i64 x_38)] [.rd 2 R_T_api_Packet l_1, .rd 1 R8 f_2.Payload, .blk 25 [ci .u16 f_2.CID, .s 1], .blk 41 [cb c_37.On, .s 4], .rd 1 R8 c_37.Buffer] a w) F (fun a w h => ⟨(T_api_Assembler.mk false []), 0, hi2, h.at (js := [.g 0, .g 1, .g 2, .g 3, .n]) (by kernel_rfl)⟩) ?_
     rintro n2 a w ⟨c_37, x_38, hi2, h⟩
     obtain ⟨n2, q2, rfl, hp, hs2⟩ := iter_inv hi2
     replace hp : wirelesslaw32_FragmentRecovers_l2 F l_1 c_37 x_38 = some q2 := hp
     clear hi2
     refine h.go ?_
     refine SC.seq ?_
     refine SC.r tk [(0, vs 0), (2, vi .i64 most_3), (4, vp 2 0), (7, vp 3 0), (8, vi .i64 x_38), (42, vb (decide (x_38 < (len l_1))))] [] [] [] (by kernel_rfl) ?_
     refine SC.if' rfl hp (fun hp => ?_) (fun hp => ?_)
     · refine SC.skipThen ?_
       refine SC.seq ?_
       refine SC.block ?_
       obtain ⟨x_39, e_x_39, hp⟩ := bind_inv hp
       refine SC.pre (pre_ix (i := 0) (iv := x_38) (sz := 2) (R := R_T_api_Packet) (l := l_1) (by kernel_rfl) rfl e_x_39) ?_
       refine SC.draw MO [true, true, true, false, true, true, true] (by kernel_rfl) fun kap_40 D_41 => ?_
       refine SD.takes tk D_41 [] kn0 [1, 2, 3, 4] [.el 5] [x_38] [false, true, true, true, true, false, false, false, false, false, false] [(0, vs 0), (2, vi .i64 most_3), (4, vp 2 0), (7, vp 3 0), (8, vi .i64 x_38), (50, .g [ci .i64 x_39.LLID, .s 6])] rfl (by kernel_rfl) (by kernel_rfl) (by kernel_rfl) ?_
       refine SD.all1 (i := 0) (by kernel_rfl) ?_
       refine SW.eff D_41 (i := 0) (v := .g [cb c_37.On, .s 4]) (bs' := [true, true, true, true, true, false, false, false, false, false, false]) rfl (.inl rfl) rfl (e_val tk (by kernel_rfl)) (by kernel_rfl) rfl (by kernel_rfl) ?_
       obtain ⟨x_42, e_x_42, hp⟩ := bind_inv hp
       refine SD.all1 (i := 5) (by kernel_rfl) ?_
       refine SW.eff D_41 (i := 5) (bs' := [true, true, true, true, true, true, false, false, false, false, false]) rfl (.inl rfl) rfl (e_c Try.call21 (ok_fragment_Feed F c_37 x_39 _ e_x_42) [.g 4, .g 6] [.g [cb c_37.On, .s 4], .g [ci .i64 x_39.LLID, .s 6]] (.u [.inr [cb x_42.1.On, .s 7], .inl (.s 8), .inl (ci .i64 x_42.2.2)]) (by kernel_rfl) (.inl rfl)) (by kernel_rfl) rfl (by kernel_rfl) ?_
       refine SD.norm (itsN := [.rd 2 R_T_api_Packet l_1, .rd 1 R8 f_2.Payload, .blk 25 [ci .u16 f_2.CID, .s 1], .blk 41 [cb c_37.On, .s 4], .rd 1 R8 c_37.Buffer, .elt (some (0, x_38)) false [ci .i64 x_39.LLID, .s 6], .rd 1 R8 x_39.Payload, .rd 1 R8 x_42.1.Buffer, .rd 2 R_T_api_Frame x_42.2.1]) (by kernel_rfl) ?_
       refine SD.takes tk D_41 [] kn0 [6, 7, 8, 9] [] [] [true, true, true, true, true, true, true, true, true, true, false] [(0, vs 0), (2, vi .i64 most_3), (4, vp 2 0), (7, vp 3 0), (8, vi .i64 x_38), (52, .g [cb x_42.1.On, .s 7])] rfl (by kernel_rfl) (by kernel_rfl) (by kernel_rfl) ?_
       refine SD.all1 (i := 10) (by kernel_rfl) ?_
       refine SW.store D_41 tk (i := 10) (q := 3) (T := 41) (cs := [cb x_42.1.On, .s 7]) (bs' := [true, true, true, true, true, true, true, true, true, true, true]) rfl (by kernel_rfl) rfl rfl (by kernel_rfl) ?_
       refine SD.doneThen (by kernel_rfl) ?_
       refine SC.reg ?_
       refine SL.sim tk 3 [(0, vs 0), (2, vi .i64 most_3), (4, vp 2 0), (7, vp 3 0), (8, vi .i64 (w64 (x_38 + 1)))] [] [] [] (by kernel_rfl) ?_
       refine SL.nilJ fun a w h => ?_
       exact ⟨n2, Nat.lt_succ_self _, x_42.1, w64 (x_38 + 1), next_inv hp hs2, h.at (js := [.g 0, .g 1, .g 2, .g 3, .g 7]) (by kernel_rfl)⟩
     · refine SC.exitJ rfl fun a w h => ?_
       have ho := done_inv hp hs2
       replace hp := ho2
       try rw [ho] at hp
       exact ⟨c_37, hp, h.at (js := [.g 0, .g 1, .g 2, .g 3, .g 4]) (by kernel_rfl)⟩
   · rintro a w ⟨c_8, hp, h⟩
     refine h.go ?_
     refine SC.seq ?_
     refine SC.reg ?_
     refine SL.sim tk 2 [(4, vp 2 0), (7, vp 3 0), (56, .g [ci .u16 f_2.CID, .s 1]), (57, vi .i64 most_3)] [] [] [] (by kernel_rfl) ?_
     obtain ⟨x_9, e_x_9, hp⟩ := bind_inv hp
     refine SL.eff (e_c Try.call16 (ok_fragment_Split F f_2 most_3 _ e_x_9) [.g 1] [.g [ci .u16 f_2.CID, .s 1], vi .i64 most_3] (.u [.inl (.s 5), .inl (ci .i64 x_9.2)]) (by kernel_rfl) (.inl rfl)) rfl (by kernel_rfl) ?_
     refine SL.sim tk 5 [(4, vp 2 0), (7, vp 3 0), (9, vs 5), (10, vi .i64 x_9.2)] [] [] [] (by kernel_rfl) ?_
     refine SL.nilThen ?_
     refine SC.seq ?_
     refine SC.r tk [(4, vp 2 0), (7, vp 3 0), (9, vs 5), (62, vb (x_9.2 != 0))] [] [] [] (by kernel_rfl) ?_
     refine SC.if' rfl hp (fun hp => ?_) (fun hp => ?_)
     · refine SC.r tk [(6, vb false)] [] [] [] (by kernel_rfl) ?_
       obtain rfl := some_inv' hp
       exact SC.re (js := [.g 0, .g 1]) tk (by kernel_rfl)
     · refine SC.skipThen ?_
       refine SC.r tk [(4, vp 2 0), (7, vp 3 0), (9, vs 5), (11, vn)] [] [] [] (by kernel_rfl) ?_
       refine SC.cut (fun a w => ∃ (c_12 : T_api_Assembler) (l_13 : (List T_api_Frame)), wirelesslaw32_FragmentRecovers_j2 F f_2 c_12 l_13 = some r ∧ A 101 2 fx [(4, vp 2 0), (7, vp 3 0), (11, vs 5)] [.gone, .rd 1 R8 f_2.Payload, .blk 25 [ci .u16 f_2.CID, .s 1], .blk 41 [cb c_12.On, .s 4], .rd 1 R8 c_12.Buffer, .own 2 25 R_T_api_Frame l_13] a w) ?_ ?_
       · refine SC.r tk [(4, vp 2 0), (7, vp 3 0), (9, vs 5), (11, vn), (12, vi .i64 0)] [] [] [] (by kernel_rfl) ?_
         refine SC.block ?_
         obtain ⟨o1, hi1, ho1⟩ := bind_inv hp
         clear hp
         refine SC.loop (fun n a w => ∃ (c_21 : T_api_Assembler) (l_22 : (List T_api_Frame)) (x_23 : Int), iter (fun s => wirelesslaw32_FragmentRecovers_l1 F x_9 s.1 s.2.1 s.2.2) n (c_21, l_22, x_23) = some o1 ∧ A 101 2 fx [(4, vp 2 0), (7, vp 3 0), (9, vs 5), (11, vs 6), (12, vi .i64 x_23)] [.gone, .rd 1 R8 f_2.Payload, .blk 25 [ci .u16 f_2.CID, .s 1], .blk 41 [cb c_21.On, .s 4], .rd 1 R8 c_21.Buffer, .rd 2 R_T_api_Packet x_9.1, .own 2 25 R_T_api_Frame l_22] a w) F (fun a w h => ⟨c_8, [], 0, hi1, h.at (js := [.g 0, .g 1, .g 2, .g 3, .g 4, .g 5, .n]) (by kernel_rfl)⟩) ?_
         rintro n1 a w ⟨c_21, l_22, x_23, hi1, h⟩
         obtain ⟨n1, q1, rfl, hp, hs1⟩ := iter_inv hi1
         replace hp : wirelesslaw32_FragmentRecovers_l1 F x_9 c_21 l_22 x_23 = some q1 := hp
         clear hi1
         refine h.go ?_
         refine SC.seq ?_
         refine SC.r tk [(4, vp 2 0), (7, vp 3 0), (9, vs 5), (11, vs 6), (12, vi .i64 x_23), (66, vb (decide (x_23 < (len x_9.1))))] [] [] [] (by kernel_rfl) ?_
         refine SC.if' rfl hp (fun hp => ?_) (fun hp => ?_)
         · refine SC.skipThen ?_
           refine SC.seq ?_
           refine SC.block ?_
           refine SC.cut (fun a w => ∃ (c_26 : T_api_Assembler) (l_27 : (List T_api_Frame)) (x_28 : Int), wirelesslaw32_FragmentRecovers_j3 F l_22 x_23 c_26 l_27 x_28 = some q1 ∧ A 101 2 fx [(4, vp 2 0), (7, vp 3 0), (9, vs 5), (11, vs 6), (12, vi .i64 x_23), (13, vp 7 0), (14, vs 9), (15, vi .i64 x_28)] [.gone, .rd 1 R8 f_2.Payload, .blk 25 [ci .u16 f_2.CID, .s 1], .blk 41 [cb c_21.On, .s 4], .rd 1 R8 c_21.Buffer, .rd 2 R_T_api_Packet x_9.1, .own 2 25 R_T_api_Frame l_22, .blk 41 [cb c_26.On, .s 8], .rd 1 R8 c_26.Buffer, .rd 2 R_T_api_Frame l_27] a w) ?_ ?_
           · obtain ⟨x_30, e_x_30, hp⟩ := bind_inv hp
             refine SC.pre (pre_ix (i := 5) (iv := x_23) (sz := 2) (R := R_T_api_Packet) (l := x_9.1) (by kernel_rfl) rfl e_x_30) ?_
             refine SC.draw MO [false, true, true, true, true, true, true, true, true] (by kernel_rfl) fun kap_31 D_32 => ?_
             refine SD.takes tk D_32 [] kn0 [0, 1, 2, 3, 4] [.el 7] [x_23] [true, true, true, true, true, false, false, false, false, false, false, false, false, false] [(4, vp 2 0), (7, vp 3 0), (9, vs 5), (11, vs 6), (12, vi .i64 x_23), (70, .g [cb c_21.On, .s 4]), (74, .g [ci .i64 x_30.LLID, .s 8])] rfl (by kernel_rfl) (by kernel_rfl) (by kernel_rfl) ?_
             refine SD.all2 (i := 5) (j := 10) (by kernel_rfl) ?_ ?_
             · obtain ⟨x_33, e_x_33, hp⟩ := bind_inv hp
               refine SW.eff D_32 (i := 5) (bs' := [true, true, true, true, true, true, false, false, false, false, false, false, false, false]) rfl (.inl rfl) rfl (e_c Try.call21 (ok_fragment_Feed F c_21 x_30 _ e_x_33) [.g 4, .g 8] [.g [cb c_21.On, .s 4], .g [ci .i64 x_30.LLID, .s 8]] (.u [.inr [cb x_33.1.On, .s 9], .inl (.s 10), .inl (ci .i64 x_33.2.2)]) (by kernel_rfl) (.inl rfl)) (by kernel_rfl) rfl (by kernel_rfl) ?_
               refine SD.takes tk D_32 [] kn0 [6, 7, 8, 9] [] [] [true, true, true, true, true, true, true, true, true, true, false, false, false, false] [(4, vp 2 0), (7, vp 3 0), (9, vs 5), (11, vs 6), (12, vi .i64 x_23), (76, .g [cb x_33.1.On, .s 9]), (77, vs 10), (78, vi .i64 x_33.2.2)] rfl (by kernel_rfl) (by kernel_rfl) (by kernel_rfl) ?_
               refine SD.all1 (i := 10) (by kernel_rfl) ?_
               refine SW.eff D_32 (i := 10) (bs' := [true, true, true, true, true, true, true, true, true, true, true, false, false, false]) rfl (.inl rfl) rfl (e_alloc (E := 41) tk [cb false, nl] (by kernel_rfl)) (by kernel_rfl) rfl (by kernel_rfl) ?_
               refine SD.norm (itsN := [.gone, .rd 1 R8 f_2.Payload, .blk 25 [ci .u16 f_2.CID, .s 1], .blk 41 [cb c_21.On, .s 4], .rd 1 R8 c_21.Buffer, .rd 2 R_T_api_Packet x_9.1, .own 2 25 R_T_api_Frame l_22, .elt (some (5, x_23)) false [ci .i64 x_30.LLID, .s 8], .rd 1 R8 x_30.Payload, .rd 1 R8 x_33.1.Buffer, .rd 2 R_T_api_Frame x_33.2.1, .blk 41 [cb false, nl]]) (by kernel_rfl) ?_
               refine SD.all1 (i := 11) (by kernel_rfl) ?_
               refine SW.store D_32 tk (i := 11) (q := 11) (T := 41) (cs := [cb x_33.1.On, .s 9]) (bs' := [true, true, true, true, true, true, true, true, true, true, true, true, false, false]) rfl (by kernel_rfl) rfl rfl (by kernel_rfl) ?_
               refine SD.takes tk D_32 [] kn0 [12, 13] [] [] [true, true, true, true, true, true, true, true, true, true, true, true, true, true] [(4, vp 2 0), (7, vp 3 0), (9, vs 5), (11, vs 6), (12, vi .i64 x_23), (13, vp 11 0), (14, vs 10), (15, vi .i64 x_33.2.2)] rfl (by kernel_rfl) (by kernel_rfl) (by kernel_rfl) ?_
               refine SD.done (by kernel_rfl) fun a w h => ?_
               exact ⟨x_33.1, x_33.2.1, x_33.2.2, hp, h.at (js := [.g 0, .g 1, .g 2, .g 3, .g 4, .g 5, .g 6, .g 11, .g 9, .g 10]) (by kernel_rfl)⟩
             · refine SW.eff D_32 (i := 10) (bs' := [true, true, true, true, true, false, false, false, false, false, true, false, false, false]) rfl (.inl rfl) rfl (e_alloc (E := 41) tk [cb false, nl] (by kernel_rfl)) (by kernel_rfl) rfl (by kernel_rfl) ?_
               obtain ⟨x_34, e_x_34, hp⟩ := bind_inv hp
               refine SD.all1 (i := 5) (by kernel_rfl) ?_
               refine SW.eff D_32 (i := 5) (bs' := [true, true, true, true, true, true, false, false, false, false, true, false, false, false]) rfl (.inl rfl) rfl (e_c Try.call21 (ok_fragment_Feed F c_21 x_30 _ e_x_34) [.g 4, .g 8] [.g [cb c_21.On, .s 4], .g [ci .i64 x_30.LLID, .s 8]] (.u [.inr [cb x_34.1.On, .s 10], .inl (.s 11), .inl (ci .i64 x_34.2.2)]) (by kernel_rfl) (.inl rfl)) (by kernel_rfl) rfl (by kernel_rfl) ?_
               refine SD.norm (itsN := [.gone, .rd 1 R8 f_2.Payload, .blk 25 [ci .u16 f_2.CID, .s 1], .blk 41 [cb c_21.On, .s 4], .rd 1 R8 c_21.Buffer, .rd 2 R_T_api_Packet x_9.1, .own 2 25 R_T_api_Frame l_22, .elt (some (5, x_23)) false [ci .i64 x_30.LLID, .s 8], .rd 1 R8 x_30.Payload, .blk 41 [cb false, nl], .rd 1 R8 x_34.1.Buffer, .rd 2 R_T_api_Frame x_34.2.1]) (by kernel_rfl) ?_
               refine SD.takes tk D_32 [] kn0 [6, 7, 8, 9] [] [] [true, true, true, true, true, true, true, true, true, true, true, false, false, false] [(4, vp 2 0), (7, vp 3 0), (9, vs 5), (11, vs 6), (12, vi .i64 x_23), (13, vp 9 0), (76, .g [cb x_34.1.On, .s 10]), (77, vs 11), (78, vi .i64 x_34.2.2)] rfl (by kernel_rfl) (by kernel_rfl) (by kernel_rfl) ?_
               refine SD.all1 (i := 11) (by kernel_rfl) ?_
               refine SW.store D_32 tk (i := 11) (q := 9) (T := 41) (cs := [cb x_34.1.On, .s 10]) (bs' := [true, true, true, true, true, true, true, true, true, true, true, true, false, false]) rfl (by kernel_rfl) rfl rfl (by kernel_rfl) ?_
               refine SD.takes tk D_32 [] kn0 [12, 13] [] [] [true, true, true, true, true, true, true, true, true, true, true, true, true, true] [(4, vp 2 0), (7, vp 3 0), (9, vs 5), (11, vs 6), (12, vi .i64 x_23), (13, vp 9 0), (14, vs 11), (15, vi .i64 x_34.2.2)] rfl (by kernel_rfl) (by kernel_rfl) (by kernel_rfl) ?_
               refine SD.done (by kernel_rfl) fun a w h => ?_
               exact ⟨x_34.1, x_34.2.1, x_34.2.2, hp, h.at (js := [.g 0, .g 1, .g 2, .g 3, .g 4, .g 5, .g 6, .g 9, .g 10, .g 11]) (by kernel_rfl)⟩
           · rintro a w ⟨c_26, l_27, x_28, hp, h⟩
             refine h.go ?_
             refine SC.seq ?_
             refine SC.r tk [(4, vp 2 0), (7, vp 3 0), (9, vs 5), (11, vs 6), (12, vi .i64 x_23), (13, vp 7 0), (14, vs 9), (84, vb ((x_28 != 0) && (decide (x_23 > 0))))] [] [] [] (by kernel_rfl) ?_
             refine SC.if' rfl hp (fun hp => ?_) (fun hp => ?_)
             · refine SC.r tk [(6, vb false)] [] [] [] (by kernel_rfl) ?_
               have ho := done_inv hp hs1
               replace hp := ho1
               try rw [ho] at hp
               obtain rfl := some_inv' hp
               exact SC.re (js := [.g 0, .g 1]) tk (by kernel_rfl)
             · refine SC.skipThen ?_
               refine SC.seq ?_
               refine SC.reg ?_
               refine SL.sim tk 2 [(4, vp 2 0), (7, vp 3 0), (9, vs 5), (11, vs 6), (12, vi .i64 x_23), (13, vp 7 0), (85, vs 6), (86, vs 9)] [] [] [] (by kernel_rfl) ?_
               obtain ⟨l_29, e_l_29, hp⟩ := bind_inv hp
               refine SL.eff (e_app (i := 6) (l := l_22) (sz := 2) (E := 25) (R := R_T_api_Frame) (by_ := 32) (m := l_27) tk rfl (by kernel_rfl) rfl (.r (by kernel_rfl)) e_l_29 (by kernel_rfl)) rfl (by kernel_rfl) ?_
               refine SL.sim tk 1 [(4, vp 2 0), (7, vp 3 0), (9, vs 5), (11, vs 10), (12, vi .i64 x_23), (13, vp 7 0)] [] [] [] (by kernel_rfl) ?_
               refine SL.nilThen ?_
               refine SC.reg ?_
               refine SL.sim tk 2 [(4, vp 2 0), (7, vp 3 0), (9, vs 5), (11, vs 10), (12, vi .i64 x_23)] [(3, 41, [cb c_26.On, .s 8])] [] [] (by kernel_rfl) ?_
               refine SL.nilThen ?_
               refine SC.reg ?_
               refine SL.sim tk 3 [(4, vp 2 0), (7, vp 3 0), (9, vs 5), (11, vs 10), (12, vi .i64 (w64 (x_23 + 1)))] [] [] [] (by kernel_rfl) ?_
               refine SL.nilJ fun a w h => ?_
               exact ⟨n1, Nat.lt_succ_self _, c_26, l_29, w64 (x_23 + 1), next_inv hp hs1, h.at (js := [.g 0, .g 1, .g 2, .g 3, .g 8, .g 5, .g 10]) (by kernel_rfl)⟩
         · refine SC.exitJ rfl fun a w h => ?_
           have ho := done_inv hp hs1
           replace hp := ho1
           try rw [ho] at hp
           exact ⟨c_21, l_22, hp, h.at (js := [.g 0, .g 1, .g 2, .g 3, .g 4, .g 6]) (by kernel_rfl)⟩
       · rintro a w ⟨c_12, l_13, hp, h⟩
         refine h.go ?_
         refine SC.seq ?_
         refine SC.reg ?_
         refine SL.sim tk 2 [(7, vp 3 0), (89, vs 5), (90, .g [ci .u16 f_2.CID, .s 1])] [] [] [] (by kernel_rfl) ?_
         refine SL.eff (e_lit (sz := 2) (E := 25) (R := R_T_api_Frame) (by_ := 32) tk [[ci .u16 f_2.CID, .s 1]] [f_2] (by kernel_rfl) ⟨(clo_T_api_Frame (x := f_2) (Clo.sl (by kernel_rfl))), trivial⟩ rfl (by kernel_rfl) (by kernel_rfl)) rfl (by kernel_rfl) ?_
         obtain ⟨x_14, e_x_14, hp⟩ := bind_inv hp
         refine SL.eff (e_c Try.call24 (ok_wirelessref32_SameFrames F l_13 [f_2] _ e_x_14) [.l 5, .l 6] [vs 5, vs 6] (vb x_14) (by kernel_rfl) (.inr ⟨trivial, trivial, trivial⟩)) rfl (by kernel_rfl) ?_
         refine SL.sim tk 6 [(98, vb (x_14 && (!c_12.On)))] [] [] [] (by kernel_rfl) ?_
         obtain ⟨z_16, hz, hpr⟩ := bind_inv hp
         clear hp
         refine SL.cutAt 2 (fun a w => A 101 2 fx [(100, vb z_16)] [.gone, .gone] a w) ?_ ?_
         · have hp := hz
           rcases Bool.eq_false_or_eq_true ((x_14 && (!c_12.On))) with hg_15 | hg_15
           · replace hp := if_t hp hg_15
             refine SL.yes rfl rfl hg_15 ?_
             obtain ⟨x_18, e_x_18, hp⟩ := bind_inv hp
             refine SL.eff (e_c Try.call10 (ok_wirelesslaw32_exampleHolds F  _ e_x_18) [] [] (vb x_18) (by kernel_rfl) (.inl rfl)) rfl (by kernel_rfl) ?_
             refine SL.norm (itsN := [.gone, .rd 1 R8 f_2.Payload, .blk 25 [ci .u16 f_2.CID, .s 1], .blk 41 [cb c_12.On, .s 4], .rd 1 R8 c_12.Buffer, .own 2 25 R_T_api_Frame l_13, .own 2 25 R_T_api_Frame [f_2]]) (by kernel_rfl) ?_
             refine SL.pickt rfl hg_15 rfl rfl ?_
             refine SL.nilJ fun a w h => ?_
             obtain rfl := some_inv' hp
             exact h.at (js := [.g 0, .g 1]) (by kernel_rfl)
           · replace hp := if_f hp hg_15
             refine SL.no rfl rfl hg_15 rfl ?_
             refine SL.pickf rfl hg_15 rfl rfl ?_
             refine SL.nilJ fun a w h => ?_
             obtain rfl := some_inv' hp
             exact h.at (js := [.g 0, .g 1]) (by kernel_rfl)
         · intro a w h
           have hp := hpr; clear hpr hz
           refine h.goL ?_
           refine SL.sim tk 1 [(6, vb z_16)] [] [] [] (by kernel_rfl) ?_
           refine SL.nilThen ?_
           obtain rfl := some_inv' hp
           exact SC.re (js := [.g 0, .g 1]) tk (by kernel_rfl)
end V
end Go.Proofs.Ytpcckohcoajenaa
