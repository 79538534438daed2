/-
  Walks, written by program: each Go function returns what its pure twin says.
-/
import Derived.Test.YtchlimkophmjlaaW0
namespace Go.Proofs.Ytchlimkophmjlaa
namespace V
theorem ok_database_Build (F : Nat) (l_1 : (List T_api_Service)) (first_2 : Int) (r : (List T_api_Attribute) × Int) (hp : database_Build F l_1 first_2 = some r) : Spec Try.prog 15 [vs 0, vi .u16 first_2] [.rd 4 R_T_api_Service l_1] (.u [.inl (.s 1), .inl (ci .i64 r.2)]) [.gone, .rd 5 R_T_api_Attribute r.1] := by
 refine Spec.enter Try.func15 rfl Try.ntmps15 rfl rfl fun fx => ?_
 refine SC.r tk [(0, vs 0), (1, vi .u16 first_2)] [] [] [] (by kernel_rfl) ?_
 refine SC.seq ?_
 refine SC.r tk [(0, vs 0), (1, vi .u16 first_2), (20, vb (first_2 == 0))] [] [] [] (by kernel_rfl) ?_
 refine SC.if' rfl hp (fun hp => ?_) (fun hp => ?_)
 · refine SC.r tk [(4, vn), (5, vi .i64 5)] [] [] [] (by kernel_rfl) ?_
   obtain rfl := some_inv' hp
   exact SC.re (js := [.g 0, .n]) tk (by kernel_rfl)
 · refine SC.skipThen ?_
   refine SC.seq ?_
   refine SC.reg ?_
   refine SL.sim tk 1 [(0, vs 0), (1, vi .u16 first_2), (22, vs 0)] [] [] [] (by kernel_rfl) ?_
   obtain ⟨x_3, e_x_3, hp⟩ := bind_inv hp
   refine SL.eff (e_c Try.call39 (ok_database_count F l_1 _ e_x_3) [.g 0] [vs 0] (.u [.inl (ci .i64 x_3.1), .inl (ci .i64 x_3.2)]) (by kernel_rfl) (.inl rfl)) rfl (by kernel_rfl) ?_
   refine SL.sim tk 5 [(0, vs 0), (1, vi .u16 first_2), (6, vi .i64 x_3.1), (7, vi .i64 x_3.2)] [] [] [] (by kernel_rfl) ?_
   refine SL.nilThen ?_
   refine SC.seq ?_
   refine SC.block ?_
   refine SC.r tk [(0, vs 0), (1, vi .u16 first_2), (6, vi .i64 x_3.1), (7, vi .i64 x_3.2), (26, vb (x_3.2 != 0))] [] [] [] (by kernel_rfl) ?_
   refine SC.if' rfl hp (fun hp => ?_) (fun hp => ?_)
   · refine SC.r tk [(4, vn), (5, vi .i64 x_3.2)] [] [] [] (by kernel_rfl) ?_
     obtain rfl := some_inv' hp
     exact SC.re (js := [.g 0, .n]) tk (by kernel_rfl)
   · refine SC.r tk [(0, vs 0), (1, vi .u16 first_2), (6, vi .i64 x_3.1), (30, vb (decide (x_3.1 > 1000)))] [] [] [] (by kernel_rfl) ?_
     refine SC.if' rfl hp (fun hp => ?_) (fun hp => ?_)
     · refine SC.r tk [(4, vn), (5, vi .i64 4)] [] [] [] (by kernel_rfl) ?_
       obtain rfl := some_inv' hp
       exact SC.re (js := [.g 0, .n]) tk (by kernel_rfl)
     · refine SC.r tk [(0, vs 0), (1, vi .u16 first_2), (33, vb (decide ((w64 ((w64 ((w64 first_2) + x_3.1)) - 1)) > 65535)))] [] [] [] (by kernel_rfl) ?_
       refine SC.if' rfl hp (fun hp => ?_) (fun hp => ?_)
       · refine SC.r tk [(4, vn), (5, vi .i64 8)] [] [] [] (by kernel_rfl) ?_
         obtain rfl := some_inv' hp
         exact SC.re (js := [.g 0, .n]) tk (by kernel_rfl)
       · refine SC.skipThen ?_
         refine SC.seq ?_
         refine SC.reg ?_
         refine SL.eff (e_alloc (E := 22) tk [nl] (by kernel_rfl)) rfl (by kernel_rfl) ?_
         refine SL.nilThen ?_
         refine SC.seq ?_
         refine SC.reg ?_
         refine SL.sim tk 1 [(0, vs 0), (8, vp 1 0), (40, vi .u16 first_2)] [] [] [] (by kernel_rfl) ?_
         refine SL.eff (e_alloc (E := 28) tk [ci .u16 0] (by kernel_rfl)) rfl (by kernel_rfl) ?_
         refine SL.norm (itsN := [.rd 4 R_T_api_Service l_1, .blk 22 [nl], .blk 28 [ci .u16 0]]) (by kernel_rfl) ?_
         refine SL.sim tk 1 [(0, vs 0), (8, vp 1 0), (9, vp 2 0)] [(2, 28, [ci .u16 first_2])] [] [] (by kernel_rfl) ?_
         refine SL.nilThen ?_
         refine SC.r tk [(0, vs 0), (8, vp 1 0), (9, vp 2 0), (10, .f 40 [.p 1 0, .p 2 0])] [] [] [] (by kernel_rfl) ?_
         refine SC.cut (fun a w => ∃ (l_4 : (List T_api_Attribute)), database_Build_j1 F l_4 = some r ∧ A 119 1 fx [(8, vp 1 0)] [.gone, .blk 22 [.s 2], .own 5 39 R_T_api_Attribute l_4] a w) ?_ ?_
         · refine SC.r tk [(8, vp 1 0), (9, vp 2 0), (10, .f 40 [.p 1 0, .p 2 0]), (42, vs 0), (43, vi .i64 (len l_1)), (44, vi .i64 0)] [] [] [] (by kernel_rfl) ?_
           refine SC.block ?_
           obtain ⟨o1, hi1, ho1⟩ := bind_inv hp
           clear hp
           refine SC.loop (fun n a w => ∃ (l_5 : (List T_api_Attribute)) (x_6 : Int) (x_7 : Int), iter (fun s => database_Build_l1 F l_1 s.1 s.2.1 s.2.2) n (l_5, x_6, x_7) = some o1 ∧ A 119 1 fx [(8, vp 1 0), (9, vp 3 0), (10, .f 40 [.p 1 0, .p 3 0]), (42, vs 0), (43, vi .i64 (len l_1)), (44, vi .i64 x_7)] [.rd 4 R_T_api_Service l_1, .blk 22 [.s 2], .own 5 39 R_T_api_Attribute l_5, .blk 28 [ci .u16 x_6]] a w) F (fun a w h => ⟨[], first_2, 0, hi1, h.at (js := [.g 0, .g 1, .n, .g 2]) (by kernel_rfl)⟩) ?_
           rintro n1 a w ⟨l_5, x_6, x_7, hi1, h⟩
           obtain ⟨n1, q1, rfl, hp, hs1⟩ := iter_inv hi1
           replace hp : database_Build_l1 F l_1 l_5 x_6 x_7 = some q1 := hp
           clear hi1
           refine h.go ?_
           refine SC.r tk [(8, vp 1 0), (9, vp 3 0), (10, .f 40 [.p 1 0, .p 3 0]), (42, vs 0), (43, vi .i64 (len l_1)), (44, vi .i64 x_7), (45, vb (decide (x_7 < (len l_1))))] [] [] [] (by kernel_rfl) ?_
           refine SC.seq ?_
           refine SC.if' rfl hp (fun hp => ?_) (fun hp => ?_)
           · refine SC.skipThen ?_
             refine SC.cut (fun a w => ∃ (l_8 : (List T_api_Attribute)) (x_9 : Int), database_Build_j2 F x_7 l_8 x_9 = some q1 ∧ A 119 1 fx [(8, vp 1 0), (9, vp 3 0), (10, .f 40 [.p 1 0, .p 3 0]), (42, vs 0), (43, vi .i64 (len l_1)), (44, vi .i64 x_7)] [.rd 4 R_T_api_Service l_1, .blk 22 [.s 2], .own 5 39 R_T_api_Attribute l_8, .blk 28 [ci .u16 x_9]] a w) ?_ ?_
             · refine SC.block ?_
               refine SC.seq ?_
               refine SC.reg ?_
               obtain ⟨x_10, e_x_10, hp⟩ := bind_inv hp
               refine SL.pre (pre_ix (i := 0) (iv := x_7) (sz := 4) (R := R_T_api_Service) (l := l_1) (by kernel_rfl) rfl e_x_10) ?_
               refine SL.sim tk 2 [(8, vp 1 0), (9, vp 3 0), (10, .f 40 [.p 1 0, .p 3 0]), (42, vs 0), (43, vi .i64 (len l_1)), (44, vi .i64 x_7), (47, .g (C_api_Service x_10 (.s 5)))] [] [.el 4] [x_7] (by kernel_rfl) ?_
               refine SL.eff (e_alloc (E := 46) tk [ci .u64 0, ci .u64 0, cb false, nl] (by kernel_rfl)) rfl (by kernel_rfl) ?_
               refine SL.sim tk 1 [(8, vp 1 0), (9, vp 3 0), (10, .f 40 [.p 1 0, .p 3 0]), (12, vp 6 0), (42, vs 0), (43, vi .i64 (len l_1)), (44, vi .i64 x_7)] [(6, 46, (C_api_Service x_10 (.s 5)))] [] [] (by kernel_rfl) ?_
               refine SL.nilThen ?_
               refine SC.r tk [(8, vp 1 0), (9, vp 3 0), (10, .f 40 [.p 1 0, .p 3 0]), (12, vp 6 0), (13, vi .u16 10241), (42, vs 0), (43, vi .i64 (len l_1)), (44, vi .i64 x_7)] [] [] [] (by kernel_rfl) ?_
               refine SC.cut (fun a w => ∃ (x_11 : Int), database_Build_j3 F l_5 x_6 x_7 x_10 x_11 = some q1 ∧ A 119 1 fx [(8, vp 1 0), (9, vp 3 0), (10, .f 40 [.p 1 0, .p 3 0]), (12, vp 4 0), (13, vi .u16 x_11), (42, vs 0), (43, vi .i64 (len l_1)), (44, vi .i64 x_7)] [.rd 4 R_T_api_Service l_1, .blk 22 [.s 2], .own 5 39 R_T_api_Attribute l_5, .blk 28 [ci .u16 x_6], .blk 46 (C_api_Service x_10 (.s 5)), .rd 6 R_T_api_Char x_10.Chars] a w) ?_ ?_
               · refine SC.r tk [(8, vp 1 0), (9, vp 3 0), (10, .f 40 [.p 1 0, .p 3 0]), (12, vp 6 0), (13, vi .u16 10241), (42, vs 0), (43, vi .i64 (len l_1)), (44, vi .i64 x_7), (49, vb x_10.Primary)] [] [] [] (by kernel_rfl) ?_
                 refine SC.if' rfl hp (fun hp => ?_) (fun hp => ?_)
                 · refine SC.reg ?_
                   refine SL.sim tk 1 [(8, vp 1 0), (9, vp 3 0), (10, .f 40 [.p 1 0, .p 3 0]), (12, vp 6 0), (13, vi .u16 10240), (42, vs 0), (43, vi .i64 (len l_1)), (44, vi .i64 x_7)] [] [] [] (by kernel_rfl) ?_
                   refine SL.nilJ fun a w h => ?_
                   exact ⟨10240, hp, h.at (js := [.g 0, .g 1, .g 2, .g 3, .g 6, .g 5]) (by kernel_rfl)⟩
                 · refine SC.skipJ fun a w h => ?_
                   exact ⟨10241, hp, h.at (js := [.g 0, .g 1, .g 2, .g 3, .g 6, .g 5]) (by kernel_rfl)⟩
               · rintro a w ⟨x_11, hp, h⟩
                 refine h.go ?_
                 refine SC.cut (fun a w => ∃ (l_12 : (List T_api_Attribute)) (x_13 : Int), database_Build_j4 F x_7 x_10 l_12 x_13 = some q1 ∧ A 119 1 fx [(8, vp 1 0), (9, vp 3 0), (10, .f 40 [.p 1 0, .p 3 0]), (12, vp 4 0), (42, vs 0), (43, vi .i64 (len l_1)), (44, vi .i64 x_7)] [.rd 4 R_T_api_Service l_1, .blk 22 [.s 2], .own 5 39 R_T_api_Attribute l_12, .blk 28 [ci .u16 x_13], .blk 46 (C_api_Service x_10 (.s 5)), .rd 6 R_T_api_Char x_10.Chars] a w) ?_ ?_
                 · refine SC.draw MO [I, O, O, O, I, I] (by kernel_rfl) fun kap_1395 D_1396 => ?_
                   refine SD.takes tk D_1396 [] kn0 [0, 1, 3, 4] [] [] [I, I, O, I, I, O, O, O] [(8, vp 1 0), (9, vp 3 0), (10, .f 40 [.p 1 0, .p 3 0]), (12, vp 4 0), (42, vs 0), (43, vi .i64 (len l_1)), (44, vi .i64 x_7), (50, .f 40 [.p 1 0, .p 3 0]), (51, vi .u16 x_11), (54, .g (C_api_UUID x_10.f_Type))] rfl (by kernel_rfl) (by kernel_rfl) (by kernel_rfl) ?_
                   obtain ⟨x_1397, e_x_1397, hp⟩ := bind_inv hp
                   refine SD.all1 (i := 2) (by kernel_rfl) ?_
                   refine SW.eff D_1396 (i := 2) (bs' := [I, I, I, I, I, O, O, O]) rfl (.inl rfl) rfl (e_c Try.call42 (ok_uuid_Short F x_11 _ e_x_1397) [] [vi .u16 x_11] (.g (C_api_UUID x_1397)) (by kernel_rfl) (.inl rfl)) (by kernel_rfl) rfl (by kernel_rfl) ?_
                   obtain ⟨x_1398, e_x_1398, hp⟩ := bind_inv hp
                   refine SD.all1 (i := 5) (by kernel_rfl) ?_
                   refine SW.eff D_1396 (i := 5) (bs' := [I, I, I, I, I, I, O, O]) rfl (.inl rfl) rfl (e_c Try.call43 (ok_uuid_Encode F x_10.f_Type _ e_x_1398) [] [.g (C_api_UUID x_10.f_Type)] (vs 6) (by kernel_rfl) (.inl rfl)) (by kernel_rfl) rfl (by kernel_rfl) ?_
                   refine SD.norm (itsN := [.rd 4 R_T_api_Service l_1, .blk 22 [.s 2], .own 5 39 R_T_api_Attribute l_5, .blk 28 [ci .u16 x_6], .blk 46 (C_api_Service x_10 (.s 5)), .rd 6 R_T_api_Char x_10.Chars, .rd 1 R8 x_1398]) (by kernel_rfl) ?_
                   refine SD.all1 (i := 6) (by kernel_rfl) ?_
                   refine SW.eff D_1396 (i := 6) (bs' := [I, I, I, I, I, I, I, O]) rfl (.inl rfl) rfl (e_lit (sz := 1) (E := 37) (R := (RSl 1 R8)) (by_ := 24) tk [[.s 6]] [x_1398] (by kernel_rfl) ⟨(Clo.sl (by kernel_rfl)), trivial⟩ rfl (by kernel_rfl) (by kernel_rfl)) (by kernel_rfl) rfl (by kernel_rfl) ?_
                   obtain ⟨x_1399, e_x_1399, hp⟩ := bind_inv hp
                   refine SD.pre (pre_frz (i := 7) (sz := 1) (E := 37) (R := (RSl 1 R8)) (l := [x_1398]) (by kernel_rfl)) ?_
                   refine SD.all1 (i := 7) (by kernel_rfl) ?_
                   refine SW.eff D_1396 (i := 7) (bs' := [I, I, I, I, I, I, I, I]) rfl (.inl rfl) rfl (e_c Try.call40 (ok_database_Build_1 F x_1397 1 [x_1398] l_5 x_6 _ e_x_1399) [.g 7, .g 1, .g 2, .g 3] [.g (C_api_UUID x_1397), vi .i64 1, vs 7, vp 1 0, vp 3 0] (.u []) (by kernel_rfl) (.inl rfl)) (by kernel_rfl) rfl (by kernel_rfl) ?_
                   refine SD.norm (itsN := [.rd 4 R_T_api_Service l_1, .blk 22 [.s 8], .gone, .blk 28 [ci .u16 x_1399.2], .blk 46 (C_api_Service x_10 (.s 5)), .rd 6 R_T_api_Char x_10.Chars, .rd 1 R8 x_1398, .rd 1 (RSl 1 R8) [x_1398], .own 5 39 R_T_api_Attribute x_1399.1]) (by kernel_rfl) ?_
                   refine SD.done (by kernel_rfl) fun a w h => ?_
                   exact ⟨x_1399.1, x_1399.2, hp, h.at (js := [.g 0, .g 1, .g 8, .g 3, .g 4, .g 5]) (by kernel_rfl)⟩
                 · rintro a w ⟨l_12, x_13, hp, h⟩
                   refine h.go ?_
                   refine SC.r tk [(8, vp 1 0), (9, vp 3 0), (10, .f 40 [.p 1 0, .p 3 0]), (42, vs 0), (43, vi .i64 (len l_1)), (44, vi .i64 x_7), (59, vs 5), (60, vi .i64 (len x_10.Chars)), (61, vi .i64 0)] [] [] [] (by kernel_rfl) ?_
                   refine SC.block ?_
                   obtain ⟨o2, hi2, ho2⟩ := bind_inv hp
                   clear hp
                   refine SC.loop (fun n a w => ∃ (l_14 : (List T_api_Attribute)) (x_15 : Int) (x_16 : Int), iter (fun s => database_Build_l2 F x_10 s.1 s.2.1 s.2.2) n (l_14, x_15, x_16) = some o2 ∧ A 119 1 fx [(8, vp 1 0), (9, vp 3 0), (10, .f 40 [.p 1 0, .p 3 0]), (42, vs 0), (43, vi .i64 (len l_1)), (44, vi .i64 x_7), (59, vs 4), (60, vi .i64 (len x_10.Chars)), (61, vi .i64 x_16)] [.rd 4 R_T_api_Service l_1, .blk 22 [.s 2], .own 5 39 R_T_api_Attribute l_14, .blk 28 [ci .u16 x_15], .rd 6 R_T_api_Char x_10.Chars] a w) F (fun a w h => ⟨l_12, x_13, 0, hi2, h.at (js := [.g 0, .g 1, .g 2, .g 3, .g 5]) (by kernel_rfl)⟩) ?_
                   rintro n2 a w ⟨l_14, x_15, x_16, hi2, h⟩
                   obtain ⟨n2, q2, rfl, hp, hs2⟩ := iter_inv hi2
                   replace hp : database_Build_l2 F x_10 l_14 x_15 x_16 = some q2 := hp
                   clear hi2
                   refine h.go ?_
                   refine SC.r tk [(8, vp 1 0), (9, vp 3 0), (10, .f 40 [.p 1 0, .p 3 0]), (42, vs 0), (43, vi .i64 (len l_1)), (44, vi .i64 x_7), (59, vs 4), (60, vi .i64 (len x_10.Chars)), (61, vi .i64 x_16), (62, vb (decide (x_16 < (len x_10.Chars))))] [] [] [] (by kernel_rfl) ?_
                   refine SC.seq ?_
                   refine SC.if' rfl hp (fun hp => ?_) (fun hp => ?_)
                   · refine SC.skipThen ?_
                     refine SC.cut (fun a w => ∃ (l_17 : (List T_api_Attribute)) (x_18 : Int), database_Build_j5 F x_16 l_17 x_18 = some q2 ∧ A 119 1 fx [(8, vp 1 0), (9, vp 3 0), (10, .f 40 [.p 1 0, .p 3 0]), (42, vs 0), (43, vi .i64 (len l_1)), (44, vi .i64 x_7), (59, vs 4), (60, vi .i64 (len x_10.Chars)), (61, vi .i64 x_16)] [.rd 4 R_T_api_Service l_1, .blk 22 [.s 2], .own 5 39 R_T_api_Attribute l_17, .blk 28 [ci .u16 x_18], .rd 6 R_T_api_Char x_10.Chars] a w) ?_ ?_
                     · refine SC.block ?_
                       refine SC.seq ?_
                       refine SC.reg ?_
                       obtain ⟨x_19, e_x_19, hp⟩ := bind_inv hp
                       refine SL.pre (pre_ix (i := 4) (iv := x_16) (sz := 6) (R := R_T_api_Char) (l := x_10.Chars) (by kernel_rfl) rfl e_x_19) ?_
                       refine SL.sim tk 2 [(8, vp 1 0), (9, vp 3 0), (10, .f 40 [.p 1 0, .p 3 0]), (42, vs 0), (43, vi .i64 (len l_1)), (44, vi .i64 x_7), (59, vs 4), (60, vi .i64 (len x_10.Chars)), (61, vi .i64 x_16), (64, .g (C_api_Char x_19 (.s 6) (.s 7)))] [] [.el 5] [x_16] (by kernel_rfl) ?_
                       refine SL.eff (e_alloc (E := 48) tk [ci .u64 0, ci .u64 0, ci .i64 0, ci .i64 0, nl, nl] (by kernel_rfl)) rfl (by kernel_rfl) ?_
                       refine SL.sim tk 1 [(8, vp 1 0), (9, vp 3 0), (10, .f 40 [.p 1 0, .p 3 0]), (15, vp 8 0), (42, vs 0), (43, vi .i64 (len l_1)), (44, vi .i64 x_7), (59, vs 4), (60, vi .i64 (len x_10.Chars)), (61, vi .i64 x_16)] [(8, 48, (C_api_Char x_19 (.s 6) (.s 7)))] [] [] (by kernel_rfl) ?_
                       refine SL.nilThen ?_
                       refine SC.r tk [(8, vp 1 0), (9, vp 3 0), (10, .f 40 [.p 1 0, .p 3 0]), (15, vp 8 0), (16, vi .u16 (wu16 (x_15 + 1))), (42, vs 0), (43, vi .i64 (len l_1)), (44, vi .i64 x_7), (59, vs 4), (60, vi .i64 (len x_10.Chars)), (61, vi .i64 x_16)] [] [] [] (by kernel_rfl) ?_
                       refine SC.cut (fun a w => ∃ (l_20 : (List T_api_Attribute)) (x_21 : Int), database_Build_j6 F x_16 x_19 l_20 x_21 = some q2 ∧ A 119 1 fx [(8, vp 1 0), (9, vp 3 0), (10, .f 40 [.p 1 0, .p 3 0]), (15, vp 4 0), (42, vs 0), (43, vi .i64 (len l_1)), (44, vi .i64 x_7), (59, vs 7), (60, vi .i64 (len x_10.Chars)), (61, vi .i64 x_16)] [.rd 4 R_T_api_Service l_1, .blk 22 [.s 2], .own 5 39 R_T_api_Attribute l_20, .blk 28 [ci .u16 x_21], .blk 48 (C_api_Char x_19 (.s 5) (.s 6)), .rd 1 R8 x_19.Value, .rd 5 R_T_api_Attribute x_19.More, .rd 6 R_T_api_Char x_10.Chars] a w) ?_ ?_
                       · refine SC.draw MO [I, O, O, O, I, I, I, I, I] (by kernel_rfl) fun kap_33 D_34 => ?_
                         refine SD.takes tk D_34 [] kn0 [0, 2, 3, 4, 5, 6, 7, 8, 9, 11, 12] [.bin .shr .u16 (wu16 (x_15 + 1)) 8 (shrp (wu16 (x_15 + 1)) 8) (by kernel_rfl)] [wu16 (x_15 + 1), 8] [I, O, I, I, I, I, I, I, I, I, O, I, I, O, O, O] [(8, vp 1 0), (9, vp 3 0), (10, .f 40 [.p 1 0, .p 3 0]), (15, vp 8 0), (42, vs 0), (43, vi .i64 (len l_1)), (44, vi .i64 x_7), (59, vs 4), (60, vi .i64 (len x_10.Chars)), (61, vi .i64 x_16), (67, .f 40 [.p 1 0, .p 3 0]), (71, vi .u8 (wu8 x_19.Props)), (73, vi .u8 (wu8 (wu16 (x_15 + 1)))), (76, vi .u8 (wu8 (shrp (wu16 (x_15 + 1)) 8))), (79, .g (C_api_UUID x_19.f_Type))] rfl (by kernel_rfl) (by kernel_rfl) (by kernel_rfl) ?_
                         obtain ⟨x_115, e_x_115, hp⟩ := bind_inv hp
                         obtain ⟨x_1075, e_x_1075, hp⟩ := bind_inv hp
                         obtain ⟨x_1235, e_x_1235, hp⟩ := bind_inv hp
                         refine SD.lay 0 [I, I, I, I, I, I, I, I, I, I, I, I, I, I, I, I] [(8, vp 1 0), (9, vp 3 0), (10, .f 40 [.p 1 0, .p 3 0]), (15, vp 8 0), (42, vs 0), (43, vi .i64 (len l_1)), (44, vi .i64 x_7), (59, vs 4), (60, vi .i64 (len x_10.Chars)), (61, vi .i64 x_16)] [.rd 4 R_T_api_Service l_1, .blk 22 [.s 12], .gone, .blk 28 [ci .u16 x_1235.2], .rd 6 R_T_api_Char x_10.Chars, .elt (some (4, x_16)) false (C_api_Char x_19 (.s 6) (.s 7)), .rd 1 R8 x_19.Value, .rd 5 R_T_api_Attribute x_19.More, .blk 48 (C_api_Char x_19 (.s 6) (.s 7)), .gone, .gone, .gone, .own 5 39 R_T_api_Attribute x_1235.1] ?_ (fun c_34_0 => ?_)
                         · refine SD.done (by kernel_rfl) fun a w h => ?_
                           exact ⟨x_1235.1, x_1235.2, hp, h.at (js := [.g 0, .g 1, .g 12, .g 3, .g 8, .g 6, .g 7, .g 4]) (by kernel_rfl)⟩
                         · refine SD.lay 1 [I, I, I, I, I, I, I, I, I, I, I, I, I, I, I, O] [(8, vp 1 0), (9, vp 3 0), (10, .f 40 [.p 1 0, .p 3 0]), (15, vp 8 0), (42, vs 0), (43, vi .i64 (len l_1)), (44, vi .i64 x_7), (59, vs 4), (60, vi .i64 (len x_10.Chars)), (61, vi .i64 x_16), (67, .f 40 [.p 1 0, .p 3 0]), (68, .g (C_api_UUID x_115)), (81, vs 11)] [.rd 4 R_T_api_Service l_1, .blk 22 [.s 2], .own 5 39 R_T_api_Attribute l_14, .blk 28 [ci .u16 x_15], .rd 6 R_T_api_Char x_10.Chars, .elt (some (4, x_16)) false (C_api_Char x_19 (.s 6) (.s 7)), .rd 1 R8 x_19.Value, .rd 5 R_T_api_Attribute x_19.More, .blk 48 (C_api_Char x_19 (.s 6) (.s 7)), .gone, .gone, .own 1 37 (RSl 1 R8) [[wu8 x_19.Props, wu8 (wu16 (x_15 + 1)), wu8 (shrp (wu16 (x_15 + 1)) 8)], x_1075]] ?_ (fun c_34_1 => ?_)
                           · refine SD.pre (pre_frz (i := 11) (sz := 1) (E := 37) (R := (RSl 1 R8)) (l := [[wu8 x_19.Props, wu8 (wu16 (x_15 + 1)), wu8 (shrp (wu16 (x_15 + 1)) 8)], x_1075]) (by kernel_rfl)) ?_
                             refine SD.all1 (i := 15) (by kernel_rfl) ?_
                             refine SW.eff D_34 (i := 15) (bs' := [I, I, I, I, I, I, I, I, I, I, I, I, I, I, I, I]) rfl (.inl rfl) rfl (e_c Try.call40 (ok_database_Build_1 F x_115 1 [[wu8 x_19.Props, wu8 (wu16 (x_15 + 1)), wu8 (shrp (wu16 (x_15 + 1)) 8)], x_1075] l_14 x_15 _ e_x_1235) [.g 11, .g 1, .g 2, .g 3] [.g (C_api_UUID x_115), vi .i64 1, vs 11, vp 1 0, vp 3 0] (.u []) (by kernel_rfl) (.inl rfl)) (by kernel_rfl) rfl (by kernel_rfl) ?_
                             exact SD.vie D_34 [.g 0, .g 1, .g 2, .g 3, .g 4, .g 5, .g 6, .g 7, .g 8, .n, .n, .n, .g 12] c_34_0 (by kernel_rfl)
                           · refine SD.lay 2 [I, I, I, I, I, I, I, I, I, I, I, I, I, I, O, O] [(8, vp 1 0), (9, vp 3 0), (10, .f 40 [.p 1 0, .p 3 0]), (15, vp 8 0), (42, vs 0), (43, vi .i64 (len l_1)), (44, vi .i64 x_7), (59, vs 4), (60, vi .i64 (len x_10.Chars)), (61, vi .i64 x_16), (67, .f 40 [.p 1 0, .p 3 0]), (68, .g (C_api_UUID x_115)), (77, vs 9), (80, vs 10)] [.rd 4 R_T_api_Service l_1, .blk 22 [.s 2], .own 5 39 R_T_api_Attribute l_14, .blk 28 [ci .u16 x_15], .rd 6 R_T_api_Char x_10.Chars, .elt (some (4, x_16)) false (C_api_Char x_19 (.s 6) (.s 7)), .rd 1 R8 x_19.Value, .rd 5 R_T_api_Attribute x_19.More, .blk 48 (C_api_Char x_19 (.s 6) (.s 7)), .own 1 5 R8 [wu8 x_19.Props, wu8 (wu16 (x_15 + 1)), wu8 (shrp (wu16 (x_15 + 1)) 8)], .rd 1 R8 x_1075] ?_ (fun c_34_2 => ?_)
                             · refine SD.pre (pre_frz (i := 9) (sz := 1) (E := 5) (R := R8) (l := [wu8 x_19.Props, wu8 (wu16 (x_15 + 1)), wu8 (shrp (wu16 (x_15 + 1)) 8)]) (by kernel_rfl)) ?_
                               refine SD.all1 (i := 14) (by kernel_rfl) ?_
                               refine SW.eff D_34 (i := 14) (bs' := [I, I, I, I, I, I, I, I, I, I, I, I, I, I, I, O]) rfl (.inl rfl) rfl (e_lit (sz := 1) (E := 37) (R := (RSl 1 R8)) (by_ := 24) tk [[.s 9], [.s 10]] [[wu8 x_19.Props, wu8 (wu16 (x_15 + 1)), wu8 (shrp (wu16 (x_15 + 1)) 8)], x_1075] (by kernel_rfl) ⟨(Clo.sl (by kernel_rfl)), ⟨(Clo.sl (by kernel_rfl)), trivial⟩⟩ rfl (by kernel_rfl) (by kernel_rfl)) (by kernel_rfl) rfl (by kernel_rfl) ?_
                               exact SD.vie D_34 [.g 0, .g 1, .g 2, .g 3, .g 4, .g 5, .g 6, .g 7, .g 8, .n, .n, .g 11] c_34_1 (by kernel_rfl)
                             · refine SD.lay 3 [I, I, I, I, I, I, I, I, I, I, I, I, I, O, O, O] [(8, vp 1 0), (9, vp 3 0), (10, .f 40 [.p 1 0, .p 3 0]), (15, vp 8 0), (42, vs 0), (43, vi .i64 (len l_1)), (44, vi .i64 x_7), (59, vs 4), (60, vi .i64 (len x_10.Chars)), (61, vi .i64 x_16), (67, .f 40 [.p 1 0, .p 3 0]), (68, .g (C_api_UUID x_115)), (77, vs 9), (79, .g (C_api_UUID x_19.f_Type))] [.rd 4 R_T_api_Service l_1, .blk 22 [.s 2], .own 5 39 R_T_api_Attribute l_14, .blk 28 [ci .u16 x_15], .rd 6 R_T_api_Char x_10.Chars, .elt (some (4, x_16)) false (C_api_Char x_19 (.s 6) (.s 7)), .rd 1 R8 x_19.Value, .rd 5 R_T_api_Attribute x_19.More, .blk 48 (C_api_Char x_19 (.s 6) (.s 7)), .own 1 5 R8 [wu8 x_19.Props, wu8 (wu16 (x_15 + 1)), wu8 (shrp (wu16 (x_15 + 1)) 8)]] ?_ (fun c_34_3 => ?_)
                               · refine SD.all1 (i := 13) (by kernel_rfl) ?_
                                 refine SW.eff D_34 (i := 13) (bs' := [I, I, I, I, I, I, I, I, I, I, I, I, I, I, O, O]) rfl (.inl rfl) rfl (e_c Try.call43 (ok_uuid_Encode F x_19.f_Type _ e_x_1075) [] [.g (C_api_UUID x_19.f_Type)] (vs 10) (by kernel_rfl) (.inl rfl)) (by kernel_rfl) rfl (by kernel_rfl) ?_
                                 exact SD.vie D_34 [.g 0, .g 1, .g 2, .g 3, .g 4, .g 5, .g 6, .g 7, .g 8, .g 9, .g 10] c_34_2 (by kernel_rfl)
                               · refine SD.lay 3 [I, I, I, I, I, I, I, I, I, I, O, I, I, I, O, O] [(8, vp 1 0), (9, vp 3 0), (10, .f 40 [.p 1 0, .p 3 0]), (15, vp 8 0), (42, vs 0), (43, vi .i64 (len l_1)), (44, vi .i64 x_7), (59, vs 4), (60, vi .i64 (len x_10.Chars)), (61, vi .i64 x_16), (67, .f 40 [.p 1 0, .p 3 0]), (68, .g (C_api_UUID x_115)), (71, vi .u8 (wu8 x_19.Props)), (73, vi .u8 (wu8 (wu16 (x_15 + 1)))), (76, vi .u8 (wu8 (shrp (wu16 (x_15 + 1)) 8))), (80, vs 9)] [.rd 4 R_T_api_Service l_1, .blk 22 [.s 2], .own 5 39 R_T_api_Attribute l_14, .blk 28 [ci .u16 x_15], .rd 6 R_T_api_Char x_10.Chars, .elt (some (4, x_16)) false (C_api_Char x_19 (.s 6) (.s 7)), .rd 1 R8 x_19.Value, .rd 5 R_T_api_Attribute x_19.More, .blk 48 (C_api_Char x_19 (.s 6) (.s 7)), .rd 1 R8 x_1075] ?_ (fun c_34_4 => ?_)
                                 · refine SD.all1 (i := 10) (by kernel_rfl) ?_
                                   refine SW.eff D_34 (i := 10) (bs' := [I, I, I, I, I, I, I, I, I, I, I, I, I, I, O, O]) rfl (.inl rfl) rfl (e_lit (sz := 1) (E := 5) (R := R8) (by_ := 1) tk [[ci .u8 (wu8 x_19.Props)], [ci .u8 (wu8 (wu16 (x_15 + 1)))], [ci .u8 (wu8 (shrp (wu16 (x_15 + 1)) 8))]] [wu8 x_19.Props, wu8 (wu16 (x_15 + 1)), wu8 (shrp (wu16 (x_15 + 1)) 8)] (by kernel_rfl) ⟨Clo.int, ⟨Clo.int, ⟨Clo.int, trivial⟩⟩⟩ rfl (by kernel_rfl) (by kernel_rfl)) (by kernel_rfl) rfl (by kernel_rfl) ?_
                                   exact SD.vie D_34 [.g 0, .g 1, .g 2, .g 3, .g 4, .g 5, .g 6, .g 7, .g 8, .g 10, .g 9] c_34_2 (by kernel_rfl)
                                 · refine SD.lay 4 [I, I, I, I, I, I, I, I, I, I, O, I, I, O, O, O] [(8, vp 1 0), (9, vp 3 0), (10, .f 40 [.p 1 0, .p 3 0]), (15, vp 8 0), (42, vs 0), (43, vi .i64 (len l_1)), (44, vi .i64 x_7), (59, vs 4), (60, vi .i64 (len x_10.Chars)), (61, vi .i64 x_16), (67, .f 40 [.p 1 0, .p 3 0]), (68, .g (C_api_UUID x_115)), (71, vi .u8 (wu8 x_19.Props)), (73, vi .u8 (wu8 (wu16 (x_15 + 1)))), (76, vi .u8 (wu8 (shrp (wu16 (x_15 + 1)) 8))), (79, .g (C_api_UUID x_19.f_Type))] [.rd 4 R_T_api_Service l_1, .blk 22 [.s 2], .own 5 39 R_T_api_Attribute l_14, .blk 28 [ci .u16 x_15], .rd 6 R_T_api_Char x_10.Chars, .elt (some (4, x_16)) false (C_api_Char x_19 (.s 6) (.s 7)), .rd 1 R8 x_19.Value, .rd 5 R_T_api_Attribute x_19.More, .blk 48 (C_api_Char x_19 (.s 6) (.s 7))] ?_ (fun c_34_5 => ?_)
                                   · refine SD.all2 (i := 10) (j := 13) (by kernel_rfl) ?_ ?_
                                     · refine SW.eff D_34 (i := 10) (bs' := [I, I, I, I, I, I, I, I, I, I, I, I, I, O, O, O]) rfl (.inl rfl) rfl (e_lit (sz := 1) (E := 5) (R := R8) (by_ := 1) tk [[ci .u8 (wu8 x_19.Props)], [ci .u8 (wu8 (wu16 (x_15 + 1)))], [ci .u8 (wu8 (shrp (wu16 (x_15 + 1)) 8))]] [wu8 x_19.Props, wu8 (wu16 (x_15 + 1)), wu8 (shrp (wu16 (x_15 + 1)) 8)] (by kernel_rfl) ⟨Clo.int, ⟨Clo.int, ⟨Clo.int, trivial⟩⟩⟩ rfl (by kernel_rfl) (by kernel_rfl)) (by kernel_rfl) rfl (by kernel_rfl) ?_
                                       exact SD.vie D_34 [.g 0, .g 1, .g 2, .g 3, .g 4, .g 5, .g 6, .g 7, .g 8, .g 9] c_34_3 (by kernel_rfl)
                                     · refine SW.eff D_34 (i := 13) (bs' := [I, I, I, I, I, I, I, I, I, I, O, I, I, I, O, O]) rfl (.inl rfl) rfl (e_c Try.call43 (ok_uuid_Encode F x_19.f_Type _ e_x_1075) [] [.g (C_api_UUID x_19.f_Type)] (vs 9) (by kernel_rfl) (.inl rfl)) (by kernel_rfl) rfl (by kernel_rfl) ?_
                                       exact SD.vie D_34 [.g 0, .g 1, .g 2, .g 3, .g 4, .g 5, .g 6, .g 7, .g 8, .g 9] c_34_4 (by kernel_rfl)
                                   · refine SD.lay 4 [I, O, I, I, I, I, I, I, I, I, I, I, I, O, O, O] [(8, vp 1 0), (9, vp 3 0), (10, .f 40 [.p 1 0, .p 3 0]), (15, vp 8 0), (42, vs 0), (43, vi .i64 (len l_1)), (44, vi .i64 x_7), (59, vs 4), (60, vi .i64 (len x_10.Chars)), (61, vi .i64 x_16), (67, .f 40 [.p 1 0, .p 3 0]), (77, vs 9), (79, .g (C_api_UUID x_19.f_Type))] [.rd 4 R_T_api_Service l_1, .blk 22 [.s 2], .own 5 39 R_T_api_Attribute l_14, .blk 28 [ci .u16 x_15], .rd 6 R_T_api_Char x_10.Chars, .elt (some (4, x_16)) false (C_api_Char x_19 (.s 6) (.s 7)), .rd 1 R8 x_19.Value, .rd 5 R_T_api_Attribute x_19.More, .blk 48 (C_api_Char x_19 (.s 6) (.s 7)), .own 1 5 R8 [wu8 x_19.Props, wu8 (wu16 (x_15 + 1)), wu8 (shrp (wu16 (x_15 + 1)) 8)]] ?_ (fun c_34_6 => ?_)
                                     · refine SD.all1 (i := 1) (by kernel_rfl) ?_
                                       refine SW.eff D_34 (i := 1) (bs' := [I, I, I, I, I, I, I, I, I, I, I, I, I, O, O, O]) rfl (.inl rfl) rfl (e_c Try.call42 (ok_uuid_Short F 10243 _ e_x_115) [] [vi .u16 10243] (.g (C_api_UUID x_115)) (by kernel_rfl) (.inl rfl)) (by kernel_rfl) rfl (by kernel_rfl) ?_
                                       exact SD.vie D_34 [.g 0, .g 1, .g 2, .g 3, .g 4, .g 5, .g 6, .g 7, .g 8, .g 9] c_34_3 (by kernel_rfl)
                                     · refine SD.all2 (i := 1) (j := 10) (by kernel_rfl) ?_ ?_
                                       · refine SW.eff D_34 (i := 1) (bs' := [I, I, I, I, I, I, I, I, I, I, O, I, I, O, O, O]) rfl (.inl rfl) rfl (e_c Try.call42 (ok_uuid_Short F 10243 _ e_x_115) [] [vi .u16 10243] (.g (C_api_UUID x_115)) (by kernel_rfl) (.inl rfl)) (by kernel_rfl) rfl (by kernel_rfl) ?_
                                         refine SD.norm (itsN := [.rd 4 R_T_api_Service l_1, .blk 22 [.s 2], .own 5 39 R_T_api_Attribute l_14, .blk 28 [ci .u16 x_15], .rd 6 R_T_api_Char x_10.Chars, .elt (some (4, x_16)) false (C_api_Char x_19 (.s 6) (.s 7)), .rd 1 R8 x_19.Value, .rd 5 R_T_api_Attribute x_19.More, .blk 48 (C_api_Char x_19 (.s 6) (.s 7))]) (by kernel_rfl) ?_
                                         exact SD.vie D_34 [.g 0, .g 1, .g 2, .g 3, .g 4, .g 5, .g 6, .g 7, .g 8] c_34_5 (by kernel_rfl)
                                       · refine SW.eff D_34 (i := 10) (bs' := [I, O, I, I, I, I, I, I, I, I, I, I, I, O, O, O]) rfl (.inl rfl) rfl (e_lit (sz := 1) (E := 5) (R := R8) (by_ := 1) tk [[ci .u8 (wu8 x_19.Props)], [ci .u8 (wu8 (wu16 (x_15 + 1)))], [ci .u8 (wu8 (shrp (wu16 (x_15 + 1)) 8))]] [wu8 x_19.Props, wu8 (wu16 (x_15 + 1)), wu8 (shrp (wu16 (x_15 + 1)) 8)] (by kernel_rfl) ⟨Clo.int, ⟨Clo.int, ⟨Clo.int, trivial⟩⟩⟩ rfl (by kernel_rfl) (by kernel_rfl)) (by kernel_rfl) rfl (by kernel_rfl) ?_
                                         refine SD.norm (itsN := [.rd 4 R_T_api_Service l_1, .blk 22 [.s 2], .own 5 39 R_T_api_Attribute l_14, .blk 28 [ci .u16 x_15], .rd 6 R_T_api_Char x_10.Chars, .elt (some (4, x_16)) false (C_api_Char x_19 (.s 6) (.s 7)), .rd 1 R8 x_19.Value, .rd 5 R_T_api_Attribute x_19.More, .blk 48 (C_api_Char x_19 (.s 6) (.s 7)), .own 1 5 R8 [wu8 x_19.Props, wu8 (wu16 (x_15 + 1)), wu8 (shrp (wu16 (x_15 + 1)) 8)]]) (by kernel_rfl) ?_
                                         exact SD.vie D_34 [.g 0, .g 1, .g 2, .g 3, .g 4, .g 5, .g 6, .g 7, .g 8, .g 9] c_34_6 (by kernel_rfl)
                       · rintro a w ⟨l_20, x_21, hp, h⟩
                         refine h.go ?_
                         refine SC.seq ?_
                         refine SC.reg ?_
                         refine SL.sim tk 7 [(8, vp 1 0), (9, vp 3 0), (10, .f 40 [.p 1 0, .p 3 0]), (15, vp 4 0), (42, vs 0), (43, vi .i64 (len l_1)), (44, vi .i64 x_7), (59, vs 7), (60, vi .i64 (len x_10.Chars)), (61, vi .i64 x_16), (83, .f 40 [.p 1 0, .p 3 0]), (85, .g (C_api_UUID x_19.f_Type)), (87, vi .i64 x_19.Perms), (89, vs 5)] [] [] [] (by kernel_rfl) ?_
                         refine SL.eff (e_lit (sz := 1) (E := 37) (R := (RSl 1 R8)) (by_ := 24) tk [[.s 5]] [x_19.Value] (by kernel_rfl) ⟨(Clo.sl (by kernel_rfl)), trivial⟩ rfl (by kernel_rfl) (by kernel_rfl)) rfl (by kernel_rfl) ?_
                         obtain ⟨x_22, e_x_22, hp⟩ := bind_inv hp
                         refine SL.pre (pre_frz (i := 8) (sz := 1) (E := 37) (R := (RSl 1 R8)) (l := [x_19.Value]) (by kernel_rfl)) ?_
                         refine SL.eff (e_c Try.call40 (ok_database_Build_1 F x_19.f_Type x_19.Perms [x_19.Value] l_20 x_21 _ e_x_22) [.g 8, .g 1, .g 2, .g 3] [.g (C_api_UUID x_19.f_Type), vi .i64 x_19.Perms, vs 8, vp 1 0, vp 3 0] (.u []) (by kernel_rfl) (.inl rfl)) rfl (by kernel_rfl) ?_
                         refine SL.nilThen ?_
                         refine SC.cut (fun a w => ∃ (l_23 : (List T_api_Attribute)) (x_24 : Int), database_Build_j7 F x_16 x_19 l_23 x_24 = some q2 ∧ A 119 1 fx [(8, vp 1 0), (9, vp 3 0), (10, .f 40 [.p 1 0, .p 3 0]), (15, vp 4 0), (42, vs 0), (43, vi .i64 (len l_1)), (44, vi .i64 x_7), (59, vs 7), (60, vi .i64 (len x_10.Chars)), (61, vi .i64 x_16)] [.rd 4 R_T_api_Service l_1, .blk 22 [.s 2], .own 5 39 R_T_api_Attribute l_23, .blk 28 [ci .u16 x_24], .blk 48 (C_api_Char x_19 (.s 5) (.s 6)), .rd 1 R8 x_19.Value, .rd 5 R_T_api_Attribute x_19.More, .rd 6 R_T_api_Char x_10.Chars] a w) ?_ ?_
                         · refine SC.seq ?_
                           refine SC.reg ?_
                           refine SL.sim tk 1 [(8, vp 1 0), (9, vp 3 0), (10, .f 40 [.p 1 0, .p 3 0]), (15, vp 4 0), (42, vs 0), (43, vi .i64 (len l_1)), (44, vi .i64 x_7), (59, vs 7), (60, vi .i64 (len x_10.Chars)), (61, vi .i64 x_16), (92, .g (C_api_Char x_19 (.s 5) (.s 6)))] [] [] [] (by kernel_rfl) ?_
                           obtain ⟨x_30, e_x_30, hp⟩ := bind_inv hp
                           refine SL.eff (e_c Try.call44 (ok_database_told F x_19 _ e_x_30) [.g 5, .g 6] [.g (C_api_Char x_19 (.s 5) (.s 6))] (vb x_30) (by kernel_rfl) (.inl rfl)) rfl (by kernel_rfl) ?_
                           refine SL.norm (itsN := [.rd 4 R_T_api_Service l_1, .blk 22 [.s 9], .gone, .blk 28 [ci .u16 x_22.2], .blk 48 (C_api_Char x_19 (.s 5) (.s 6)), .rd 1 R8 x_19.Value, .rd 5 R_T_api_Attribute x_19.More, .rd 6 R_T_api_Char x_10.Chars, .rd 1 (RSl 1 R8) [x_19.Value], .own 5 39 R_T_api_Attribute x_22.1]) (by kernel_rfl) ?_
                           refine SL.nilThen ?_
                           refine SC.if' rfl hp (fun hp => ?_) (fun hp => ?_)
                           · refine SC.reg ?_
                             refine SL.sim tk 1 [(8, vp 1 0), (9, vp 3 0), (10, .f 40 [.p 1 0, .p 3 0]), (15, vp 4 0), (42, vs 0), (43, vi .i64 (len l_1)), (44, vi .i64 x_7), (59, vs 7), (60, vi .i64 (len x_10.Chars)), (61, vi .i64 x_16), (94, .f 40 [.p 1 0, .p 3 0])] [] [] [] (by kernel_rfl) ?_
                             obtain ⟨x_31, e_x_31, hp⟩ := bind_inv hp
                             refine SL.eff (e_c Try.call42 (ok_uuid_Short F 10498 _ e_x_31) [] [vi .u16 10498] (.g (C_api_UUID x_31)) (by kernel_rfl) (.inl rfl)) rfl (by kernel_rfl) ?_
                             refine SL.eff (e_lit (sz := 1) (E := 5) (R := R8) (by_ := 1) tk [[ci .u8 0], [ci .u8 0]] [0, 0] (by kernel_rfl) ⟨Clo.int, ⟨Clo.int, trivial⟩⟩ rfl (by kernel_rfl) (by kernel_rfl)) rfl (by kernel_rfl) ?_
                             refine SL.pre (pre_frz (i := 10) (sz := 1) (E := 5) (R := R8) (l := [0, 0]) (by kernel_rfl)) ?_
                             refine SL.eff (e_lit (sz := 1) (E := 37) (R := (RSl 1 R8)) (by_ := 24) tk [[.s 10]] [[0, 0]] (by kernel_rfl) ⟨(Clo.sl (by kernel_rfl)), trivial⟩ rfl (by kernel_rfl) (by kernel_rfl)) rfl (by kernel_rfl) ?_
                             refine SL.norm (itsN := [.rd 4 R_T_api_Service l_1, .blk 22 [.s 9], .gone, .blk 28 [ci .u16 x_22.2], .blk 48 (C_api_Char x_19 (.s 5) (.s 6)), .rd 1 R8 x_19.Value, .rd 5 R_T_api_Attribute x_19.More, .rd 6 R_T_api_Char x_10.Chars, .rd 1 (RSl 1 R8) [x_19.Value], .own 5 39 R_T_api_Attribute x_22.1, .rd 1 R8 [0, 0], .own 1 37 (RSl 1 R8) [[0, 0]]]) (by kernel_rfl) ?_
                             obtain ⟨x_32, e_x_32, hp⟩ := bind_inv hp
                             refine SL.pre (pre_frz (i := 11) (sz := 1) (E := 37) (R := (RSl 1 R8)) (l := [[0, 0]]) (by kernel_rfl)) ?_
                             refine SL.eff (e_c Try.call40 (ok_database_Build_1 F x_31 3 [[0, 0]] x_22.1 x_22.2 _ e_x_32) [.g 11, .g 1, .g 9, .g 3] [.g (C_api_UUID x_31), vi .i64 3, vs 11, vp 1 0, vp 3 0] (.u []) (by kernel_rfl) (.inl rfl)) rfl (by kernel_rfl) ?_
                             refine SL.nilJ fun a w h => ?_
                             exact ⟨x_32.1, x_32.2, hp, h.at (js := [.g 0, .g 1, .g 12, .g 3, .g 4, .g 5, .g 6, .g 7]) (by kernel_rfl)⟩
                           · refine SC.skipJ fun a w h => ?_
                             exact ⟨x_22.1, x_22.2, hp, h.at (js := [.g 0, .g 1, .g 9, .g 3, .g 4, .g 5, .g 6, .g 7]) (by kernel_rfl)⟩
                         · rintro a w ⟨l_23, x_24, hp, h⟩
                           refine h.go ?_
                           refine SC.r tk [(8, vp 1 0), (9, vp 3 0), (10, .f 40 [.p 1 0, .p 3 0]), (42, vs 0), (43, vi .i64 (len l_1)), (44, vi .i64 x_7), (59, vs 7), (60, vi .i64 (len x_10.Chars)), (61, vi .i64 x_16), (100, vs 6), (101, vi .i64 (len x_19.More)), (102, vi .i64 0)] [] [] [] (by kernel_rfl) ?_
                           refine SC.block ?_
                           obtain ⟨o3, hi3, ho3⟩ := bind_inv hp
                           clear hp
                           refine SC.loop (fun n a w => ∃ (l_25 : (List T_api_Attribute)) (x_26 : Int) (x_27 : Int), iter (fun s => database_Build_l3 F x_19 s.1 s.2.1 s.2.2) n (l_25, x_26, x_27) = some o3 ∧ A 119 1 fx [(8, vp 1 0), (9, vp 3 0), (10, .f 40 [.p 1 0, .p 3 0]), (42, vs 0), (43, vi .i64 (len l_1)), (44, vi .i64 x_7), (59, vs 4), (60, vi .i64 (len x_10.Chars)), (61, vi .i64 x_16), (100, vs 5), (101, vi .i64 (len x_19.More)), (102, vi .i64 x_27)] [.rd 4 R_T_api_Service l_1, .blk 22 [.s 2], .own 5 39 R_T_api_Attribute l_25, .blk 28 [ci .u16 x_26], .rd 6 R_T_api_Char x_10.Chars, .rd 5 R_T_api_Attribute x_19.More] a w) F (fun a w h => ⟨l_23, x_24, 0, hi3, h.at (js := [.g 0, .g 1, .g 2, .g 3, .g 7, .g 6]) (by kernel_rfl)⟩) ?_
                           rintro n3 a w ⟨l_25, x_26, x_27, hi3, h⟩
                           obtain ⟨n3, q3, rfl, hp, hs3⟩ := iter_inv hi3
                           replace hp : database_Build_l3 F x_19 l_25 x_26 x_27 = some q3 := hp
                           clear hi3
                           refine h.go ?_
                           refine SC.r tk [(8, vp 1 0), (9, vp 3 0), (10, .f 40 [.p 1 0, .p 3 0]), (42, vs 0), (43, vi .i64 (len l_1)), (44, vi .i64 x_7), (59, vs 4), (60, vi .i64 (len x_10.Chars)), (61, vi .i64 x_16), (100, vs 5), (101, vi .i64 (len x_19.More)), (102, vi .i64 x_27), (103, vb (decide (x_27 < (len x_19.More))))] [] [] [] (by kernel_rfl) ?_
                           refine SC.seq ?_
                           refine SC.if' rfl hp (fun hp => ?_) (fun hp => ?_)
                           · refine SC.skipThen ?_
                             refine SC.seq ?_
                             refine SC.block ?_
                             refine SC.seq ?_
                             refine SC.reg ?_
                             obtain ⟨x_28, e_x_28, hp⟩ := bind_inv hp
                             refine SL.pre (pre_ix (i := 5) (iv := x_27) (sz := 5) (R := R_T_api_Attribute) (l := x_19.More) (by kernel_rfl) rfl e_x_28) ?_
                             refine SL.sim tk 2 [(8, vp 1 0), (9, vp 3 0), (10, .f 40 [.p 1 0, .p 3 0]), (42, vs 0), (43, vi .i64 (len l_1)), (44, vi .i64 x_7), (59, vs 4), (60, vi .i64 (len x_10.Chars)), (61, vi .i64 x_16), (100, vs 5), (101, vi .i64 (len x_19.More)), (102, vi .i64 x_27), (105, .g (C_api_Attribute x_28 (.s 7)))] [] [.el 6] [x_27] (by kernel_rfl) ?_
                             refine SL.eff (e_alloc (E := 39) tk [ci .u16 0, ci .u64 0, ci .u64 0, ci .i64 0, nl] (by kernel_rfl)) rfl (by kernel_rfl) ?_
                             refine SL.sim tk 1 [(8, vp 1 0), (9, vp 3 0), (10, .f 40 [.p 1 0, .p 3 0]), (18, vp 8 0), (42, vs 0), (43, vi .i64 (len l_1)), (44, vi .i64 x_7), (59, vs 4), (60, vi .i64 (len x_10.Chars)), (61, vi .i64 x_16), (100, vs 5), (101, vi .i64 (len x_19.More)), (102, vi .i64 x_27)] [(8, 39, (C_api_Attribute x_28 (.s 7)))] [] [] (by kernel_rfl) ?_
                             refine SL.nilThen ?_
                             refine SC.reg ?_
                             refine SL.sim tk 7 [(8, vp 1 0), (9, vp 3 0), (10, .f 40 [.p 1 0, .p 3 0]), (42, vs 0), (43, vi .i64 (len l_1)), (44, vi .i64 x_7), (59, vs 4), (60, vi .i64 (len x_10.Chars)), (61, vi .i64 x_16), (100, vs 5), (101, vi .i64 (len x_19.More)), (102, vi .i64 x_27), (106, .f 40 [.p 1 0, .p 3 0]), (108, .g (C_api_UUID x_28.f_Type)), (110, vi .i64 x_28.Perms), (112, vs 7)] [] [] [] (by kernel_rfl) ?_
                             refine SL.eff (e_lit (sz := 1) (E := 37) (R := (RSl 1 R8)) (by_ := 24) tk [[.s 7]] [x_28.Value] (by kernel_rfl) ⟨(Clo.sl (by kernel_rfl)), trivial⟩ rfl (by kernel_rfl) (by kernel_rfl)) rfl (by kernel_rfl) ?_
                             refine SL.norm (itsN := [.rd 4 R_T_api_Service l_1, .blk 22 [.s 2], .own 5 39 R_T_api_Attribute l_25, .blk 28 [ci .u16 x_26], .rd 6 R_T_api_Char x_10.Chars, .rd 5 R_T_api_Attribute x_19.More, .elt (some (5, x_27)) false (C_api_Attribute x_28 (.s 7)), .rd 1 R8 x_28.Value, .blk 39 (C_api_Attribute x_28 (.s 7)), .own 1 37 (RSl 1 R8) [x_28.Value]]) (by kernel_rfl) ?_
                             obtain ⟨x_29, e_x_29, hp⟩ := bind_inv hp
                             refine SL.pre (pre_frz (i := 9) (sz := 1) (E := 37) (R := (RSl 1 R8)) (l := [x_28.Value]) (by kernel_rfl)) ?_
                             refine SL.eff (e_c Try.call40 (ok_database_Build_1 F x_28.f_Type x_28.Perms [x_28.Value] l_25 x_26 _ e_x_29) [.g 9, .g 1, .g 2, .g 3] [.g (C_api_UUID x_28.f_Type), vi .i64 x_28.Perms, vs 9, vp 1 0, vp 3 0] (.u []) (by kernel_rfl) (.inl rfl)) rfl (by kernel_rfl) ?_
                             refine SL.nilThen ?_
                             refine SC.reg ?_
                             refine SL.sim tk 2 [(8, vp 1 0), (9, vp 3 0), (10, .f 40 [.p 1 0, .p 3 0]), (42, vs 0), (43, vi .i64 (len l_1)), (44, vi .i64 x_7), (59, vs 4), (60, vi .i64 (len x_10.Chars)), (61, vi .i64 x_16), (100, vs 5), (101, vi .i64 (len x_19.More)), (102, vi .i64 (w64 (x_27 + 1)))] [] [] [] (by kernel_rfl) ?_
                             refine SL.nilJ fun a w h => ?_
                             exact ⟨n3, Nat.lt_succ_self _, x_29.1, x_29.2, w64 (x_27 + 1), next_inv hp hs3, h.at (js := [.g 0, .g 1, .g 10, .g 3, .g 4, .g 5]) (by kernel_rfl)⟩
                           · refine SC.exitJ rfl fun a w h => ?_
                             have ho := done_inv hp hs3
                             replace hp := ho3
                             try rw [ho] at hp
                             exact ⟨l_25, x_26, hp, h.at (js := [.g 0, .g 1, .g 2, .g 3, .g 4]) (by kernel_rfl)⟩
                     · rintro a w ⟨l_17, x_18, hp, h⟩
                       refine h.go ?_
                       refine SC.reg ?_
                       refine SL.sim tk 2 [(8, vp 1 0), (9, vp 3 0), (10, .f 40 [.p 1 0, .p 3 0]), (42, vs 0), (43, vi .i64 (len l_1)), (44, vi .i64 x_7), (59, vs 4), (60, vi .i64 (len x_10.Chars)), (61, vi .i64 (w64 (x_16 + 1)))] [] [] [] (by kernel_rfl) ?_
                       refine SL.nilJ fun a w h => ?_
                       exact ⟨n2, Nat.lt_succ_self _, l_17, x_18, w64 (x_16 + 1), next_inv hp hs2, h.at (js := [.g 0, .g 1, .g 2, .g 3, .g 4]) (by kernel_rfl)⟩
                   · refine SC.exitJ rfl fun a w h => ?_
                     have ho := done_inv hp hs2
                     replace hp := ho2
                     try rw [ho] at hp
                     exact ⟨l_14, x_15, hp, h.at (js := [.g 0, .g 1, .g 2, .g 3]) (by kernel_rfl)⟩
             · rintro a w ⟨l_8, x_9, hp, h⟩
               refine h.go ?_
               refine SC.reg ?_
               refine SL.sim tk 2 [(8, vp 1 0), (9, vp 3 0), (10, .f 40 [.p 1 0, .p 3 0]), (42, vs 0), (43, vi .i64 (len l_1)), (44, vi .i64 (w64 (x_7 + 1)))] [] [] [] (by kernel_rfl) ?_
               refine SL.nilJ fun a w h => ?_
               exact ⟨n1, Nat.lt_succ_self _, l_8, x_9, w64 (x_7 + 1), next_inv hp hs1, h.at (js := [.g 0, .g 1, .g 2, .g 3]) (by kernel_rfl)⟩
           · refine SC.exitJ rfl fun a w h => ?_
             have ho := done_inv hp hs1
             replace hp := ho1
             try rw [ho] at hp
             exact ⟨l_5, hp, h.at (js := [.g 0, .g 1, .g 2]) (by kernel_rfl)⟩
         · rintro a w ⟨l_4, hp, h⟩
           refine h.go ?_
           refine SC.r tk [(4, vs 2), (5, vi .i64 0)] [] [] [] (by kernel_rfl) ?_
           obtain rfl := some_inv' hp
           exact SC.re (js := [.g 0, .z 2]) tk (by kernel_rfl)

theorem ok_database_copied (F : Nat) (a_1 : T_api_Attribute) (r : T_api_Attribute) (hp : database_copied F a_1 = some r) : Spec Try.prog 54 [.g (C_api_Attribute a_1 (.s 0))] [.rd 1 R8 a_1.Value] (.g [ci .u16 r.Handle, ci .u64 r.f_Type.High, ci .u64 r.f_Type.Low, ci .i64 r.Perms, .s 1]) [.gone, .rd 1 R8 r.Value] := by
 refine Spec.enter Try.func54 rfl Try.ntmps54 rfl rfl fun fx => ?_
 refine SC.seq ?_
 refine SC.reg ?_
 refine SL.eff (e_box (E := 39) (C_api_Attribute a_1 (.s 0)) (by kernel_rfl)) rfl (by kernel_rfl) ?_
 refine SL.eff (e_alloc (E := 39) tk [ci .u16 0, ci .u64 0, ci .u64 0, ci .i64 0, nl] (by kernel_rfl)) rfl (by kernel_rfl) ?_
 refine SL.nilThen ?_
 refine SC.seq ?_
 refine SC.reg ?_
 refine SL.sim tk 2 [(1, vp 1 0), (2, vp 2 0), (4, vs 0)] [] [] [] (by kernel_rfl) ?_
 refine SL.eff (e_lit (sz := 1) (E := 37) (R := (RSl 1 R8)) (by_ := 24) tk [[.s 0]] [a_1.Value] (by kernel_rfl) ⟨(Clo.sl (by kernel_rfl)), trivial⟩ rfl (by kernel_rfl) (by kernel_rfl)) rfl (by kernel_rfl) ?_
 obtain ⟨x_2, e_x_2, hp⟩ := bind_inv hp
 refine SL.pre (pre_frz (i := 3) (sz := 1) (E := 37) (R := (RSl 1 R8)) (l := [a_1.Value]) (by kernel_rfl)) ?_
 refine SL.eff (e_c Try.call41 (ok_octets_Join F [a_1.Value] _ e_x_2) [.g 3] [vs 3] (vs 4) (by kernel_rfl) (.inl rfl)) rfl (by kernel_rfl) ?_
 refine SL.norm (itsN := [.rd 1 R8 a_1.Value, .blk 39 (C_api_Attribute a_1 (.s 0)), .blk 39 [ci .u16 0, ci .u64 0, ci .u64 0, ci .i64 0, nl], .rd 1 (RSl 1 R8) [a_1.Value], .rd 1 R8 x_2]) (by kernel_rfl) ?_
 refine SL.sim tk 2 [(1, vp 1 0), (2, vp 2 0)] [(1, 39, (C_api_Attribute ({ a_1 with Value := x_2 }) (.s 4)))] [] [] (by kernel_rfl) ?_
 refine SL.nilThen ?_
 refine SC.r tk [(2, vp 2 0)] [(2, 39, (C_api_Attribute ({ a_1 with Value := x_2 }) (.s 4)))] [] [] (by kernel_rfl) ?_
 obtain rfl := some_inv' hp
 exact SC.re (js := [.g 0, .g 4]) tk (by kernel_rfl)

theorem ok_database_Find_1 (F : Nat) (a_1 : T_api_Attribute) (p_2 : Int) (r : Bool × Int) (hp : database_Find_1 F a_1 p_2 = some r) : Spec Try.prog 53 [.g (C_api_Attribute a_1 (.s 0)), vp 1 0] [.rd 1 R8 a_1.Value, .blk 28 [ci .u16 p_2]] (vb r.1) [.gone, .blk 28 [ci .u16 r.2]] := by
 refine Spec.enter Try.func53 rfl Try.ntmps53 rfl rfl fun fx => ?_
 refine SC.seq ?_
 refine SC.reg ?_
 refine SL.eff (e_box (E := 39) (C_api_Attribute a_1 (.s 0)) (by kernel_rfl)) rfl (by kernel_rfl) ?_
 refine SL.sim tk 1 [(1, vp 1 0), (2, vp 2 0)] [] [] [] (by kernel_rfl) ?_
 refine SL.nilThen ?_
 refine SC.r tk [(3, vb (a_1.Handle == p_2))] [] [] [] (by kernel_rfl) ?_
 obtain rfl := some_inv' hp
 exact SC.re (js := [.g 0, .g 1]) tk (by kernel_rfl)

theorem ok_slices_IndexFunc_api_Attribute_api_Attribute_at53 (F : Nat) (s_1 : (List T_api_Attribute)) (c_2 : Int) (r : Int × Int) (hp : slices_IndexFunc_api_Attribute_api_Attribute_at53 F s_1 c_2 = some r) : Spec Try.prog 52 [vs 0, .f 53 [.p 1 0]] [.rd 5 R_T_api_Attribute s_1, .blk 28 [ci .u16 c_2]] (vi .i64 r.1) [.gone, .blk 28 [ci .u16 r.2]] := by
 refine Spec.enter Try.func52 rfl Try.ntmps52 rfl rfl fun fx => ?_
 refine SC.r tk [(0, vs 0), (1, .f 53 [.p 1 0])] [] [] [] (by kernel_rfl) ?_
 refine SC.cut (fun a w => ∃ (x_3 : Int), slices_IndexFunc_api_Attribute_api_Attribute_at53_j1 F x_3 = some r ∧ A 19 2 fx [] [.gone, .blk 28 [ci .u16 x_3]] a w) ?_ ?_
 · refine SC.r tk [(0, vs 0), (1, .f 53 [.p 1 0]), (7, vi .i64 (len s_1)), (8, vi .i64 0)] [] [] [] (by kernel_rfl) ?_
   refine SC.block ?_
   obtain ⟨o1, hi1, ho1⟩ := bind_inv hp
   clear hp
   refine SC.loop (fun n a w => ∃ (x_4 : Int) (x_5 : Int), iter (fun s => slices_IndexFunc_api_Attribute_api_Attribute_at53_l1 F s_1 s.1 s.2) n (x_4, x_5) = some o1 ∧ A 19 2 fx [(0, vs 0), (1, .f 53 [.p 1 0]), (7, vi .i64 (len s_1)), (8, vi .i64 x_5)] [.rd 5 R_T_api_Attribute s_1, .blk 28 [ci .u16 x_4]] a w) F (fun a w h => ⟨c_2, 0, hi1, h.at (js := [.g 0, .g 1]) (by kernel_rfl)⟩) ?_
   rintro n1 a w ⟨x_4, x_5, hi1, h⟩
   obtain ⟨n1, q1, rfl, hp, hs1⟩ := iter_inv hi1
   replace hp : slices_IndexFunc_api_Attribute_api_Attribute_at53_l1 F s_1 x_4 x_5 = some q1 := hp
   clear hi1
   refine h.go ?_
   refine SC.r tk [(0, vs 0), (1, .f 53 [.p 1 0]), (7, vi .i64 (len s_1)), (8, vi .i64 x_5), (9, vb (decide (x_5 < (len s_1))))] [] [] [] (by kernel_rfl) ?_
   refine SC.seq ?_
   refine SC.if' rfl hp (fun hp => ?_) (fun hp => ?_)
   · refine SC.skipThen ?_
     refine SC.seq ?_
     refine SC.block ?_
     refine SC.r tk [(0, vs 0), (1, .f 53 [.p 1 0]), (5, vi .i64 x_5), (7, vi .i64 (len s_1)), (8, vi .i64 x_5)] [] [] [] (by kernel_rfl) ?_
     refine SC.seq ?_
     refine SC.reg ?_
     obtain ⟨x_6, e_x_6, hp⟩ := bind_inv hp
     refine SL.pre (pre_ix (i := 0) (iv := x_5) (sz := 5) (R := R_T_api_Attribute) (l := s_1) (by kernel_rfl) rfl e_x_6) ?_
     refine SL.sim tk 5 [(0, vs 0), (1, .f 53 [.p 1 0]), (5, vi .i64 x_5), (7, vi .i64 (len s_1)), (8, vi .i64 x_5), (11, .f 53 [.p 1 0]), (15, .g (C_api_Attribute x_6 (.s 3)))] [] [.el 2] [x_5] (by kernel_rfl) ?_
     obtain ⟨x_7, e_x_7, hp⟩ := bind_inv hp
     refine SL.eff (e_c Try.call53 (ok_database_Find_1 F x_6 x_4 _ e_x_7) [.g 3, .g 1] [.g (C_api_Attribute x_6 (.s 3)), vp 1 0] (vb x_7.1) (by kernel_rfl) (.inl rfl)) rfl (by kernel_rfl) ?_
     refine SL.nilThen ?_
     refine SC.if' rfl hp (fun hp => ?_) (fun hp => ?_)
     · refine SC.r tk [(4, vi .i64 x_5)] [] [] [] (by kernel_rfl) ?_
       have ho := done_inv hp hs1
       replace hp := ho1
       try rw [ho] at hp
       obtain rfl := some_inv' hp
       exact SC.re (js := [.g 0, .g 1]) tk (by kernel_rfl)
     · refine SC.skipThen ?_
       refine SC.reg ?_
       refine SL.sim tk 2 [(0, vs 0), (1, .f 53 [.p 1 0]), (7, vi .i64 (len s_1)), (8, vi .i64 (w64 (x_5 + 1)))] [] [] [] (by kernel_rfl) ?_
       refine SL.nilJ fun a w h => ?_
       exact ⟨n1, Nat.lt_succ_self _, x_7.2, w64 (x_5 + 1), next_inv hp hs1, h.at (js := [.g 0, .g 1]) (by kernel_rfl)⟩
   · refine SC.exitJ rfl fun a w h => ?_
     have ho := done_inv hp hs1
     replace hp := ho1
     try rw [ho] at hp
     exact ⟨x_4, hp, h.at (js := [.g 0, .g 1]) (by kernel_rfl)⟩
 · rintro a w ⟨x_3, hp, h⟩
   refine h.go ?_
   refine SC.r tk [(4, vi .i64 (-1))] [] [] [] (by kernel_rfl) ?_
   obtain rfl := some_inv' hp
   exact SC.re (js := [.g 0, .g 1]) tk (by kernel_rfl)

theorem ok_database_Find (F : Nat) (db_1 : (List T_api_Attribute)) (handle_2 : Int) (r : Int) (hp : database_Find F db_1 handle_2 = some r) : Spec Try.prog 22 [vs 0, vi .u16 handle_2] [.rd 5 R_T_api_Attribute db_1] (vi .i64 r) [.gone] := by
 refine Spec.enter Try.func22 rfl Try.ntmps22 rfl rfl fun fx => ?_
 refine SC.seq ?_
 refine SC.reg ?_
 refine SL.eff (e_box (E := 28) [ci .u16 handle_2] (by kernel_rfl)) rfl (by kernel_rfl) ?_
 refine SL.sim tk 1 [(0, vs 0), (3, vp 1 0)] [] [] [] (by kernel_rfl) ?_
 refine SL.nilThen ?_
 refine SC.seq ?_
 refine SC.reg ?_
 refine SL.sim tk 2 [(5, vs 0), (6, .f 53 [.p 1 0])] [] [] [] (by kernel_rfl) ?_
 obtain ⟨x_3, e_x_3, hp⟩ := bind_inv hp
 refine SL.eff (e_c Try.call52 (ok_slices_IndexFunc_api_Attribute_api_Attribute_at53 F db_1 handle_2 _ e_x_3) [.g 0, .g 1] [vs 0, .f 53 [.p 1 0]] (vi .i64 x_3.1) (by kernel_rfl) (.inl rfl)) rfl (by kernel_rfl) ?_
 refine SL.sim tk 1 [(4, vi .i64 x_3.1)] [] [] [] (by kernel_rfl) ?_
 refine SL.nilThen ?_
 obtain rfl := some_inv' hp
 exact SC.re (js := [.g 0]) tk (by kernel_rfl)

theorem ok_database_Set (F : Nat) (db_1 : (List T_api_Attribute)) (handle_2 : Int) (value_3 : (List Int)) (r : (List T_api_Attribute) × Int) (hp : database_Set F db_1 handle_2 value_3 = some r) : Spec Try.prog 30 [vs 0, vi .u16 handle_2, vs 1] [.rd 5 R_T_api_Attribute db_1, .rd 1 R8 value_3] (.u [.inl (.s 2), .inl (ci .i64 r.2)]) [.gone, .gone, .rd 5 R_T_api_Attribute r.1] := by
 refine Spec.enter Try.func30 rfl Try.ntmps30 rfl rfl fun fx => ?_
 refine SC.r tk [(0, vs 0), (1, vi .u16 handle_2), (2, vs 1)] [] [] [] (by kernel_rfl) ?_
 refine SC.r tk [(0, vs 0), (1, vi .u16 handle_2), (2, vs 1), (8, vn)] [] [] [] (by kernel_rfl) ?_
 refine SC.cut (fun a w => ∃ (l_4 : (List T_api_Attribute)), database_Set_j1 F handle_2 value_3 l_4 = some r ∧ A 52 2 fx [(1, vi .u16 handle_2), (2, vs 1), (8, vs 2)] [.gone, .rd 1 R8 value_3, .own 5 39 R_T_api_Attribute l_4] a w) ?_ ?_
 · refine SC.r tk [(1, vi .u16 handle_2), (2, vs 1), (8, vn), (12, vs 0), (13, vi .i64 (len db_1)), (14, vi .i64 0)] [] [] [] (by kernel_rfl) ?_
   refine SC.block ?_
   obtain ⟨o1, hi1, ho1⟩ := bind_inv hp
   clear hp
   refine SC.loop (fun n a w => ∃ (l_11 : (List T_api_Attribute)) (x_12 : Int), iter (fun s => database_Set_l1 F db_1 s.1 s.2) n (l_11, x_12) = some o1 ∧ A 52 2 fx [(1, vi .u16 handle_2), (2, vs 1), (8, vs 2), (12, vs 0), (13, vi .i64 (len db_1)), (14, vi .i64 x_12)] [.rd 5 R_T_api_Attribute db_1, .rd 1 R8 value_3, .own 5 39 R_T_api_Attribute l_11] a w) F (fun a w h => ⟨[], 0, hi1, h.at (js := [.g 0, .g 1, .n]) (by kernel_rfl)⟩) ?_
   rintro n1 a w ⟨l_11, x_12, hi1, h⟩
   obtain ⟨n1, q1, rfl, hp, hs1⟩ := iter_inv hi1
   replace hp : database_Set_l1 F db_1 l_11 x_12 = some q1 := hp
   clear hi1
   refine h.go ?_
   refine SC.r tk [(1, vi .u16 handle_2), (2, vs 1), (8, vs 2), (12, vs 0), (13, vi .i64 (len db_1)), (14, vi .i64 x_12), (15, vb (decide (x_12 < (len db_1))))] [] [] [] (by kernel_rfl) ?_
   refine SC.seq ?_
   refine SC.if' rfl hp (fun hp => ?_) (fun hp => ?_)
   · refine SC.skipThen ?_
     refine SC.seq ?_
     refine SC.block ?_
     refine SC.seq ?_
     refine SC.reg ?_
     obtain ⟨x_13, e_x_13, hp⟩ := bind_inv hp
     refine SL.pre (pre_ix (i := 0) (iv := x_12) (sz := 5) (R := R_T_api_Attribute) (l := db_1) (by kernel_rfl) rfl e_x_13) ?_
     refine SL.sim tk 2 [(1, vi .u16 handle_2), (2, vs 1), (8, vs 2), (12, vs 0), (13, vi .i64 (len db_1)), (14, vi .i64 x_12), (17, .g (C_api_Attribute x_13 (.s 4)))] [] [.el 3] [x_12] (by kernel_rfl) ?_
     refine SL.eff (e_alloc (E := 39) tk [ci .u16 0, ci .u64 0, ci .u64 0, ci .i64 0, nl] (by kernel_rfl)) rfl (by kernel_rfl) ?_
     refine SL.sim tk 1 [(1, vi .u16 handle_2), (2, vs 1), (8, vs 2), (10, vp 5 0), (12, vs 0), (13, vi .i64 (len db_1)), (14, vi .i64 x_12)] [(5, 39, (C_api_Attribute x_13 (.s 4)))] [] [] (by kernel_rfl) ?_
     refine SL.nilThen ?_
     refine SC.reg ?_
     refine SL.sim tk 2 [(1, vi .u16 handle_2), (2, vs 1), (8, vs 2), (12, vs 0), (13, vi .i64 (len db_1)), (14, vi .i64 x_12), (18, vs 2), (19, .g (C_api_Attribute x_13 (.s 4)))] [] [] [] (by kernel_rfl) ?_
     obtain ⟨x_14, e_x_14, hp⟩ := bind_inv hp
     refine SL.eff (e_c Try.call54 (ok_database_copied F x_13 _ e_x_14) [.g 4] [.g (C_api_Attribute x_13 (.s 4))] (.g (C_api_Attribute x_14 (.s 6))) (by kernel_rfl) (.inl rfl)) rfl (by kernel_rfl) ?_
     refine SL.norm (itsN := [.rd 5 R_T_api_Attribute db_1, .rd 1 R8 value_3, .own 5 39 R_T_api_Attribute l_11, .elt (some (0, x_12)) false (C_api_Attribute x_13 (.s 4)), .rd 1 R8 x_13.Value, .blk 39 (C_api_Attribute x_13 (.s 4)), .rd 1 R8 x_14.Value]) (by kernel_rfl) ?_
     refine SL.eff (e_lit (sz := 5) (E := 39) (R := R_T_api_Attribute) (by_ := 56) tk [(C_api_Attribute x_14 (.s 6))] [x_14] (by kernel_rfl) ⟨(clo_T_api_Attribute (x := x_14) (Clo.sl (by kernel_rfl))), trivial⟩ rfl (by kernel_rfl) (by kernel_rfl)) rfl (by kernel_rfl) ?_
     obtain ⟨l_15, e_l_15, hp⟩ := bind_inv hp
     refine SL.eff (e_app (i := 2) (l := l_11) (sz := 5) (E := 39) (R := R_T_api_Attribute) (by_ := 56) (m := [x_14]) tk rfl (by kernel_rfl) rfl (.o 39 (by kernel_rfl)) e_l_15 (by kernel_rfl)) rfl (by kernel_rfl) ?_
     refine SL.sim tk 1 [(1, vi .u16 handle_2), (2, vs 1), (8, vs 8), (12, vs 0), (13, vi .i64 (len db_1)), (14, vi .i64 x_12)] [] [] [] (by kernel_rfl) ?_
     refine SL.nilThen ?_
     refine SC.reg ?_
     refine SL.sim tk 2 [(1, vi .u16 handle_2), (2, vs 1), (8, vs 8), (12, vs 0), (13, vi .i64 (len db_1)), (14, vi .i64 (w64 (x_12 + 1)))] [] [] [] (by kernel_rfl) ?_
     refine SL.nilJ fun a w h => ?_
     exact ⟨n1, Nat.lt_succ_self _, l_15, w64 (x_12 + 1), next_inv hp hs1, h.at (js := [.g 0, .g 1, .g 8]) (by kernel_rfl)⟩
   · refine SC.exitJ rfl fun a w h => ?_
     have ho := done_inv hp hs1
     replace hp := ho1
     try rw [ho] at hp
     exact ⟨l_11, hp, h.at (js := [.g 0, .g 1, .g 2]) (by kernel_rfl)⟩
 · rintro a w ⟨l_4, hp, h⟩
   refine h.go ?_
   refine SC.seq ?_
   refine SC.reg ?_
   refine SL.sim tk 2 [(2, vs 1), (8, vs 2), (24, vs 2), (25, vi .u16 handle_2)] [] [] [] (by kernel_rfl) ?_
   obtain ⟨x_5, e_x_5, hp⟩ := bind_inv hp
   refine SL.eff (e_c Try.call22 (ok_database_Find F l_4 handle_2 _ e_x_5) [.l 2] [vs 2, vi .u16 handle_2] (vi .i64 x_5) (by kernel_rfl) (.inr ⟨trivial, trivial⟩)) rfl (by kernel_rfl) ?_
   refine SL.sim tk 1 [(2, vs 1), (8, vs 2), (11, vi .i64 x_5)] [] [] [] (by kernel_rfl) ?_
   refine SL.nilThen ?_
   refine SC.seq ?_
   refine SC.block ?_
   refine SC.r tk [(2, vs 1), (8, vs 2), (11, vi .i64 x_5), (27, vb (decide (x_5 < 0)))] [] [] [] (by kernel_rfl) ?_
   refine SC.if' rfl hp (fun hp => ?_) (fun hp => ?_)
   · refine SC.r tk [(6, vs 2), (7, vi .i64 6)] [] [] [] (by kernel_rfl) ?_
     obtain rfl := some_inv' hp
     exact SC.re (js := [.g 0, .g 1, .z 2]) tk (by kernel_rfl)
   · refine SC.seq ?_
     refine SC.reg ?_
     obtain ⟨x_6, e_x_6, hp⟩ := bind_inv hp
     refine SL.pre (pre_ixo (i := 2) (iv := x_5) (sz := 5) (E := 39) (R := R_T_api_Attribute) (l := l_4) (by kernel_rfl) rfl e_x_6) ?_
     refine SL.sim tk 5 [(2, vs 1), (8, vs 2), (11, vi .i64 x_5), (36, .g (C_api_UUID x_6.f_Type))] [] [.el 3] [x_5] (by kernel_rfl) ?_
     obtain ⟨x_7, e_x_7, hp⟩ := bind_inv hp
     refine SL.pre (pre_kill) ?_
     refine SL.eff (e_c Try.call66 (ok_database_reserved F x_6.f_Type _ e_x_7) [] [.g (C_api_UUID x_6.f_Type)] (vb x_7) (by kernel_rfl) (.inl rfl)) rfl (by kernel_rfl) ?_
     refine SL.norm (itsN := [.gone, .rd 1 R8 value_3, .own 5 39 R_T_api_Attribute l_4, .gone, .rd 1 R8 x_6.Value]) (by kernel_rfl) ?_
     refine SL.sim tk 1 [(2, vs 1), (8, vs 2), (11, vi .i64 x_5), (31, vb x_7)] [] [] [] (by kernel_rfl) ?_
     refine SL.nilThen ?_
     refine SC.if' rfl hp (fun hp => ?_) (fun hp => ?_)
     · refine SC.r tk [(6, vs 2), (7, vi .i64 14)] [] [] [] (by kernel_rfl) ?_
       obtain rfl := some_inv' hp
       exact SC.re (js := [.g 0, .g 1, .z 2]) tk (by kernel_rfl)
     · refine SC.r tk [(2, vs 1), (8, vs 2), (11, vi .i64 x_5), (39, vb (decide ((len value_3) > 512)))] [] [] [] (by kernel_rfl) ?_
       refine SC.if' rfl hp (fun hp => ?_) (fun hp => ?_)
       · refine SC.r tk [(6, vs 2), (7, vi .i64 4)] [] [] [] (by kernel_rfl) ?_
         obtain rfl := some_inv' hp
         exact SC.re (js := [.g 0, .g 1, .z 2]) tk (by kernel_rfl)
       · refine SC.skipThen ?_
         refine SC.seq ?_
         refine SC.reg ?_
         refine SL.sim tk 3 [(8, vs 2), (44, vs 2), (45, vi .i64 x_5), (46, vs 1)] [] [] [] (by kernel_rfl) ?_
         refine SL.eff (e_lit (sz := 1) (E := 37) (R := (RSl 1 R8)) (by_ := 24) tk [[.s 1]] [value_3] (by kernel_rfl) ⟨(Clo.sl (by kernel_rfl)), trivial⟩ rfl (by kernel_rfl) (by kernel_rfl)) rfl (by kernel_rfl) ?_
         obtain ⟨x_8, e_x_8, hp⟩ := bind_inv hp
         refine SL.pre (pre_frz (i := 5) (sz := 1) (E := 37) (R := (RSl 1 R8)) (l := [value_3]) (by kernel_rfl)) ?_
         refine SL.eff (e_c Try.call41 (ok_octets_Join F [value_3] _ e_x_8) [.g 5] [vs 5] (vs 6) (by kernel_rfl) (.inl rfl)) rfl (by kernel_rfl) ?_
         obtain ⟨x_9, e_x_9, hp⟩ := bind_inv hp
         refine SL.pre (pre_ixo (i := 2) (iv := x_5) (sz := 5) (E := 39) (R := R_T_api_Attribute) (l := l_4) (by kernel_rfl) rfl e_x_9) ?_
         refine SL.sim tk 2 [(8, vs 2), (48, vs 6), (50, vp 7 4)] [] [.el 7] [x_5] (by kernel_rfl) ?_
         obtain ⟨l_10, e_l_10, hp⟩ := bind_inv hp
         refine SL.eff0 (e_updf (sz := 5) (R := R_T_api_Attribute) (i := 2) (iv := x_5) (cs1 := (C_api_Attribute ({ x_9 with Value := x_8 }) (.s 6))) (e := { x_9 with Value := x_8 }) tk rfl rfl rfl (by kernel_rfl) rfl rfl rfl (clo_T_api_Attribute (x := { x_9 with Value := x_8 }) (Clo.sl (by kernel_rfl))) (by kernel_rfl) (by kernel_rfl) e_l_10) ?_
         refine SL.norm (itsN := [.gone, .rd 1 R8 value_3, .own 5 39 R_T_api_Attribute l_10, .gone, .rd 1 R8 x_6.Value, .rd 1 (RSl 1 R8) [value_3], .rd 1 R8 x_8, .gone, .rd 1 R8 x_9.Value]) (by kernel_rfl) ?_
         refine SL.nilThen ?_
         refine SC.r tk [(6, vs 2), (7, vi .i64 0)] [] [] [] (by kernel_rfl) ?_
         obtain rfl := some_inv' hp
         exact SC.re (js := [.g 0, .g 1, .z 2]) tk (by kernel_rfl)

theorem ok_database_Group (F : Nat) (db_1 : (List T_api_Attribute)) (handle_2 : Int) (r : Int × Bool) (hp : database_Group F db_1 handle_2 = some r) : Spec Try.prog 20 [vs 0, vi .u16 handle_2] [.rd 5 R_T_api_Attribute db_1] (.u [.inl (ci .u16 r.1), .inl (cb r.2)]) [.gone] := by
 refine Spec.enter Try.func20 rfl Try.ntmps20 rfl rfl fun fx => ?_
 refine SC.r tk [(0, vs 0), (1, vi .u16 handle_2)] [] [] [] (by kernel_rfl) ?_
 refine SC.seq ?_
 refine SC.reg ?_
 refine SL.sim tk 2 [(0, vs 0), (7, vs 0), (8, vi .u16 handle_2)] [] [] [] (by kernel_rfl) ?_
 obtain ⟨x_3, e_x_3, hp⟩ := bind_inv hp
 refine SL.eff (e_c Try.call22 (ok_database_Find F db_1 handle_2 _ e_x_3) [.g 0] [vs 0, vi .u16 handle_2] (vi .i64 x_3) (by kernel_rfl) (.inl rfl)) rfl (by kernel_rfl) ?_
 refine SL.sim tk 1 [(0, vs 0), (6, vi .i64 x_3)] [] [] [] (by kernel_rfl) ?_
 refine SL.nilThen ?_
 refine SC.seq ?_
 refine SC.seq ?_
 refine SC.reg ?_
 refine SL.sim tk 3 [(0, vs 0), (6, vi .i64 x_3), (12, vb (decide (x_3 < 0)))] [] [] [] (by kernel_rfl) ?_
 obtain ⟨z_5, hz, hpr⟩ := bind_inv hp
 clear hp
 refine SL.cutAt 8 (fun a w => A 43 1 fx [(0, vs 0), (6, vi .i64 x_3), (20, vb z_5)] [.rd 5 R_T_api_Attribute db_1] a w) ?_ ?_
 · have hp := hz
   rcases Bool.eq_false_or_eq_true (decide (x_3 < 0)) with hg_4 | hg_4
   · replace hp := if_t hp hg_4
     refine SL.no rfl rfl hg_4 rfl ?_
     refine SL.no rfl rfl hg_4 rfl ?_
     refine SL.no rfl rfl hg_4 rfl ?_
     refine SL.no rfl rfl hg_4 rfl ?_
     refine SL.no rfl rfl hg_4 rfl ?_
     refine SL.no rfl rfl hg_4 rfl ?_
     refine SL.no rfl rfl hg_4 rfl ?_
     refine SL.pickt rfl hg_4 rfl rfl ?_
     refine SL.nilJ fun a w h => ?_
     obtain rfl := some_inv' hp
     exact h.at (js := [.g 0]) (by kernel_rfl)
   · replace hp := if_f hp hg_4
     refine SL.yes rfl rfl hg_4 ?_
     refine SL.sim tk 1 [(0, vs 0), (6, vi .i64 x_3), (12, vb (decide (x_3 < 0))), (13, vs 0)] [] [] [] (by kernel_rfl) ?_
     refine SL.yes rfl rfl hg_4 ?_
     refine SL.sim tk 1 [(0, vs 0), (6, vi .i64 x_3), (12, vb (decide (x_3 < 0))), (13, vs 0), (14, vi .i64 x_3)] [] [] [] (by kernel_rfl) ?_
     refine SL.yes rfl rfl hg_4 ?_
     obtain ⟨x_15, e_x_15, hp⟩ := bind_inv hp
     refine SL.pre (pre_ix (i := 0) (iv := x_3) (sz := 5) (R := R_T_api_Attribute) (l := db_1) (by kernel_rfl) rfl e_x_15) ?_
     refine SL.sim tk 1 [(0, vs 0), (6, vi .i64 x_3), (12, vb (decide (x_3 < 0))), (15, vp 1 0)] [] [.el 1] [x_3] (by kernel_rfl) ?_
     refine SL.yes rfl rfl hg_4 ?_
     refine SL.sim tk 1 [(0, vs 0), (6, vi .i64 x_3), (12, vb (decide (x_3 < 0))), (16, vp 1 1)] [] [] [] (by kernel_rfl) ?_
     refine SL.yes rfl rfl hg_4 ?_
     refine SL.sim tk 1 [(0, vs 0), (6, vi .i64 x_3), (12, vb (decide (x_3 < 0))), (17, .g (C_api_UUID x_15.f_Type))] [] [] [] (by kernel_rfl) ?_
     refine SL.yes rfl rfl hg_4 ?_
     obtain ⟨x_16, e_x_16, hp⟩ := bind_inv hp
     refine SL.eff (e_c Try.call36 (ok_database_service F x_15.f_Type _ e_x_16) [] [.g (C_api_UUID x_15.f_Type)] (vb x_16) (by kernel_rfl) (.inl rfl)) rfl (by kernel_rfl) ?_
     refine SL.norm (itsN := [.rd 5 R_T_api_Attribute db_1, .elt (some (0, x_3)) false (C_api_Attribute x_15 (.s 2)), .rd 1 R8 x_15.Value]) (by kernel_rfl) ?_
     refine SL.yes rfl rfl hg_4 ?_
     refine SL.sim tk 1 [(0, vs 0), (6, vi .i64 x_3), (12, vb (decide (x_3 < 0))), (19, vb (!x_16))] [] [] [] (by kernel_rfl) ?_
     refine SL.pickf rfl hg_4 rfl rfl ?_
     refine SL.nilJ fun a w h => ?_
     obtain rfl := some_inv' hp
     exact h.at (js := [.g 0]) (by kernel_rfl)
 · intro a w h
   have hp := hpr; clear hpr hz
   refine h.goL ?_
   refine SL.nilThen ?_
   refine SC.if' rfl hp (fun hp => ?_) (fun hp => ?_)
   · refine SC.r tk [(4, vi .u16 0), (5, vb false)] [] [] [] (by kernel_rfl) ?_
     obtain rfl := some_inv' hp
     exact SC.re (js := [.g 0]) tk (by kernel_rfl)
   · refine SC.skipThen ?_
     refine SC.cut (fun a w => ∃ (x_6 : Int), database_Group_j1 F db_1 x_6 = some r ∧ A 43 1 fx [(0, vs 0), (6, vi .i64 x_6)] [.rd 5 R_T_api_Attribute db_1] a w) ?_ ?_
     · refine SC.block ?_
       obtain ⟨o1, hi1, ho1⟩ := bind_inv hp
       clear hp
       refine SC.loop (fun n a w => ∃ (x_8 : Int), iter (fun s => database_Group_l1 F db_1 s) n (x_8) = some o1 ∧ A 43 1 fx [(0, vs 0), (6, vi .i64 x_8)] [.rd 5 R_T_api_Attribute db_1] a w) F (fun a w h => ⟨x_3, hi1, h.at (js := [.g 0]) (by kernel_rfl)⟩) ?_
       rintro n1 a w ⟨x_8, hi1, h⟩
       obtain ⟨n1, q1, rfl, hp, hs1⟩ := iter_inv hi1
       replace hp : database_Group_l1 F db_1 x_8 = some q1 := hp
       clear hi1
       refine h.go ?_
       refine SC.seq ?_
       refine SC.seq ?_
       refine SC.reg ?_
       refine SL.sim tk 6 [(0, vs 0), (6, vi .i64 x_8), (26, vb (decide ((w64 (x_8 + 1)) < (len db_1))))] [] [] [] (by kernel_rfl) ?_
       obtain ⟨z_10, hz, hpr⟩ := bind_inv hp
       clear hp
       refine SL.cutAt 9 (fun a w => A 43 1 fx [(0, vs 0), (6, vi .i64 x_8), (35, vb z_10)] [.rd 5 R_T_api_Attribute db_1] a w) ?_ ?_
       · have hp := hz
         rcases Bool.eq_false_or_eq_true (decide ((w64 (x_8 + 1)) < (len db_1))) with hg_9 | hg_9
         · replace hp := if_t hp hg_9
           refine SL.yes rfl rfl hg_9 ?_
           refine SL.sim tk 1 [(0, vs 0), (6, vi .i64 x_8), (26, vb (decide ((w64 (x_8 + 1)) < (len db_1)))), (27, vs 0)] [] [] [] (by kernel_rfl) ?_
           refine SL.yes rfl rfl hg_9 ?_
           refine SL.sim tk 1 [(0, vs 0), (6, vi .i64 x_8), (26, vb (decide ((w64 (x_8 + 1)) < (len db_1)))), (27, vs 0), (28, vi .i64 x_8)] [] [] [] (by kernel_rfl) ?_
           refine SL.yes rfl rfl hg_9 ?_
           refine SL.sim tk 1 [(0, vs 0), (6, vi .i64 x_8), (26, vb (decide ((w64 (x_8 + 1)) < (len db_1)))), (27, vs 0), (28, vi .i64 x_8), (29, vi .i64 (w64 (x_8 + 1)))] [] [] [] (by kernel_rfl) ?_
           refine SL.yes rfl rfl hg_9 ?_
           obtain ⟨x_12, e_x_12, hp⟩ := bind_inv hp
           refine SL.pre (pre_ix (i := 0) (iv := w64 (x_8 + 1)) (sz := 5) (R := R_T_api_Attribute) (l := db_1) (by kernel_rfl) rfl e_x_12) ?_
           refine SL.sim tk 1 [(0, vs 0), (6, vi .i64 x_8), (26, vb (decide ((w64 (x_8 + 1)) < (len db_1)))), (27, vs 0), (28, vi .i64 x_8), (29, vi .i64 (w64 (x_8 + 1))), (30, vp 1 0)] [] [.el 1] [w64 (x_8 + 1)] (by kernel_rfl) ?_
           refine SL.yes rfl rfl hg_9 ?_
           refine SL.sim tk 1 [(0, vs 0), (6, vi .i64 x_8), (26, vb (decide ((w64 (x_8 + 1)) < (len db_1)))), (27, vs 0), (28, vi .i64 x_8), (29, vi .i64 (w64 (x_8 + 1))), (30, vp 1 0), (31, vp 1 1)] [] [] [] (by kernel_rfl) ?_
           refine SL.yes rfl rfl hg_9 ?_
           refine SL.sim tk 1 [(0, vs 0), (6, vi .i64 x_8), (26, vb (decide ((w64 (x_8 + 1)) < (len db_1)))), (27, vs 0), (28, vi .i64 x_8), (29, vi .i64 (w64 (x_8 + 1))), (30, vp 1 0), (31, vp 1 1), (32, .g (C_api_UUID x_12.f_Type))] [] [] [] (by kernel_rfl) ?_
           refine SL.yes rfl rfl hg_9 ?_
           obtain ⟨x_13, e_x_13, hp⟩ := bind_inv hp
           refine SL.eff (e_c Try.call36 (ok_database_service F x_12.f_Type _ e_x_13) [] [.g (C_api_UUID x_12.f_Type)] (vb x_13) (by kernel_rfl) (.inl rfl)) rfl (by kernel_rfl) ?_
           refine SL.yes rfl rfl hg_9 ?_
           refine SL.sim tk 1 [(0, vs 0), (6, vi .i64 x_8), (26, vb (decide ((w64 (x_8 + 1)) < (len db_1)))), (27, vs 0), (28, vi .i64 x_8), (29, vi .i64 (w64 (x_8 + 1))), (30, vp 1 0), (31, vp 1 1), (32, .g (C_api_UUID x_12.f_Type)), (33, vb x_13), (34, vb (!x_13))] [] [] [] (by kernel_rfl) ?_
           refine SL.pickt rfl hg_9 rfl rfl ?_
           refine SL.nilJ fun a w h => ?_
           obtain rfl := some_inv' hp
           exact h.at (js := [.g 0]) (by kernel_rfl)
         · replace hp := if_f hp hg_9
           refine SL.no rfl rfl hg_9 rfl ?_
           refine SL.no rfl rfl hg_9 rfl ?_
           refine SL.no rfl rfl hg_9 rfl ?_
           refine SL.no rfl rfl hg_9 rfl ?_
           refine SL.no rfl rfl hg_9 rfl ?_
           refine SL.no rfl rfl hg_9 rfl ?_
           refine SL.no rfl rfl hg_9 rfl ?_
           refine SL.no rfl rfl hg_9 rfl ?_
           refine SL.pickf rfl hg_9 rfl rfl ?_
           refine SL.nilJ fun a w h => ?_
           obtain rfl := some_inv' hp
           exact h.at (js := [.g 0]) (by kernel_rfl)
       · intro a w h
         have hp := hpr; clear hpr hz
         refine h.goL ?_
         refine SL.nilThen ?_
         refine SC.if' rfl hp (fun hp => ?_) (fun hp => ?_)
         · refine SC.skipThen ?_
           refine SC.block ?_
           refine SC.reg ?_
           refine SL.sim tk 3 [(0, vs 0), (6, vi .i64 (w64 (x_8 + 1)))] [] [] [] (by kernel_rfl) ?_
           refine SL.nilJ fun a w h => ?_
           exact ⟨n1, Nat.lt_succ_self _, w64 (x_8 + 1), next_inv hp hs1, h.at (js := [.g 0]) (by kernel_rfl)⟩
         · refine SC.exitJ rfl fun a w h => ?_
           have ho := done_inv hp hs1
           replace hp := ho1
           try rw [ho] at hp
           exact ⟨x_8, hp, h.at (js := [.g 0]) (by kernel_rfl)⟩
     · rintro a w ⟨x_6, hp, h⟩
       refine h.go ?_
       obtain ⟨x_7, e_x_7, hp⟩ := bind_inv hp
       refine SC.pre (pre_ix (i := 0) (iv := x_6) (sz := 5) (R := R_T_api_Attribute) (l := db_1) (by kernel_rfl) rfl e_x_7) ?_
       refine SC.r tk [(4, vi .u16 x_7.Handle), (5, vb true)] [] [.el 1] [x_6] (by kernel_rfl) ?_
       obtain rfl := some_inv' hp
       exact SC.re (js := [.g 0]) tk (by kernel_rfl)

theorem ok_uuid_Decode (F : Nat) (b_1 : (List Int)) (r : T_api_UUID × Int) (hp : uuid_Decode F b_1 = some r) : Spec Try.prog 49 [vs 0] [.rd 1 R8 b_1] (.u [.inr [ci .u64 r.1.High, ci .u64 r.1.Low], .inl (ci .i64 r.2)]) [.gone] := by
 refine Spec.enter Try.func49 rfl Try.ntmps49 rfl rfl fun fx => ?_
 refine SC.seq ?_
 refine SC.reg ?_
 refine SL.eff (e_alloc (E := 36) tk [ci .u64 0, ci .u64 0] (by kernel_rfl)) rfl (by kernel_rfl) ?_
 refine SL.sim tk 1 [(0, vs 0), (2, vp 1 0)] [] [] [] (by kernel_rfl) ?_
 refine SL.nilThen ?_
 refine SC.seq ?_
 refine SC.block ?_
 refine SC.r tk [(0, vs 0), (2, vp 1 0), (8, vb ((len b_1) == 2))] [] [] [] (by kernel_rfl) ?_
 refine SC.if' rfl hp (fun hp => ?_) (fun hp => ?_)
 · refine SC.cut (fun a w => ∃ (c_4 : T_api_UUID), uuid_Decode_j1 F c_4 = some r ∧ A 70 1 fx [(2, vp 1 0), (3, vi .i64 0)] [.gone, .blk 36 (C_api_UUID c_4)] a w) ?_ ?_
   · obtain ⟨x_5, e_x_5, hp⟩ := bind_inv hp
     obtain ⟨x_6, e_x_6, hp⟩ := bind_inv hp
     refine SC.pre (pre_ix (i := 0) (iv := 0) (sz := 1) (R := R8) (l := b_1) (by kernel_rfl) rfl e_x_5) ?_
     refine SC.pre (pre_ix (i := 0) (iv := 1) (sz := 1) (R := R8) (l := b_1) (by kernel_rfl) rfl e_x_6) ?_
     refine SC.draw MO [true, false, true, true] (by kernel_rfl) fun kap_7 D_8 => ?_
     refine SD.takes tk D_8 [] kn0 [0, 1, 2, 3, 4, 5, 6, 7, 8, 9] [.el 2, .el 3, .bin .shl .u16 (wu16 x_6) 8 (shlp .u16 (wu16 x_6) 8) (by kernel_rfl)] [0, 1, wu16 x_6, 8] [I, I, I, I, I, I, I, I, I, I, O, O, O] [(2, vp 1 0), (21, vi .u16 (ior .u16 (wu16 x_5) (shlp .u16 (wu16 x_6) 8)))] rfl (by kernel_rfl) (by kernel_rfl) (by kernel_rfl) ?_
     obtain ⟨x_9, e_x_9, hp⟩ := bind_inv hp
     refine SD.all1 (i := 10) (by kernel_rfl) ?_
     refine SW.eff D_8 (i := 10) (bs' := [I, I, I, I, I, I, I, I, I, I, I, O, O]) rfl (.inl rfl) rfl (e_c Try.call42 (ok_uuid_Short F (ior .u16 (wu16 x_5) (shlp .u16 (wu16 x_6) 8)) _ e_x_9) [] [vi .u16 (ior .u16 (wu16 x_5) (shlp .u16 (wu16 x_6) 8))] (.g (C_api_UUID x_9)) (by kernel_rfl) (.inl rfl)) (by kernel_rfl) rfl (by kernel_rfl) ?_
     refine SD.all1 (i := 11) (by kernel_rfl) ?_
     refine SW.store D_8 tk (i := 11) (q := 1) (T := 36) (cs := (C_api_UUID x_9)) (bs' := [I, I, I, I, I, I, I, I, I, I, I, I, O]) rfl (by kernel_rfl) rfl rfl (by kernel_rfl) ?_
     refine SD.norm (itsN := [.rd 1 R8 b_1, .blk 36 (C_api_UUID x_9), .elt (some (0, 0)) false [ci .u8 x_5], .elt (some (0, 1)) false [ci .u8 x_6]]) (by kernel_rfl) ?_
     refine SD.takes tk D_8 [] kn0 [12] [] [] [I, I, I, I, I, I, I, I, I, I, I, I, I] [(2, vp 1 0), (3, vi .i64 0)] rfl (by kernel_rfl) (by kernel_rfl) (by kernel_rfl) ?_
     refine SD.done (by kernel_rfl) fun a w h => ?_
     exact ⟨x_9, hp, h.at (js := [.g 0, .g 1]) (by kernel_rfl)⟩
   · rintro a w ⟨c_4, hp, h⟩
     refine h.go ?_
     obtain rfl := some_inv' hp
     exact SC.re (js := [.g 0]) tk (by kernel_rfl)
 · refine SC.r tk [(0, vs 0), (2, vp 1 0), (23, vb (decide ((len b_1) < 16)))] [] [] [] (by kernel_rfl) ?_
   refine SC.if' rfl hp (fun hp => ?_) (fun hp => ?_)
   · refine SC.r tk [(2, vp 1 0), (3, vi .i64 3)] [(1, 36, [ci .u64 0, ci .u64 0])] [] [] (by kernel_rfl) ?_
     obtain rfl := some_inv' hp
     exact SC.re (js := [.g 0]) tk (by kernel_rfl)
   · refine SC.r tk [(0, vs 0), (2, vp 1 0), (28, vb (decide ((len b_1) > 16)))] [] [] [] (by kernel_rfl) ?_
     refine SC.if' rfl hp (fun hp => ?_) (fun hp => ?_)
     · refine SC.r tk [(2, vp 1 0), (3, vi .i64 2)] [(1, 36, [ci .u64 0, ci .u64 0])] [] [] (by kernel_rfl) ?_
       obtain rfl := some_inv' hp
       exact SC.re (js := [.g 0]) tk (by kernel_rfl)
     · refine SC.skipThen ?_
       refine SC.seq ?_
       refine SC.reg ?_
       refine SL.eff (e_alloc (E := 36) tk [ci .u64 0, ci .u64 0] (by kernel_rfl)) rfl (by kernel_rfl) ?_
       refine SL.nilThen ?_
       refine SC.cut (fun a w => ∃ (c_12 : T_api_UUID), uuid_Decode_j2 F c_12 = some r ∧ A 70 1 fx [(2, vp 1 0), (4, vp 2 0)] [.gone, .blk 36 [ci .u64 0, ci .u64 0], .blk 36 (C_api_UUID c_12)] a w) ?_ ?_
       · refine SC.r tk [(0, vs 0), (2, vp 1 0), (4, vp 2 0), (33, vi .i64 0)] [] [] [] (by kernel_rfl) ?_
         refine SC.block ?_
         obtain ⟨o1, hi1, ho1⟩ := bind_inv hp
         clear hp
         refine SC.loop (fun n a w => ∃ (c_16 : T_api_UUID) (x_17 : Int), iter (fun s => uuid_Decode_l1 F b_1 s.1 s.2) n (c_16, x_17) = some o1 ∧ A 70 1 fx [(0, vs 0), (2, vp 1 0), (4, vp 2 0), (33, vi .i64 x_17)] [.rd 1 R8 b_1, .blk 36 [ci .u64 0, ci .u64 0], .blk 36 (C_api_UUID c_16)] a w) F (fun a w h => ⟨(T_api_UUID.mk 0 0), 0, hi1, h.at (js := [.g 0, .g 1, .g 2]) (by kernel_rfl)⟩) ?_
         rintro n1 a w ⟨c_16, x_17, hi1, h⟩
         obtain ⟨n1, q1, rfl, hp, hs1⟩ := iter_inv hi1
         replace hp : uuid_Decode_l1 F b_1 c_16 x_17 = some q1 := hp
         clear hi1
         refine h.go ?_
         refine SC.r tk [(0, vs 0), (2, vp 1 0), (4, vp 2 0), (33, vi .i64 x_17), (34, vb (decide (x_17 < 8)))] [] [] [] (by kernel_rfl) ?_
         refine SC.seq ?_
         refine SC.if' rfl hp (fun hp => ?_) (fun hp => ?_)
         · refine SC.skipThen ?_
           refine SC.seq ?_
           refine SC.block ?_
           refine SC.r tk [(0, vs 0), (2, vp 1 0), (4, vp 2 0), (5, vi .i64 x_17), (33, vi .i64 x_17)] [] [] [] (by kernel_rfl) ?_
           refine SC.cut (fun a w => ∃ (x_18 : Int), uuid_Decode_j3 F b_1 c_16 x_17 x_18 = some q1 ∧ A 70 1 fx [(0, vs 0), (2, vp 1 0), (4, vp 2 0), (5, vi .i64 x_17), (33, vi .i64 x_17)] [.rd 1 R8 b_1, .blk 36 [ci .u64 0, ci .u64 0], .blk 36 [ci .u64 c_16.High, ci .u64 x_18]] a w) ?_ ?_
           · obtain ⟨x_23, e_x_23, hp⟩ := bind_inv hp
             refine SC.pre (pre_ix (i := 0) (iv := x_17) (sz := 1) (R := R8) (l := b_1) (by kernel_rfl) rfl e_x_23) ?_
             refine SC.draw MO [true, true, false, true] (by kernel_rfl) fun kap_24 D_25 => ?_
             obtain ⟨x_26, e_x_26, hp⟩ := bind_inv hp
             refine SD.takes tk D_25 [] kn0 [2, 3, 4, 5, 6, 7, 8, 9] [.el 3, .bin .shl .u64 (wu64 x_23) (w64 (8 * x_17)) x_26 e_x_26] [x_17, wu64 x_23, w64 (8 * x_17)] [O, O, I, I, I, I, I, I, I, I, O, O, O] [(0, vs 0), (2, vp 1 0), (4, vp 2 0), (5, vi .i64 x_17), (33, vi .i64 x_17), (45, vi .u64 x_26)] rfl (by kernel_rfl) (by kernel_rfl) (by kernel_rfl) ?_
             refine SD.all1 (i := 0) (by kernel_rfl) ?_
             refine SW.eff D_25 (i := 0) (v := vp 2 1) (bs' := [I, O, I, I, I, I, I, I, I, I, O, O, O]) rfl (.inl rfl) rfl (e_val tk (by kernel_rfl)) (by kernel_rfl) rfl (by kernel_rfl) ?_
             refine SD.all1 (i := 1) (by kernel_rfl) ?_
             refine SW.eff D_25 (i := 1) (v := vi .u64 c_16.Low) (bs' := [I, I, I, I, I, I, I, I, I, I, O, O, O]) rfl (.inl rfl) rfl (e_val tk (by kernel_rfl)) (by kernel_rfl) rfl (by kernel_rfl) ?_
             refine SD.norm (itsN := [.rd 1 R8 b_1, .blk 36 [ci .u64 0, ci .u64 0], .blk 36 (C_api_UUID c_16), .elt (some (0, x_17)) false [ci .u8 x_23]]) (by kernel_rfl) ?_
             refine SD.takes tk D_25 [] kn0 [10] [] [] [I, I, I, I, I, I, I, I, I, I, I, O, O] [(0, vs 0), (2, vp 1 0), (4, vp 2 0), (5, vi .i64 x_17), (33, vi .i64 x_17), (46, vi .u64 (ior .u64 c_16.Low x_26))] rfl (by kernel_rfl) (by kernel_rfl) (by kernel_rfl) ?_
             refine SD.all1 (i := 11) (by kernel_rfl) ?_
             refine SW.eff D_25 (i := 11) (v := vp 2 1) (bs' := [I, I, I, I, I, I, I, I, I, I, I, I, O]) rfl (.inl rfl) rfl (e_val tk (by kernel_rfl)) (by kernel_rfl) rfl (by kernel_rfl) ?_
             refine SD.all1 (i := 12) (by kernel_rfl) ?_
             refine SW.store D_25 tk (i := 12) (q := 2) (T := 36) (cs := [ci .u64 c_16.High, ci .u64 (ior .u64 c_16.Low x_26)]) (bs' := [I, I, I, I, I, I, I, I, I, I, I, I, I]) rfl (by kernel_rfl) rfl rfl (by kernel_rfl) ?_
             refine SD.norm (itsN := [.rd 1 R8 b_1, .blk 36 [ci .u64 0, ci .u64 0], .blk 36 [ci .u64 c_16.High, ci .u64 (ior .u64 c_16.Low x_26)], .elt (some (0, x_17)) false [ci .u8 x_23]]) (by kernel_rfl) ?_
             refine SD.done (by kernel_rfl) fun a w h => ?_
             exact ⟨ior .u64 c_16.Low x_26, hp, h.at (js := [.g 0, .g 1, .g 2]) (by kernel_rfl)⟩
           · rintro a w ⟨x_18, hp, h⟩
             refine h.go ?_
             obtain ⟨x_19, e_x_19, hp⟩ := bind_inv hp
             refine SC.pre (pre_ix (i := 0) (iv := w64 (8 + x_17)) (sz := 1) (R := R8) (l := b_1) (by kernel_rfl) rfl e_x_19) ?_
             refine SC.draw MO [true, true, false, true] (by kernel_rfl) fun kap_20 D_21 => ?_
             obtain ⟨x_22, e_x_22, hp⟩ := bind_inv hp
             refine SD.takes tk D_21 [] kn0 [2, 3, 4, 5, 6, 7, 8, 9, 10] [.el 3, .bin .shl .u64 (wu64 x_19) (w64 (8 * x_17)) x_22 e_x_22] [w64 (8 + x_17), wu64 x_19, w64 (8 * x_17)] [O, O, I, I, I, I, I, I, I, I, I, O, O, O] [(0, vs 0), (2, vp 1 0), (4, vp 2 0), (33, vi .i64 x_17), (58, vi .u64 x_22)] rfl (by kernel_rfl) (by kernel_rfl) (by kernel_rfl) ?_
             refine SD.all1 (i := 0) (by kernel_rfl) ?_
             refine SW.eff D_21 (i := 0) (v := vp 2 0) (bs' := [I, O, I, I, I, I, I, I, I, I, I, O, O, O]) rfl (.inl rfl) rfl (e_val tk (by kernel_rfl)) (by kernel_rfl) rfl (by kernel_rfl) ?_
             refine SD.all1 (i := 1) (by kernel_rfl) ?_
             refine SW.eff D_21 (i := 1) (v := vi .u64 c_16.High) (bs' := [I, I, I, I, I, I, I, I, I, I, I, O, O, O]) rfl (.inl rfl) rfl (e_val tk (by kernel_rfl)) (by kernel_rfl) rfl (by kernel_rfl) ?_
             refine SD.norm (itsN := [.rd 1 R8 b_1, .blk 36 [ci .u64 0, ci .u64 0], .blk 36 [ci .u64 c_16.High, ci .u64 x_18], .elt (some (0, w64 (8 + x_17))) false [ci .u8 x_19]]) (by kernel_rfl) ?_
             refine SD.takes tk D_21 [] kn0 [11] [] [] [I, I, I, I, I, I, I, I, I, I, I, I, O, O] [(0, vs 0), (2, vp 1 0), (4, vp 2 0), (33, vi .i64 x_17), (59, vi .u64 (ior .u64 c_16.High x_22))] rfl (by kernel_rfl) (by kernel_rfl) (by kernel_rfl) ?_
             refine SD.all1 (i := 12) (by kernel_rfl) ?_
             refine SW.eff D_21 (i := 12) (v := vp 2 0) (bs' := [I, I, I, I, I, I, I, I, I, I, I, I, I, O]) rfl (.inl rfl) rfl (e_val tk (by kernel_rfl)) (by kernel_rfl) rfl (by kernel_rfl) ?_
             refine SD.all1 (i := 13) (by kernel_rfl) ?_
             refine SW.store D_21 tk (i := 13) (q := 2) (T := 36) (cs := [ci .u64 (ior .u64 c_16.High x_22), ci .u64 x_18]) (bs' := [I, I, I, I, I, I, I, I, I, I, I, I, I, I]) rfl (by kernel_rfl) rfl rfl (by kernel_rfl) ?_
             refine SD.norm (itsN := [.rd 1 R8 b_1, .blk 36 [ci .u64 0, ci .u64 0], .blk 36 [ci .u64 (ior .u64 c_16.High x_22), ci .u64 x_18], .elt (some (0, w64 (8 + x_17))) false [ci .u8 x_19]]) (by kernel_rfl) ?_
             refine SD.doneThen (by kernel_rfl) ?_
             refine SC.reg ?_
             refine SL.sim tk 2 [(0, vs 0), (2, vp 1 0), (4, vp 2 0), (33, vi .i64 (w64 (x_17 + 1)))] [] [] [] (by kernel_rfl) ?_
             refine SL.nilJ fun a w h => ?_
             exact ⟨n1, Nat.lt_succ_self _, (T_api_UUID.mk (ior .u64 c_16.High x_22) x_18), w64 (x_17 + 1), next_inv hp hs1, h.at (js := [.g 0, .g 1, .g 2]) (by kernel_rfl)⟩
         · refine SC.exitJ rfl fun a w h => ?_
           have ho := done_inv hp hs1
           replace hp := ho1
           try rw [ho] at hp
           exact ⟨c_16, hp, h.at (js := [.g 0, .g 1, .g 2]) (by kernel_rfl)⟩
       · rintro a w ⟨c_12, hp, h⟩
         refine h.go ?_
         refine SC.seq ?_
         refine SC.seq ?_
         refine SC.reg ?_
         refine SL.sim tk 1 [(2, vp 1 0), (4, vp 2 0), (63, .g (C_api_UUID c_12))] [] [] [] (by kernel_rfl) ?_
         obtain ⟨x_13, e_x_13, hp⟩ := bind_inv hp
         refine SL.eff (e_c Try.call68 (ok_uuid_Number F c_12 _ e_x_13) [] [.g (C_api_UUID c_12)] (.u [.inl (ci .u16 x_13.1), .inl (cb x_13.2)]) (by kernel_rfl) (.inl rfl)) rfl (by kernel_rfl) ?_
         refine SL.sim tk 5 [(2, vp 1 0), (4, vp 2 0), (7, vb x_13.2)] [] [] [] (by kernel_rfl) ?_
         refine SL.nilThen ?_
         refine SC.r tk [(2, vp 1 0), (4, vp 2 0), (67, vb x_13.2)] [] [] [] (by kernel_rfl) ?_
         refine SC.if' rfl hp (fun hp => ?_) (fun hp => ?_)
         · refine SC.r tk [(2, vp 1 0), (3, vi .i64 2)] [(1, 36, [ci .u64 0, ci .u64 0])] [] [] (by kernel_rfl) ?_
           obtain rfl := some_inv' hp
           exact SC.re (js := [.g 0]) tk (by kernel_rfl)
         · refine SC.skipThen ?_
           refine SC.r tk [(2, vp 1 0), (3, vi .i64 0)] [(1, 36, (C_api_UUID c_12))] [] [] (by kernel_rfl) ?_
           obtain rfl := some_inv' hp
           exact SC.re (js := [.g 0]) tk (by kernel_rfl)

theorem ok_database_described (F : Nat) (b_1 : (List Int)) (r : Int × Int × T_api_UUID × Bool) (hp : database_described F b_1 = some r) : Spec Try.prog 50 [vs 0] [.rd 1 R8 b_1] (.u [.inl (ci .i64 r.1), .inl (ci .u16 r.2.1), .inr [ci .u64 r.2.2.1.High, ci .u64 r.2.2.1.Low], .inl (cb r.2.2.2)]) [.gone] := by
 refine Spec.enter Try.func50 rfl Try.ntmps50 rfl rfl fun fx => ?_
 refine SC.seq ?_
 refine SC.reg ?_
 refine SL.sim tk 2 [(0, vs 0)] [] [] [] (by kernel_rfl) ?_
 refine SL.eff (e_alloc (E := 36) tk [ci .u64 0, ci .u64 0] (by kernel_rfl)) rfl (by kernel_rfl) ?_
 refine SL.sim tk 1 [(0, vs 0), (4, vp 1 0)] [] [] [] (by kernel_rfl) ?_
 refine SL.nilThen ?_
 refine SC.seq ?_
 refine SC.r tk [(0, vs 0), (4, vp 1 0), (10, vb (decide ((len b_1) < 3)))] [] [] [] (by kernel_rfl) ?_
 refine SC.if' rfl hp (fun hp => ?_) (fun hp => ?_)
 · refine SC.r tk [(2, vi .i64 0), (3, vi .u16 0), (4, vp 1 0), (5, vb false)] [(1, 36, [ci .u64 0, ci .u64 0])] [] [] (by kernel_rfl) ?_
   obtain rfl := some_inv' hp
   exact SC.re (js := [.g 0]) tk (by kernel_rfl)
 · refine SC.skipThen ?_
   refine SC.seq ?_
   refine SC.reg ?_
   refine SL.sim tk 1 [(0, vs 0), (4, vp 1 0), (13, vs 0)] [] [] [] (by kernel_rfl) ?_
   obtain ⟨l_2, e_l_2, hp⟩ := bind_inv hp
   refine SL.eff (e_sub (sz := 1) (E := 5) (R := R8) (by_ := 1) (l := b_1) tk rfl (.inl ⟨0, rfl, (by kernel_rfl)⟩) rfl rfl e_l_2 (by kernel_rfl)) rfl (by kernel_rfl) ?_
   obtain ⟨x_3, e_x_3, hp⟩ := bind_inv hp
   refine SL.eff (e_c Try.call49 (ok_uuid_Decode F l_2 _ e_x_3) [.g 2] [vs 2] (.u [.inr (C_api_UUID x_3.1), .inl (ci .i64 x_3.2)]) (by kernel_rfl) (.inl rfl)) rfl (by kernel_rfl) ?_
   refine SL.norm (itsN := [.rd 1 R8 b_1, .blk 36 [ci .u64 0, ci .u64 0], .rd 1 R8 l_2]) (by kernel_rfl) ?_
   refine SL.sim tk 3 [(0, vs 0), (4, vp 1 0), (16, .g (C_api_UUID x_3.1)), (17, vi .i64 x_3.2)] [] [] [] (by kernel_rfl) ?_
   refine SL.eff (e_alloc (E := 36) tk [ci .u64 0, ci .u64 0] (by kernel_rfl)) rfl (by kernel_rfl) ?_
   refine SL.sim tk 2 [(0, vs 0), (4, vp 1 0), (6, vp 3 0), (7, vi .i64 x_3.2)] [(3, 36, (C_api_UUID x_3.1))] [] [] (by kernel_rfl) ?_
   refine SL.nilThen ?_
   refine SC.seq ?_
   refine SC.r tk [(0, vs 0), (4, vp 1 0), (6, vp 3 0), (19, vb (x_3.2 != 0))] [] [] [] (by kernel_rfl) ?_
   refine SC.if' rfl hp (fun hp => ?_) (fun hp => ?_)
   · refine SC.r tk [(2, vi .i64 0), (3, vi .u16 0), (4, vp 1 0), (5, vb false)] [(1, 36, [ci .u64 0, ci .u64 0])] [] [] (by kernel_rfl) ?_
     obtain rfl := some_inv' hp
     exact SC.re (js := [.g 0]) tk (by kernel_rfl)
   · refine SC.skipThen ?_
     refine SC.cut (fun a w => ∃ (x_4 : Int) (x_5 : Int), database_described_j1 F x_3 x_4 x_5 = some r ∧ A 36 1 fx [(2, vi .i64 x_4), (3, vi .u16 x_5), (4, vp 1 0), (5, vb true)] [.gone, .blk 36 (C_api_UUID x_3.1)] a w) ?_ ?_
     · obtain ⟨x_6, e_x_6, hp⟩ := bind_inv hp
       obtain ⟨x_7, e_x_7, hp⟩ := bind_inv hp
       obtain ⟨x_8, e_x_8, hp⟩ := bind_inv hp
       refine SC.pre (pre_ix (i := 0) (iv := 0) (sz := 1) (R := R8) (l := b_1) (by kernel_rfl) rfl e_x_6) ?_
       refine SC.pre (pre_ix (i := 0) (iv := 1) (sz := 1) (R := R8) (l := b_1) (by kernel_rfl) rfl e_x_7) ?_
       refine SC.pre (pre_ix (i := 0) (iv := 2) (sz := 1) (R := R8) (l := b_1) (by kernel_rfl) rfl e_x_8) ?_
       refine SC.draw MO [I, O, I, I, I, I, I] (by kernel_rfl) fun kap_9 D_10 => ?_
       refine SD.takes tk D_10 [] kn0 [0, 1, 2, 3, 4, 5, 6, 7, 8, 9, 10, 11, 12, 13, 14, 15, 16] [.el 4, .el 5, .el 6, .bin .shl .u16 (wu16 x_8) 8 (shlp .u16 (wu16 x_8) 8) (by kernel_rfl)] [0, 1, 2, wu16 x_8, 8] [I, I, I, I, I, I, I, I, I, I, I, I, I, I, I, I, I, O, O] [(2, vi .i64 (w64 x_6)), (3, vi .u16 (ior .u16 (wu16 x_7) (shlp .u16 (wu16 x_8) 8))), (4, vp 1 0), (35, .g (C_api_UUID x_3.1))] rfl (by kernel_rfl) (by kernel_rfl) (by kernel_rfl) ?_
       refine SD.all1 (i := 17) (by kernel_rfl) ?_
       refine SW.store D_10 tk (i := 17) (q := 1) (T := 36) (cs := (C_api_UUID x_3.1)) (bs' := [I, I, I, I, I, I, I, I, I, I, I, I, I, I, I, I, I, I, O]) rfl (by kernel_rfl) rfl rfl (by kernel_rfl) ?_
       refine SD.norm (itsN := [.rd 1 R8 b_1, .blk 36 (C_api_UUID x_3.1), .rd 1 R8 l_2, .blk 36 (C_api_UUID x_3.1), .elt (some (0, 0)) false [ci .u8 x_6], .elt (some (0, 1)) false [ci .u8 x_7], .elt (some (0, 2)) false [ci .u8 x_8]]) (by kernel_rfl) ?_
       refine SD.takes tk D_10 [] kn0 [18] [] [] [I, I, I, I, I, I, I, I, I, I, I, I, I, I, I, I, I, I, I] [(2, vi .i64 (w64 x_6)), (3, vi .u16 (ior .u16 (wu16 x_7) (shlp .u16 (wu16 x_8) 8))), (4, vp 1 0), (5, vb true)] rfl (by kernel_rfl) (by kernel_rfl) (by kernel_rfl) ?_
       refine SD.done (by kernel_rfl) fun a w h => ?_
       exact ⟨w64 x_6, ior .u16 (wu16 x_7) (shlp .u16 (wu16 x_8) 8), hp, h.at (js := [.g 0, .g 1]) (by kernel_rfl)⟩
     · rintro a w ⟨x_4, x_5, hp, h⟩
       refine h.go ?_
       obtain rfl := some_inv' hp
       exact SC.re (js := [.g 0]) tk (by kernel_rfl)

theorem ok_database_Found (F : Nat) (db_1 : (List T_api_Attribute)) (r : (List T_api_Found)) (hp : database_Found F db_1 = some r) : Spec Try.prog 18 [vs 0] [.rd 5 R_T_api_Attribute db_1] (vs 1) [.gone, .rd 6 R_T_api_Found r] := by
 refine Spec.enter Try.func18 rfl Try.ntmps18 rfl rfl fun fx => ?_
 refine SC.r tk [(0, vs 0)] [] [] [] (by kernel_rfl) ?_
 refine SC.r tk [(0, vs 0), (3, vn)] [] [] [] (by kernel_rfl) ?_
 refine SC.cut (fun a w => ∃ (l_2 : (List T_api_Found)), database_Found_j1 F l_2 = some r ∧ A 73 1 fx [(3, vs 1)] [.gone, .own 6 43 R_T_api_Found l_2] a w) ?_ ?_
 · refine SC.r tk [(0, vs 0), (3, vn), (7, vs 0), (8, vi .i64 (len db_1)), (9, vi .i64 0)] [] [] [] (by kernel_rfl) ?_
   refine SC.block ?_
   obtain ⟨o1, hi1, ho1⟩ := bind_inv hp
   clear hp
   refine SC.loop (fun n a w => ∃ (l_3 : (List T_api_Found)) (x_4 : Int), iter (fun s => database_Found_l1 F db_1 s.1 s.2) n (l_3, x_4) = some o1 ∧ A 73 1 fx [(0, vs 0), (3, vs 1), (7, vs 0), (8, vi .i64 (len db_1)), (9, vi .i64 x_4)] [.rd 5 R_T_api_Attribute db_1, .own 6 43 R_T_api_Found l_3] a w) F (fun a w h => ⟨[], 0, hi1, h.at (js := [.g 0, .n]) (by kernel_rfl)⟩) ?_
   rintro n1 a w ⟨l_3, x_4, hi1, h⟩
   obtain ⟨n1, q1, rfl, hp, hs1⟩ := iter_inv hi1
   replace hp : database_Found_l1 F db_1 l_3 x_4 = some q1 := hp
   clear hi1
   refine h.go ?_
   refine SC.r tk [(0, vs 0), (3, vs 1), (7, vs 0), (8, vi .i64 (len db_1)), (9, vi .i64 x_4), (10, vb (decide (x_4 < (len db_1))))] [] [] [] (by kernel_rfl) ?_
   refine SC.seq ?_
   refine SC.if' rfl hp (fun hp => ?_) (fun hp => ?_)
   · refine SC.skipThen ?_
     refine SC.cut (fun a w => ∃ (l_5 : (List T_api_Found)), database_Found_j2 F x_4 l_5 = some q1 ∧ A 73 1 fx [(0, vs 0), (3, vs 1), (7, vs 0), (8, vi .i64 (len db_1)), (9, vi .i64 x_4)] [.rd 5 R_T_api_Attribute db_1, .own 6 43 R_T_api_Found l_5] a w) ?_ ?_
     · refine SC.block ?_
       refine SC.seq ?_
       refine SC.reg ?_
       obtain ⟨x_6, e_x_6, hp⟩ := bind_inv hp
       refine SL.pre (pre_ix (i := 0) (iv := x_4) (sz := 5) (R := R_T_api_Attribute) (l := db_1) (by kernel_rfl) rfl e_x_6) ?_
       refine SL.sim tk 3 [(0, vs 0), (3, vs 1), (7, vs 0), (8, vi .i64 (len db_1)), (9, vi .i64 x_4), (11, vi .i64 x_4), (13, .g (C_api_Attribute x_6 (.s 3)))] [] [.el 2] [x_4] (by kernel_rfl) ?_
       refine SL.eff (e_alloc (E := 39) tk [ci .u16 0, ci .u64 0, ci .u64 0, ci .i64 0, nl] (by kernel_rfl)) rfl (by kernel_rfl) ?_
       refine SL.sim tk 2 [(0, vs 0), (3, vs 1), (4, vi .i64 x_4), (5, vp 4 0), (7, vs 0), (8, vi .i64 (len db_1)), (9, vi .i64 x_4)] [(4, 39, (C_api_Attribute x_6 (.s 3)))] [] [] (by kernel_rfl) ?_
       refine SL.nilThen ?_
       refine SC.seq ?_
       refine SC.reg ?_
       refine SL.sim tk 5 [(0, vs 0), (3, vs 1), (4, vi .i64 x_4), (5, vp 4 0), (7, vs 0), (8, vi .i64 (len db_1)), (9, vi .i64 x_4), (18, .g (C_api_Found (T_api_Found.mk x_6.Handle 0 0 0 x_6.f_Type)))] [] [] [] (by kernel_rfl) ?_
       refine SL.eff (e_alloc (E := 43) tk (C_api_Found (T_api_Found.mk 0 0 0 0 (T_api_UUID.mk 0 0))) (by kernel_rfl)) rfl (by kernel_rfl) ?_
       refine SL.norm (itsN := [.rd 5 R_T_api_Attribute db_1, .own 6 43 R_T_api_Found l_3, .elt (some (0, x_4)) false (C_api_Attribute x_6 (.s 3)), .rd 1 R8 x_6.Value, .blk 39 (C_api_Attribute x_6 (.s 3)), .blk 43 (C_api_Found (T_api_Found.mk 0 0 0 0 (T_api_UUID.mk 0 0)))]) (by kernel_rfl) ?_
       refine SL.sim tk 1 [(0, vs 0), (3, vs 1), (4, vi .i64 x_4), (5, vp 4 0), (6, vp 5 0), (7, vs 0), (8, vi .i64 (len db_1)), (9, vi .i64 x_4)] [(5, 43, (C_api_Found (T_api_Found.mk x_6.Handle 0 0 0 x_6.f_Type)))] [] [] (by kernel_rfl) ?_
       refine SL.nilThen ?_
       refine SC.cut (fun a w => ∃ (c_12 : T_api_Found), database_Found_j3 F l_3 x_4 x_6 c_12 = some q1 ∧ A 73 1 fx [(0, vs 0), (3, vs 1), (6, vp 2 0), (7, vs 0), (8, vi .i64 (len db_1)), (9, vi .i64 x_4)] [.rd 5 R_T_api_Attribute db_1, .own 6 43 R_T_api_Found l_3, .blk 43 (C_api_Found ({ c_12 with Handle := x_6.Handle }))] a w) ?_ ?_
       · refine SC.block ?_
         refine SC.seq ?_
         refine SC.reg ?_
         refine SL.sim tk 3 [(0, vs 0), (3, vs 1), (4, vi .i64 x_4), (5, vp 4 0), (6, vp 5 0), (7, vs 0), (8, vi .i64 (len db_1)), (9, vi .i64 x_4), (22, vb (decide (x_4 > 0)))] [] [] [] (by kernel_rfl) ?_
         obtain ⟨z_15, hz, hpr⟩ := bind_inv hp
         clear hp
         refine SL.cutAt 9 (fun a w => A 73 1 fx [(0, vs 0), (3, vs 1), (5, vp 2 0), (6, vp 4 0), (7, vs 0), (8, vi .i64 (len db_1)), (9, vi .i64 x_4), (31, vb z_15)] [.rd 5 R_T_api_Attribute db_1, .own 6 43 R_T_api_Found l_3, .blk 39 (C_api_Attribute x_6 (.s 3)), .rd 1 R8 x_6.Value, .blk 43 (C_api_Found (T_api_Found.mk x_6.Handle 0 0 0 x_6.f_Type))] a w) ?_ ?_
         · have hp := hz
           rcases Bool.eq_false_or_eq_true (decide (x_4 > 0)) with hg_14 | hg_14
           · replace hp := if_t hp hg_14
             refine SL.yes rfl rfl hg_14 ?_
             refine SL.sim tk 1 [(0, vs 0), (3, vs 1), (4, vi .i64 x_4), (5, vp 4 0), (6, vp 5 0), (7, vs 0), (8, vi .i64 (len db_1)), (9, vi .i64 x_4), (22, vb (decide (x_4 > 0))), (23, vs 0)] [] [] [] (by kernel_rfl) ?_
             refine SL.yes rfl rfl hg_14 ?_
             refine SL.sim tk 1 [(0, vs 0), (3, vs 1), (5, vp 4 0), (6, vp 5 0), (7, vs 0), (8, vi .i64 (len db_1)), (9, vi .i64 x_4), (22, vb (decide (x_4 > 0))), (23, vs 0), (24, vi .i64 x_4)] [] [] [] (by kernel_rfl) ?_
             refine SL.yes rfl rfl hg_14 ?_
             refine SL.sim tk 1 [(0, vs 0), (3, vs 1), (5, vp 4 0), (6, vp 5 0), (7, vs 0), (8, vi .i64 (len db_1)), (9, vi .i64 x_4), (22, vb (decide (x_4 > 0))), (23, vs 0), (24, vi .i64 x_4), (25, vi .i64 (w64 (x_4 - 1)))] [] [] [] (by kernel_rfl) ?_
             refine SL.yes rfl rfl hg_14 ?_
             obtain ⟨x_22, e_x_22, hp⟩ := bind_inv hp
             refine SL.pre (pre_ix (i := 0) (iv := w64 (x_4 - 1)) (sz := 5) (R := R_T_api_Attribute) (l := db_1) (by kernel_rfl) rfl e_x_22) ?_
             refine SL.sim tk 1 [(0, vs 0), (3, vs 1), (5, vp 4 0), (6, vp 5 0), (7, vs 0), (8, vi .i64 (len db_1)), (9, vi .i64 x_4), (22, vb (decide (x_4 > 0))), (23, vs 0), (24, vi .i64 x_4), (25, vi .i64 (w64 (x_4 - 1))), (26, vp 6 0)] [] [.el 6] [w64 (x_4 - 1)] (by kernel_rfl) ?_
             refine SL.yes rfl rfl hg_14 ?_
             refine SL.sim tk 1 [(0, vs 0), (3, vs 1), (5, vp 4 0), (6, vp 5 0), (7, vs 0), (8, vi .i64 (len db_1)), (9, vi .i64 x_4), (22, vb (decide (x_4 > 0))), (23, vs 0), (24, vi .i64 x_4), (25, vi .i64 (w64 (x_4 - 1))), (26, vp 6 0), (27, vp 6 1)] [] [] [] (by kernel_rfl) ?_
             refine SL.yes rfl rfl hg_14 ?_
             refine SL.sim tk 1 [(0, vs 0), (3, vs 1), (5, vp 4 0), (6, vp 5 0), (7, vs 0), (8, vi .i64 (len db_1)), (9, vi .i64 x_4), (22, vb (decide (x_4 > 0))), (23, vs 0), (24, vi .i64 x_4), (25, vi .i64 (w64 (x_4 - 1))), (26, vp 6 0), (27, vp 6 1), (28, .g (C_api_UUID x_22.f_Type))] [] [] [] (by kernel_rfl) ?_
             refine SL.yes rfl rfl hg_14 ?_
             refine SL.eff (e_lit (sz := 1) (E := 28) (R := (RInt .u16)) (by_ := 2) tk [[ci .u16 10243]] [10243] (by kernel_rfl) ⟨Clo.int, trivial⟩ rfl (by kernel_rfl) (by kernel_rfl)) rfl (by kernel_rfl) ?_
             refine SL.yes rfl rfl hg_14 ?_
             obtain ⟨x_23, e_x_23, hp⟩ := bind_inv hp
             refine SL.eff (e_c Try.call37 (ok_database_is F x_22.f_Type [10243] _ e_x_23) [.l 8] [.g (C_api_UUID x_22.f_Type), vs 8] (vb x_23) (by kernel_rfl) (.inr ⟨trivial, trivial⟩)) rfl (by kernel_rfl) ?_
             refine SL.norm (itsN := [.rd 5 R_T_api_Attribute db_1, .own 6 43 R_T_api_Found l_3, .elt (some (0, x_4)) false (C_api_Attribute x_6 (.s 3)), .rd 1 R8 x_6.Value, .blk 39 (C_api_Attribute x_6 (.s 3)), .blk 43 (C_api_Found (T_api_Found.mk x_6.Handle 0 0 0 x_6.f_Type)), .elt (some (0, w64 (x_4 - 1))) false (C_api_Attribute x_22 (.s 7)), .rd 1 R8 x_22.Value, .own 1 28 (RInt .u16) [10243]]) (by kernel_rfl) ?_
             refine SL.pickt rfl hg_14 rfl rfl ?_
             refine SL.nilJ fun a w h => ?_
             obtain rfl := some_inv' hp
             exact h.at (js := [.g 0, .g 1, .g 4, .g 3, .g 5]) (by kernel_rfl)
           · replace hp := if_f hp hg_14
             refine SL.no rfl rfl hg_14 rfl ?_
             refine SL.no rfl rfl hg_14 rfl ?_
             refine SL.no rfl rfl hg_14 rfl ?_
             refine SL.no rfl rfl hg_14 rfl ?_
             refine SL.no rfl rfl hg_14 rfl ?_
             refine SL.no rfl rfl hg_14 rfl ?_
             refine SL.no rfl rfl hg_14 rfl ?_
             refine SL.no rfl rfl hg_14 rfl ?_
             refine SL.pickf rfl hg_14 rfl rfl ?_
             refine SL.nilJ fun a w h => ?_
             obtain rfl := some_inv' hp
             exact h.at (js := [.g 0, .g 1, .g 4, .g 3, .g 5]) (by kernel_rfl)
         · intro a w h
           have hp := hpr; clear hpr hz
           refine h.goL ?_
           refine SL.sim tk 1 [(0, vs 0), (3, vs 1), (5, vp 2 0), (6, vp 4 0), (7, vs 0), (8, vi .i64 (len db_1)), (9, vi .i64 x_4), (19, vb z_15)] [] [] [] (by kernel_rfl) ?_
           refine SL.nilThen ?_
           refine SC.if' rfl hp (fun hp => ?_) (fun hp => ?_)
           · refine SC.exitJ rfl fun a w h => ?_
             exact ⟨l_3, hp, h.at (js := [.g 0, .g 1]) (by kernel_rfl)⟩
           · refine SC.seq ?_
             refine SC.reg ?_
             refine SL.sim tk 2 [(0, vs 0), (3, vs 1), (5, vp 2 0), (6, vp 4 0), (7, vs 0), (8, vi .i64 (len db_1)), (9, vi .i64 x_4), (34, .g (C_api_UUID x_6.f_Type))] [] [] [] (by kernel_rfl) ?_
             obtain ⟨x_16, e_x_16, hp⟩ := bind_inv hp
             refine SL.eff (e_c Try.call36 (ok_database_service F x_6.f_Type _ e_x_16) [] [.g (C_api_UUID x_6.f_Type)] (vb x_16) (by kernel_rfl) (.inl rfl)) rfl (by kernel_rfl) ?_
             refine SL.sim tk 1 [(0, vs 0), (3, vs 1), (5, vp 2 0), (6, vp 4 0), (7, vs 0), (8, vi .i64 (len db_1)), (9, vi .i64 x_4), (32, vb x_16)] [] [] [] (by kernel_rfl) ?_
             refine SL.nilThen ?_
             refine SC.if' rfl hp (fun hp => ?_) (fun hp => ?_)
             · refine SC.seq ?_
               refine SC.reg ?_
               refine SL.sim tk 3 [(0, vs 0), (3, vs 1), (5, vp 2 0), (6, vp 4 0), (7, vs 0), (8, vi .i64 (len db_1)), (9, vi .i64 x_4), (37, vs 0), (39, vi .u16 x_6.Handle)] [] [] [] (by kernel_rfl) ?_
               obtain ⟨x_17, e_x_17, hp⟩ := bind_inv hp
               refine SL.eff (e_c Try.call20 (ok_database_Group F db_1 x_6.Handle _ e_x_17) [.g 0] [vs 0, vi .u16 x_6.Handle] (.u [.inl (ci .u16 x_17.1), .inl (cb x_17.2)]) (by kernel_rfl) (.inl rfl)) rfl (by kernel_rfl) ?_
               refine SL.norm (itsN := [.rd 5 R_T_api_Attribute db_1, .own 6 43 R_T_api_Found l_3, .blk 39 (C_api_Attribute x_6 (.s 3)), .rd 1 R8 x_6.Value, .blk 43 (C_api_Found (T_api_Found.mk x_6.Handle 0 0 0 x_6.f_Type))]) (by kernel_rfl) ?_
               refine SL.sim tk 5 [(0, vs 0), (3, vs 1), (5, vp 2 0), (6, vp 4 0), (7, vs 0), (8, vi .i64 (len db_1)), (9, vi .i64 x_4)] [(4, 43, (C_api_Found (T_api_Found.mk x_6.Handle x_17.1 0 0 x_6.f_Type)))] [] [] (by kernel_rfl) ?_
               refine SL.nilThen ?_
               refine SC.reg ?_
               refine SL.sim tk 2 [(0, vs 0), (3, vs 1), (6, vp 4 0), (7, vs 0), (8, vi .i64 (len db_1)), (9, vi .i64 x_4), (46, vs 3)] [] [] [] (by kernel_rfl) ?_
               obtain ⟨x_18, e_x_18, hp⟩ := bind_inv hp
               refine SL.eff (e_c Try.call49 (ok_uuid_Decode F x_6.Value _ e_x_18) [.g 3] [vs 3] (.u [.inr (C_api_UUID x_18.1), .inl (ci .i64 x_18.2)]) (by kernel_rfl) (.inl rfl)) rfl (by kernel_rfl) ?_
               refine SL.sim tk 5 [(0, vs 0), (3, vs 1), (6, vp 4 0), (7, vs 0), (8, vi .i64 (len db_1)), (9, vi .i64 x_4)] [(4, 43, (C_api_Found (T_api_Found.mk x_6.Handle x_17.1 0 0 x_18.1)))] [] [] (by kernel_rfl) ?_
               refine SL.nilJ fun a w h => ?_
               exact ⟨(T_api_Found.mk x_6.Handle x_17.1 0 0 x_18.1), hp, h.at (js := [.g 0, .g 1, .g 4]) (by kernel_rfl)⟩
             · refine SC.seq ?_
               refine SC.reg ?_
               refine SL.sim tk 2 [(0, vs 0), (3, vs 1), (5, vp 2 0), (6, vp 4 0), (7, vs 0), (8, vi .i64 (len db_1)), (9, vi .i64 x_4), (53, .g (C_api_UUID x_6.f_Type))] [] [] [] (by kernel_rfl) ?_
               refine SL.eff (e_lit (sz := 1) (E := 28) (R := (RInt .u16)) (by_ := 2) tk [[ci .u16 10243]] [10243] (by kernel_rfl) ⟨Clo.int, trivial⟩ rfl (by kernel_rfl) (by kernel_rfl)) rfl (by kernel_rfl) ?_
               obtain ⟨x_19, e_x_19, hp⟩ := bind_inv hp
               refine SL.eff (e_c Try.call37 (ok_database_is F x_6.f_Type [10243] _ e_x_19) [.l 5] [.g (C_api_UUID x_6.f_Type), vs 5] (vb x_19) (by kernel_rfl) (.inr ⟨trivial, trivial⟩)) rfl (by kernel_rfl) ?_
               refine SL.norm (itsN := [.rd 5 R_T_api_Attribute db_1, .own 6 43 R_T_api_Found l_3, .blk 39 (C_api_Attribute x_6 (.s 3)), .rd 1 R8 x_6.Value, .blk 43 (C_api_Found (T_api_Found.mk x_6.Handle 0 0 0 x_6.f_Type)), .own 1 28 (RInt .u16) [10243]]) (by kernel_rfl) ?_
               refine SL.sim tk 1 [(0, vs 0), (3, vs 1), (5, vp 2 0), (6, vp 4 0), (7, vs 0), (8, vi .i64 (len db_1)), (9, vi .i64 x_4), (51, vb x_19)] [] [] [] (by kernel_rfl) ?_
               refine SL.nilThen ?_
               refine SC.if' rfl hp (fun hp => ?_) (fun hp => ?_)
               · refine SC.reg ?_
                 refine SL.sim tk 2 [(0, vs 0), (3, vs 1), (6, vp 4 0), (7, vs 0), (8, vi .i64 (len db_1)), (9, vi .i64 x_4), (58, vs 3)] [] [] [] (by kernel_rfl) ?_
                 obtain ⟨x_20, e_x_20, hp⟩ := bind_inv hp
                 refine SL.eff (e_c Try.call50 (ok_database_described F x_6.Value _ e_x_20) [.g 3] [vs 3] (.u [.inl (ci .i64 x_20.1), .inl (ci .u16 x_20.2.1), .inr (C_api_UUID x_20.2.2.1), .inl (cb x_20.2.2.2)]) (by kernel_rfl) (.inl rfl)) rfl (by kernel_rfl) ?_
                 refine SL.sim tk 11 [(0, vs 0), (3, vs 1), (6, vp 4 0), (7, vs 0), (8, vi .i64 (len db_1)), (9, vi .i64 x_4)] [(4, 43, (C_api_Found (T_api_Found.mk x_6.Handle 0 x_20.2.1 x_20.1 x_20.2.2.1)))] [] [] (by kernel_rfl) ?_
                 refine SL.nilJ fun a w h => ?_
                 exact ⟨(T_api_Found.mk x_6.Handle 0 x_20.2.1 x_20.1 x_20.2.2.1), hp, h.at (js := [.g 0, .g 1, .g 4]) (by kernel_rfl)⟩
               · refine SC.skipJ fun a w h => ?_
                 exact ⟨(T_api_Found.mk x_6.Handle 0 0 0 x_6.f_Type), hp, h.at (js := [.g 0, .g 1, .g 4]) (by kernel_rfl)⟩
       · rintro a w ⟨c_12, hp, h⟩
         refine h.go ?_
         refine SC.reg ?_
         refine SL.sim tk 2 [(0, vs 0), (3, vs 1), (7, vs 0), (8, vi .i64 (len db_1)), (9, vi .i64 x_4), (67, vs 1), (68, .g (C_api_Found ({ c_12 with Handle := x_6.Handle })))] [] [] [] (by kernel_rfl) ?_
         refine SL.eff (e_lit (sz := 6) (E := 43) (R := R_T_api_Found) (by_ := 32) tk [(C_api_Found ({ c_12 with Handle := x_6.Handle }))] [{ c_12 with Handle := x_6.Handle }] (by kernel_rfl) ⟨(clo_T_api_Found (x := { c_12 with Handle := x_6.Handle })), trivial⟩ rfl (by kernel_rfl) (by kernel_rfl)) rfl (by kernel_rfl) ?_
         obtain ⟨l_13, e_l_13, hp⟩ := bind_inv hp
         refine SL.eff (e_app (i := 1) (l := l_3) (sz := 6) (E := 43) (R := R_T_api_Found) (by_ := 32) (m := [{ c_12 with Handle := x_6.Handle }]) tk rfl (by kernel_rfl) rfl (.o 43 (by kernel_rfl)) e_l_13 (by kernel_rfl)) rfl (by kernel_rfl) ?_
         refine SL.sim tk 1 [(0, vs 0), (3, vs 4), (7, vs 0), (8, vi .i64 (len db_1)), (9, vi .i64 x_4)] [] [] [] (by kernel_rfl) ?_
         refine SL.nilJ fun a w h => ?_
         exact ⟨l_13, hp, h.at (js := [.g 0, .g 4]) (by kernel_rfl)⟩
     · rintro a w ⟨l_5, hp, h⟩
       refine h.go ?_
       refine SC.reg ?_
       refine SL.sim tk 2 [(0, vs 0), (3, vs 1), (7, vs 0), (8, vi .i64 (len db_1)), (9, vi .i64 (w64 (x_4 + 1)))] [] [] [] (by kernel_rfl) ?_
       refine SL.nilJ fun a w h => ?_
       exact ⟨n1, Nat.lt_succ_self _, l_5, w64 (x_4 + 1), next_inv hp hs1, h.at (js := [.g 0, .g 1]) (by kernel_rfl)⟩
   · refine SC.exitJ rfl fun a w h => ?_
     have ho := done_inv hp hs1
     replace hp := ho1
     try rw [ho] at hp
     exact ⟨l_3, hp, h.at (js := [.g 0, .g 1]) (by kernel_rfl)⟩
 · rintro a w ⟨l_2, hp, h⟩
   refine h.go ?_
   refine SC.r tk [(2, vs 1)] [] [] [] (by kernel_rfl) ?_
   obtain rfl := some_inv' hp
   exact SC.re (js := [.g 0, .z 1]) tk (by kernel_rfl)

theorem ok_wirelessref23_Same (F : Nat) (a_1 : (List Int)) (b_2 : (List Int)) (r : Bool) (hp : wirelessref23_Same F a_1 b_2 = some r) : Spec Try.prog 33 [vs 0, vs 1] [.rd 1 R8 a_1, .rd 1 R8 b_2] (vb r) [.gone, .gone] := by
 refine Spec.enter Try.func33 rfl Try.ntmps33 rfl rfl fun fx => ?_
 refine SC.r tk [(0, vs 0), (1, vs 1)] [] [] [] (by kernel_rfl) ?_
 refine SC.seq ?_
 refine SC.reg ?_
 refine SL.sim tk 1 [(1, vs 1), (5, vs 0)] [] [] [] (by kernel_rfl) ?_
 refine SL.eff (e_b2s (l := a_1) tk rfl (.r (by kernel_rfl)) (by kernel_rfl)) rfl (by kernel_rfl) ?_
 refine SL.sim tk 1 [(6, vt 2), (7, vs 1)] [] [] [] (by kernel_rfl) ?_
 refine SL.eff (e_b2s (l := b_2) tk rfl (.r (by kernel_rfl)) (by kernel_rfl)) rfl (by kernel_rfl) ?_
 refine SL.sim tk 2 [(4, vb ((str a_1) == (str b_2)))] [] [] [] (by kernel_rfl) ?_
 refine SL.nilThen ?_
 obtain rfl := some_inv' hp
 exact SC.re (js := [.g 0, .g 1]) tk (by kernel_rfl)

theorem ok_database_wrong (F : Nat) (db_1 : (List T_api_Attribute)) (i_2 : Int) (at_3 : T_database_place) (r : Bool) (hp : database_wrong F db_1 i_2 at_3 = some r) : Spec Try.prog 35 [vs 0, vi .i64 i_2, .g (C_database_place at_3)] [.rd 5 R_T_api_Attribute db_1] (vb r) [.gone] := by
 refine Spec.enter Try.func35 rfl Try.ntmps35 rfl rfl fun fx => ?_
 refine SC.seq ?_
 refine SC.reg ?_
 refine SL.eff (e_box (E := 63) (C_database_place at_3) (by kernel_rfl)) rfl (by kernel_rfl) ?_
 refine SL.sim tk 1 [(0, vs 0), (1, vi .i64 i_2), (5, vp 1 0)] [] [] [] (by kernel_rfl) ?_
 refine SL.nilThen ?_
 refine SC.seq ?_
 refine SC.reg ?_
 obtain ⟨x_4, e_x_4, hp⟩ := bind_inv hp
 refine SL.pre (pre_ix (i := 0) (iv := i_2) (sz := 5) (R := R_T_api_Attribute) (l := db_1) (by kernel_rfl) rfl e_x_4) ?_
 refine SL.sim tk 4 [(0, vs 0), (1, vi .i64 i_2), (5, vp 1 0), (17, .g (C_api_Attribute x_4 (.s 3)))] [] [.el 2] [i_2] (by kernel_rfl) ?_
 refine SL.eff (e_alloc (E := 39) tk [ci .u16 0, ci .u64 0, ci .u64 0, ci .i64 0, nl] (by kernel_rfl)) rfl (by kernel_rfl) ?_
 refine SL.sim tk 1 [(0, vs 0), (1, vi .i64 i_2), (5, vp 1 0), (7, vp 4 0)] [(4, 39, (C_api_Attribute x_4 (.s 3)))] [] [] (by kernel_rfl) ?_
 refine SL.nilThen ?_
 refine SC.seq ?_
 refine SC.block ?_
 refine SC.cut (fun a w => ∃ (z_5 : Bool), database_wrong_j1 F db_1 i_2 at_3 x_4 z_5 = some r ∧ A 112 1 fx [(0, vs 0), (1, vi .i64 i_2), (5, vp 1 0), (7, vp 2 0), (18, vb z_5)] [.rd 5 R_T_api_Attribute db_1, .blk 63 (C_database_place at_3), .blk 39 (C_api_Attribute x_4 (.s 3)), .rd 1 R8 x_4.Value] a w) ?_ ?_
 · refine SC.seq ?_
   refine SC.reg ?_
   refine SL.sim tk 3 [(0, vs 0), (1, vi .i64 i_2), (5, vp 1 0), (7, vp 4 0), (21, vb (i_2 == 0))] [] [] [] (by kernel_rfl) ?_
   obtain ⟨z_25, hz, hpr⟩ := bind_inv hp
   clear hp
   refine SL.cutAt 5 (fun a w => A 112 1 fx [(0, vs 0), (1, vi .i64 i_2), (5, vp 1 0), (7, vp 2 0), (26, vb z_25)] [.rd 5 R_T_api_Attribute db_1, .blk 63 (C_database_place at_3), .blk 39 (C_api_Attribute x_4 (.s 3)), .rd 1 R8 x_4.Value] a w) ?_ ?_
   · have hp := hz
     rcases Bool.eq_false_or_eq_true ((i_2 == 0)) with hg_24 | hg_24
     · replace hp := if_t hp hg_24
       refine SL.yes rfl rfl hg_24 ?_
       refine SL.sim tk 1 [(0, vs 0), (1, vi .i64 i_2), (5, vp 1 0), (7, vp 4 0), (21, vb (i_2 == 0)), (22, vp 4 1)] [] [] [] (by kernel_rfl) ?_
       refine SL.yes rfl rfl hg_24 ?_
       refine SL.sim tk 1 [(0, vs 0), (1, vi .i64 i_2), (5, vp 1 0), (7, vp 4 0), (21, vb (i_2 == 0)), (23, .g (C_api_UUID x_4.f_Type))] [] [] [] (by kernel_rfl) ?_
       refine SL.yes rfl rfl hg_24 ?_
       obtain ⟨x_28, e_x_28, hp⟩ := bind_inv hp
       refine SL.eff (e_c Try.call36 (ok_database_service F x_4.f_Type _ e_x_28) [] [.g (C_api_UUID x_4.f_Type)] (vb x_28) (by kernel_rfl) (.inl rfl)) rfl (by kernel_rfl) ?_
       refine SL.norm (itsN := [.rd 5 R_T_api_Attribute db_1, .blk 63 (C_database_place at_3), .elt (some (0, i_2)) false (C_api_Attribute x_4 (.s 3)), .rd 1 R8 x_4.Value, .blk 39 (C_api_Attribute x_4 (.s 3))]) (by kernel_rfl) ?_
       refine SL.yes rfl rfl hg_24 ?_
       refine SL.sim tk 1 [(0, vs 0), (1, vi .i64 i_2), (5, vp 1 0), (7, vp 4 0), (21, vb (i_2 == 0)), (25, vb (!x_28))] [] [] [] (by kernel_rfl) ?_
       refine SL.pickt rfl hg_24 rfl rfl ?_
       refine SL.nilJ fun a w h => ?_
       obtain rfl := some_inv' hp
       exact h.at (js := [.g 0, .g 1, .g 4, .g 3]) (by kernel_rfl)
     · replace hp := if_f hp hg_24
       refine SL.no rfl rfl hg_24 rfl ?_
       refine SL.no rfl rfl hg_24 rfl ?_
       refine SL.no rfl rfl hg_24 rfl ?_
       refine SL.no rfl rfl hg_24 rfl ?_
       refine SL.pickf rfl hg_24 rfl rfl ?_
       refine SL.nilJ fun a w h => ?_
       obtain rfl := some_inv' hp
       exact h.at (js := [.g 0, .g 1, .g 4, .g 3]) (by kernel_rfl)
   · intro a w h
     have hp := hpr; clear hpr hz
     refine h.goL ?_
     refine SL.sim tk 1 [(0, vs 0), (1, vi .i64 i_2), (5, vp 1 0), (7, vp 2 0), (18, vb z_25)] [] [] [] (by kernel_rfl) ?_
     refine SL.nilThen ?_
     refine SC.if' rfl hp (fun hp => ?_) (fun hp => ?_)
     · refine SC.skipJ fun a w h => ?_
       exact ⟨z_25, hp, h.at (js := [.g 0, .g 1, .g 2, .g 3]) (by kernel_rfl)⟩
     · refine SC.reg ?_
       refine SL.sim tk 2 [(0, vs 0), (1, vi .i64 i_2), (5, vp 1 0), (7, vp 2 0), (18, vb z_25), (28, .g (C_api_UUID x_4.f_Type))] [] [] [] (by kernel_rfl) ?_
       obtain ⟨x_26, e_x_26, hp⟩ := bind_inv hp
       refine SL.eff (e_c Try.call59 (ok_database_declaration F x_4.f_Type _ e_x_26) [] [.g (C_api_UUID x_4.f_Type)] (vb x_26) (by kernel_rfl) (.inl rfl)) rfl (by kernel_rfl) ?_
       refine SL.sim tk 7 [(0, vs 0), (1, vi .i64 i_2), (5, vp 1 0), (7, vp 2 0), (18, vb (x_26 && ((iand .i64 x_4.Perms 2) != 0)))] [] [] [] (by kernel_rfl) ?_
       refine SL.nilJ fun a w h => ?_
       exact ⟨(x_26 && ((iand .i64 x_4.Perms 2) != 0)), hp, h.at (js := [.g 0, .g 1, .g 2, .g 3]) (by kernel_rfl)⟩
 · rintro a w ⟨z_5, hp, h⟩
   refine h.go ?_
   refine SC.if' rfl hp (fun hp => ?_) (fun hp => ?_)
   · refine SC.r tk [(6, vb true)] [] [] [] (by kernel_rfl) ?_
     obtain rfl := some_inv' hp
     exact SC.re (js := [.g 0]) tk (by kernel_rfl)
   · refine SC.seq ?_
     refine SC.reg ?_
     refine SL.sim tk 2 [(0, vs 0), (1, vi .i64 i_2), (5, vp 1 0), (7, vp 2 0), (38, .g (C_api_UUID x_4.f_Type))] [] [] [] (by kernel_rfl) ?_
     obtain ⟨x_6, e_x_6, hp⟩ := bind_inv hp
     refine SL.eff (e_c Try.call36 (ok_database_service F x_4.f_Type _ e_x_6) [] [.g (C_api_UUID x_4.f_Type)] (vb x_6) (by kernel_rfl) (.inl rfl)) rfl (by kernel_rfl) ?_
     refine SL.sim tk 1 [(0, vs 0), (1, vi .i64 i_2), (5, vp 1 0), (7, vp 2 0), (36, vb x_6)] [] [] [] (by kernel_rfl) ?_
     refine SL.nilThen ?_
     refine SC.if' rfl hp (fun hp => ?_) (fun hp => ?_)
     · refine SC.seq ?_
       refine SC.reg ?_
       refine SL.sim tk 2 [(42, vs 3)] [] [] [] (by kernel_rfl) ?_
       obtain ⟨x_7, e_x_7, hp⟩ := bind_inv hp
       refine SL.eff (e_c Try.call49 (ok_uuid_Decode F x_4.Value _ e_x_7) [.g 3] [vs 3] (.u [.inr (C_api_UUID x_7.1), .inl (ci .i64 x_7.2)]) (by kernel_rfl) (.inl rfl)) rfl (by kernel_rfl) ?_
       refine SL.norm (itsN := [.rd 5 R_T_api_Attribute db_1, .blk 63 (C_database_place at_3), .blk 39 (C_api_Attribute x_4 (.s 3)), .rd 1 R8 x_4.Value]) (by kernel_rfl) ?_
       refine SL.sim tk 3 [(44, .g (C_api_UUID x_7.1)), (45, vi .i64 x_7.2)] [] [] [] (by kernel_rfl) ?_
       refine SL.eff (e_alloc (E := 36) tk [ci .u64 0, ci .u64 0] (by kernel_rfl)) rfl (by kernel_rfl) ?_
       refine SL.sim tk 2 [(9, vi .i64 x_7.2)] [(4, 36, (C_api_UUID x_7.1))] [] [] (by kernel_rfl) ?_
       refine SL.nilThen ?_
       refine SC.r tk [(6, vb (x_7.2 != 0))] [] [] [] (by kernel_rfl) ?_
       obtain rfl := some_inv' hp
       exact SC.re (js := [.g 0]) tk (by kernel_rfl)
     · refine SC.seq ?_
       refine SC.reg ?_
       refine SL.sim tk 2 [(0, vs 0), (1, vi .i64 i_2), (5, vp 1 0), (7, vp 2 0), (50, .g (C_api_UUID x_4.f_Type))] [] [] [] (by kernel_rfl) ?_
       refine SL.eff (e_lit (sz := 1) (E := 28) (R := (RInt .u16)) (by_ := 2) tk [[ci .u16 10243]] [10243] (by kernel_rfl) ⟨Clo.int, trivial⟩ rfl (by kernel_rfl) (by kernel_rfl)) rfl (by kernel_rfl) ?_
       obtain ⟨x_8, e_x_8, hp⟩ := bind_inv hp
       refine SL.eff (e_c Try.call37 (ok_database_is F x_4.f_Type [10243] _ e_x_8) [.l 4] [.g (C_api_UUID x_4.f_Type), vs 4] (vb x_8) (by kernel_rfl) (.inr ⟨trivial, trivial⟩)) rfl (by kernel_rfl) ?_
       refine SL.norm (itsN := [.rd 5 R_T_api_Attribute db_1, .blk 63 (C_database_place at_3), .blk 39 (C_api_Attribute x_4 (.s 3)), .rd 1 R8 x_4.Value, .own 1 28 (RInt .u16) [10243]]) (by kernel_rfl) ?_
       refine SL.sim tk 1 [(0, vs 0), (1, vi .i64 i_2), (5, vp 1 0), (7, vp 2 0), (48, vb x_8)] [] [] [] (by kernel_rfl) ?_
       refine SL.nilThen ?_
       refine SC.if' rfl hp (fun hp => ?_) (fun hp => ?_)
       · refine SC.seq ?_
         refine SC.reg ?_
         refine SL.sim tk 2 [(0, vs 0), (1, vi .i64 i_2), (55, vs 3)] [] [] [] (by kernel_rfl) ?_
         obtain ⟨x_9, e_x_9, hp⟩ := bind_inv hp
         refine SL.eff (e_c Try.call50 (ok_database_described F x_4.Value _ e_x_9) [.g 3] [vs 3] (.u [.inl (ci .i64 x_9.1), .inl (ci .u16 x_9.2.1), .inr (C_api_UUID x_9.2.2.1), .inl (cb x_9.2.2.2)]) (by kernel_rfl) (.inl rfl)) rfl (by kernel_rfl) ?_
         refine SL.sim tk 5 [(0, vs 0), (1, vi .i64 i_2), (57, vi .i64 x_9.1), (58, vi .u16 x_9.2.1), (59, .g (C_api_UUID x_9.2.2.1)), (60, vb x_9.2.2.2)] [] [] [] (by kernel_rfl) ?_
         refine SL.eff (e_alloc (E := 36) tk [ci .u64 0, ci .u64 0] (by kernel_rfl)) rfl (by kernel_rfl) ?_
         refine SL.sim tk 4 [(0, vs 0), (1, vi .i64 i_2), (11, vi .u16 x_9.2.1), (12, vp 5 0), (13, vb x_9.2.2.2)] [(5, 36, (C_api_UUID x_9.2.2.1))] [] [] (by kernel_rfl) ?_
         refine SL.nilThen ?_
         refine SC.cut (fun a w => ∃ (z_10 : Bool), database_wrong_j2 F z_10 = some r ∧ A 112 1 fx [(6, vb z_10)] [.gone] a w) ?_ ?_
         · refine SC.draw MO [I, I, I, I, I, I] (by kernel_rfl) fun kap_11 D_12 => ?_
           refine SD.takes tk D_12 [] kn0 [0, 1, 2] [] [] [I, I, I, O, O, O, O, O, O, O, O, O, O, O, O, O, O, O, O, O, O, O, O, O, O, O, O, O, O, O, O, O, O, O] [(0, vs 0), (1, vi .i64 i_2), (11, vi .u16 x_9.2.1), (12, vp 5 0), (63, vb (!x_9.2.2.2))] rfl (by kernel_rfl) (by kernel_rfl) (by kernel_rfl) ?_
           rcases Bool.eq_false_or_eq_true ((!x_9.2.2.2)) with hg_13 | hg_13
           · replace hp := if_t hp hg_13
             refine SD.takes tk D_12 [(63, true)] (knS rfl hg_13 kn0) [3, 4, 5, 6, 7, 8, 9, 10, 11, 12, 13] [] [] [I, I, I, I, I, I, I, I, I, I, I, I, I, I, O, O, O, O, O, O, O, O, O, O, O, O, O, O, O, O, O, O, O, O] [(0, vs 0), (1, vi .i64 i_2), (11, vi .u16 x_9.2.1), (12, vp 5 0), (74, vb (true || (decide ((w64 (i_2 + 1)) ≥ (len db_1)))))] rfl (by kernel_rfl) (by kernel_rfl) (by kernel_rfl) ?_
             rcases Bool.eq_false_or_eq_true ((true || (decide ((w64 (i_2 + 1)) ≥ (len db_1))))) with hg_14 | hg_14
             · replace hp := if_t hp hg_14
               refine SD.takes tk D_12 [(74, true)] (knS rfl hg_14 kn0) [14, 15, 16, 17, 18, 19, 20, 21, 22, 23] [] [] [I, I, I, I, I, I, I, I, I, I, I, I, I, I, I, I, I, I, I, I, I, I, I, I, O, O, O, O, O, O, O, O, O, O] [(0, vs 0), (1, vi .i64 i_2), (12, vp 5 0), (84, vb true)] rfl (by kernel_rfl) (by kernel_rfl) (by kernel_rfl) ?_
               refine SD.takes tk D_12 [(84, true)] (knS rfl rfl kn0) [24, 25, 26, 27, 28, 29, 30, 31, 32, 33] [] [] [I, I, I, I, I, I, I, I, I, I, I, I, I, I, I, I, I, I, I, I, I, I, I, I, I, I, I, I, I, I, I, I, I, I] [(6, vb true)] rfl (by kernel_rfl) (by kernel_rfl) (by kernel_rfl) ?_
               refine SD.done (by kernel_rfl) fun a w h => ?_
               exact ⟨true, hp, h.at (js := [.g 0]) (by kernel_rfl)⟩
             · replace hp := if_f hp hg_14
               refine SD.takes tk D_12 [(74, false)] (knS rfl hg_14 kn0) [14, 15, 16, 20] [] [] [I, I, I, I, I, I, I, I, I, I, I, I, I, I, I, I, I, O, O, O, I, O, O, O, O, O, O, O, O, O, O, O, O, O] [(0, vs 0), (1, vi .i64 i_2), (12, vp 5 0), (74, vb (true || (decide ((w64 (i_2 + 1)) ≥ (len db_1))))), (75, vs 0), (77, vi .i64 (w64 (i_2 + 1))), (81, vi .u16 x_9.2.1)] rfl (by kernel_rfl) (by kernel_rfl) (by kernel_rfl) ?_
               obtain ⟨x_15, e_x_15, hp⟩ := bind_inv hp
               refine SD.pre (pre_ix (i := 0) (iv := w64 (i_2 + 1)) (sz := 5) (R := R_T_api_Attribute) (l := db_1) (by kernel_rfl) rfl e_x_15) ?_
               refine SD.all1 (i := 17) (by kernel_rfl) ?_
               refine SW.eff D_12 (i := 17) (v := vp 6 0) (bs' := [I, I, I, I, I, I, I, I, I, I, I, I, I, I, I, I, I, I, O, O, I, O, O, O, O, O, O, O, O, O, O, O, O, O]) rfl (.inr ⟨_, _, _, _, rfl, rfl, rfl, hg_14⟩) rfl (e_valE tk (.el 6) [w64 (i_2 + 1)] (by kernel_rfl)) (by kernel_rfl) rfl (by kernel_rfl) ?_
               refine SD.norm (itsN := [.rd 5 R_T_api_Attribute db_1, .blk 63 (C_database_place at_3), .blk 39 (C_api_Attribute x_4 (.s 3)), .rd 1 R8 x_4.Value, .own 1 28 (RInt .u16) [10243], .blk 36 (C_api_UUID x_9.2.2.1), .elt (some (0, w64 (i_2 + 1))) false (C_api_Attribute x_15 (.s 7)), .rd 1 R8 x_15.Value]) (by kernel_rfl) ?_
               refine SD.all1 (i := 18) (by kernel_rfl) ?_
               refine SW.eff D_12 (i := 18) (v := vp 6 0) (bs' := [I, I, I, I, I, I, I, I, I, I, I, I, I, I, I, I, I, I, I, O, I, O, O, O, O, O, O, O, O, O, O, O, O, O]) rfl (.inr ⟨_, _, _, _, rfl, rfl, rfl, hg_14⟩) rfl (e_val tk (by kernel_rfl)) (by kernel_rfl) rfl (by kernel_rfl) ?_
               refine SD.all1 (i := 19) (by kernel_rfl) ?_
               refine SW.eff D_12 (i := 19) (v := vi .u16 x_15.Handle) (bs' := [I, I, I, I, I, I, I, I, I, I, I, I, I, I, I, I, I, I, I, I, I, O, O, O, O, O, O, O, O, O, O, O, O, O]) rfl (.inr ⟨_, _, _, _, rfl, rfl, rfl, hg_14⟩) rfl (e_val tk (by kernel_rfl)) (by kernel_rfl) rfl (by kernel_rfl) ?_
               refine SD.norm (itsN := [.rd 5 R_T_api_Attribute db_1, .blk 63 (C_database_place at_3), .blk 39 (C_api_Attribute x_4 (.s 3)), .rd 1 R8 x_4.Value, .own 1 28 (RInt .u16) [10243], .blk 36 (C_api_UUID x_9.2.2.1), .elt (some (0, w64 (i_2 + 1))) false (C_api_Attribute x_15 (.s 7)), .rd 1 R8 x_15.Value]) (by kernel_rfl) ?_
               refine SD.takes tk D_12 [(74, false)] (knS rfl hg_14 kn0) [21, 22, 23] [] [] [I, I, I, I, I, I, I, I, I, I, I, I, I, I, I, I, I, I, I, I, I, I, I, I, O, O, O, O, O, O, O, O, O, O] [(0, vs 0), (1, vi .i64 i_2), (12, vp 5 0), (84, vb (x_15.Handle != x_9.2.1))] rfl (by kernel_rfl) (by kernel_rfl) (by kernel_rfl) ?_
               rcases Bool.eq_false_or_eq_true ((x_15.Handle != x_9.2.1)) with hg_16 | hg_16
               · replace hp := if_t hp hg_16
                 refine SD.takes tk D_12 [(84, true)] (knS rfl hg_16 kn0) [24, 25, 26, 27, 28, 29, 30, 31, 32, 33] [] [] [I, I, I, I, I, I, I, I, I, I, I, I, I, I, I, I, I, I, I, I, I, I, I, I, I, I, I, I, I, I, I, I, I, I] [(6, vb true)] rfl (by kernel_rfl) (by kernel_rfl) (by kernel_rfl) ?_
                 refine SD.done (by kernel_rfl) fun a w h => ?_
                 exact ⟨true, hp, h.at (js := [.g 0]) (by kernel_rfl)⟩
               · replace hp := if_f hp hg_16
                 refine SD.takes tk D_12 [(84, false)] (knS rfl hg_16 kn0) [24, 25, 26, 30] [] [] [I, I, I, I, I, I, I, I, I, I, I, I, I, I, I, I, I, I, I, I, I, I, I, I, I, I, I, O, O, O, I, O, O, O] [(84, vb (x_15.Handle != x_9.2.1)), (85, vs 0), (87, vi .i64 (w64 (i_2 + 1))), (91, .g (C_api_UUID x_9.2.2.1))] rfl (by kernel_rfl) (by kernel_rfl) (by kernel_rfl) ?_
                 obtain ⟨x_17, e_x_17, hp⟩ := bind_inv hp
                 refine SD.pre (pre_ix (i := 0) (iv := w64 (i_2 + 1)) (sz := 5) (R := R_T_api_Attribute) (l := db_1) (by kernel_rfl) rfl e_x_17) ?_
                 refine SD.all1 (i := 27) (by kernel_rfl) ?_
                 refine SW.eff D_12 (i := 27) (v := vp 8 0) (bs' := [I, I, I, I, I, I, I, I, I, I, I, I, I, I, I, I, I, I, I, I, I, I, I, I, I, I, I, I, O, O, I, O, O, O]) rfl (.inr ⟨_, _, _, _, rfl, rfl, rfl, hg_16⟩) rfl (e_valE tk (.el 8) [w64 (i_2 + 1)] (by kernel_rfl)) (by kernel_rfl) rfl (by kernel_rfl) ?_
                 refine SD.all1 (i := 28) (by kernel_rfl) ?_
                 refine SW.eff D_12 (i := 28) (v := vp 8 1) (bs' := [I, I, I, I, I, I, I, I, I, I, I, I, I, I, I, I, I, I, I, I, I, I, I, I, I, I, I, I, I, O, I, O, O, O]) rfl (.inr ⟨_, _, _, _, rfl, rfl, rfl, hg_16⟩) rfl (e_val tk (by kernel_rfl)) (by kernel_rfl) rfl (by kernel_rfl) ?_
                 refine SD.norm (itsN := [.rd 5 R_T_api_Attribute db_1, .blk 63 (C_database_place at_3), .blk 39 (C_api_Attribute x_4 (.s 3)), .rd 1 R8 x_4.Value, .own 1 28 (RInt .u16) [10243], .blk 36 (C_api_UUID x_9.2.2.1), .elt (some (0, w64 (i_2 + 1))) false (C_api_Attribute x_15 (.s 7)), .rd 1 R8 x_15.Value, .elt (some (0, w64 (i_2 + 1))) false (C_api_Attribute x_17 (.s 9)), .rd 1 R8 x_17.Value]) (by kernel_rfl) ?_
                 refine SD.all1 (i := 29) (by kernel_rfl) ?_
                 refine SW.eff D_12 (i := 29) (v := .g (C_api_UUID x_17.f_Type)) (bs' := [I, I, I, I, I, I, I, I, I, I, I, I, I, I, I, I, I, I, I, I, I, I, I, I, I, I, I, I, I, I, I, O, O, O]) rfl (.inr ⟨_, _, _, _, rfl, rfl, rfl, hg_16⟩) rfl (e_val tk (by kernel_rfl)) (by kernel_rfl) rfl (by kernel_rfl) ?_
                 refine SD.all1 (i := 31) (by kernel_rfl) ?_
                 refine SW.eff D_12 (i := 31) (bs' := [I, I, I, I, I, I, I, I, I, I, I, I, I, I, I, I, I, I, I, I, I, I, I, I, I, I, I, I, I, I, I, I, O, O]) rfl (.inr ⟨_, _, _, _, rfl, rfl, rfl, hg_16⟩) rfl (e_eqs tk (cs := (C_api_UUID x_17.f_Type)) (ds := (C_api_UUID x_9.2.2.1)) [(x_17.f_Type.High == x_9.2.2.1.High), (x_17.f_Type.Low == x_9.2.2.1.Low)] (!((x_17.f_Type.High == x_9.2.2.1.High) && (x_17.f_Type.Low == x_9.2.2.1.Low))) rfl rfl (by kernel_rfl) (by kernel_rfl) (by kernel_rfl) (.inr ⟨rfl, (by kernel_rfl)⟩)) (by kernel_rfl) rfl (by kernel_rfl) ?_
                 refine SD.norm (itsN := [.rd 5 R_T_api_Attribute db_1, .blk 63 (C_database_place at_3), .blk 39 (C_api_Attribute x_4 (.s 3)), .rd 1 R8 x_4.Value, .own 1 28 (RInt .u16) [10243], .blk 36 (C_api_UUID x_9.2.2.1), .elt (some (0, w64 (i_2 + 1))) false (C_api_Attribute x_15 (.s 7)), .rd 1 R8 x_15.Value, .elt (some (0, w64 (i_2 + 1))) false (C_api_Attribute x_17 (.s 9)), .rd 1 R8 x_17.Value]) (by kernel_rfl) ?_
                 refine SD.takes tk D_12 [(84, false)] (knS rfl hg_16 kn0) [32, 33] [] [] [I, I, I, I, I, I, I, I, I, I, I, I, I, I, I, I, I, I, I, I, I, I, I, I, I, I, I, I, I, I, I, I, I, I] [(6, vb (!((x_17.f_Type.High == x_9.2.2.1.High) && (x_17.f_Type.Low == x_9.2.2.1.Low))))] rfl (by kernel_rfl) (by kernel_rfl) (by kernel_rfl) ?_
                 refine SD.done (by kernel_rfl) fun a w h => ?_
                 exact ⟨(!((x_17.f_Type.High == x_9.2.2.1.High) && (x_17.f_Type.Low == x_9.2.2.1.Low))), hp, h.at (js := [.g 0]) (by kernel_rfl)⟩
           · replace hp := if_f hp hg_13
             refine SD.takes tk D_12 [(63, false)] (knS rfl hg_13 kn0) [3] [] [] [I, I, I, I, O, O, O, O, O, O, O, O, O, O, O, O, O, O, O, O, O, O, O, O, O, O, O, O, O, O, O, O, O, O] [(0, vs 0), (1, vi .i64 i_2), (11, vi .u16 x_9.2.1), (12, vp 5 0), (63, vb (!x_9.2.2.2)), (64, .g (C_api_UUID x_9.2.2.1))] rfl (by kernel_rfl) (by kernel_rfl) (by kernel_rfl) ?_
             obtain ⟨x_18, e_x_18, hp⟩ := bind_inv hp
             refine SD.all1 (i := 4) (by kernel_rfl) ?_
             refine SW.eff D_12 (i := 4) (bs' := [I, I, I, I, I, O, O, O, O, O, O, O, O, O, O, O, O, O, O, O, O, O, O, O, O, O, O, O, O, O, O, O, O, O]) rfl (.inr ⟨_, _, _, _, rfl, rfl, rfl, hg_13⟩) rfl (e_c Try.call66 (ok_database_reserved F x_9.2.2.1 _ e_x_18) [] [.g (C_api_UUID x_9.2.2.1)] (vb x_18) (by kernel_rfl) (.inl rfl)) (by kernel_rfl) rfl (by kernel_rfl) ?_
             refine SD.norm (itsN := [.rd 5 R_T_api_Attribute db_1, .blk 63 (C_database_place at_3), .blk 39 (C_api_Attribute x_4 (.s 3)), .rd 1 R8 x_4.Value, .own 1 28 (RInt .u16) [10243], .blk 36 (C_api_UUID x_9.2.2.1)]) (by kernel_rfl) ?_
             refine SD.takes tk D_12 [(63, false)] (knS rfl hg_13 kn0) [5, 6, 7, 8, 9, 10, 11, 12, 13] [] [] [I, I, I, I, I, I, I, I, I, I, I, I, I, I, O, O, O, O, O, O, O, O, O, O, O, O, O, O, O, O, O, O, O, O] [(0, vs 0), (1, vi .i64 i_2), (11, vi .u16 x_9.2.1), (12, vp 5 0), (74, vb (x_18 || (decide ((w64 (i_2 + 1)) ≥ (len db_1)))))] rfl (by kernel_rfl) (by kernel_rfl) (by kernel_rfl) ?_
             rcases Bool.eq_false_or_eq_true ((x_18 || (decide ((w64 (i_2 + 1)) ≥ (len db_1))))) with hg_19 | hg_19
             · replace hp := if_t hp hg_19
               refine SD.takes tk D_12 [(74, true)] (knS rfl hg_19 kn0) [14, 15, 16, 17, 18, 19, 20, 21, 22, 23] [] [] [I, I, I, I, I, I, I, I, I, I, I, I, I, I, I, I, I, I, I, I, I, I, I, I, O, O, O, O, O, O, O, O, O, O] [(0, vs 0), (1, vi .i64 i_2), (12, vp 5 0), (84, vb true)] rfl (by kernel_rfl) (by kernel_rfl) (by kernel_rfl) ?_
               refine SD.takes tk D_12 [(84, true)] (knS rfl rfl kn0) [24, 25, 26, 27, 28, 29, 30, 31, 32, 33] [] [] [I, I, I, I, I, I, I, I, I, I, I, I, I, I, I, I, I, I, I, I, I, I, I, I, I, I, I, I, I, I, I, I, I, I] [(6, vb true)] rfl (by kernel_rfl) (by kernel_rfl) (by kernel_rfl) ?_
               refine SD.done (by kernel_rfl) fun a w h => ?_
               exact ⟨true, hp, h.at (js := [.g 0]) (by kernel_rfl)⟩
             · replace hp := if_f hp hg_19
               refine SD.takes tk D_12 [(74, false)] (knS rfl hg_19 kn0) [14, 15, 16, 20] [] [] [I, I, I, I, I, I, I, I, I, I, I, I, I, I, I, I, I, O, O, O, I, O, O, O, O, O, O, O, O, O, O, O, O, O] [(0, vs 0), (1, vi .i64 i_2), (12, vp 5 0), (74, vb (x_18 || (decide ((w64 (i_2 + 1)) ≥ (len db_1))))), (75, vs 0), (77, vi .i64 (w64 (i_2 + 1))), (81, vi .u16 x_9.2.1)] rfl (by kernel_rfl) (by kernel_rfl) (by kernel_rfl) ?_
               obtain ⟨x_20, e_x_20, hp⟩ := bind_inv hp
               refine SD.pre (pre_ix (i := 0) (iv := w64 (i_2 + 1)) (sz := 5) (R := R_T_api_Attribute) (l := db_1) (by kernel_rfl) rfl e_x_20) ?_
               refine SD.all1 (i := 17) (by kernel_rfl) ?_
               refine SW.eff D_12 (i := 17) (v := vp 6 0) (bs' := [I, I, I, I, I, I, I, I, I, I, I, I, I, I, I, I, I, I, O, O, I, O, O, O, O, O, O, O, O, O, O, O, O, O]) rfl (.inr ⟨_, _, _, _, rfl, rfl, rfl, hg_19⟩) rfl (e_valE tk (.el 6) [w64 (i_2 + 1)] (by kernel_rfl)) (by kernel_rfl) rfl (by kernel_rfl) ?_
               refine SD.all1 (i := 18) (by kernel_rfl) ?_
               refine SW.eff D_12 (i := 18) (v := vp 6 0) (bs' := [I, I, I, I, I, I, I, I, I, I, I, I, I, I, I, I, I, I, I, O, I, O, O, O, O, O, O, O, O, O, O, O, O, O]) rfl (.inr ⟨_, _, _, _, rfl, rfl, rfl, hg_19⟩) rfl (e_val tk (by kernel_rfl)) (by kernel_rfl) rfl (by kernel_rfl) ?_
               refine SD.norm (itsN := [.rd 5 R_T_api_Attribute db_1, .blk 63 (C_database_place at_3), .blk 39 (C_api_Attribute x_4 (.s 3)), .rd 1 R8 x_4.Value, .own 1 28 (RInt .u16) [10243], .blk 36 (C_api_UUID x_9.2.2.1), .elt (some (0, w64 (i_2 + 1))) false (C_api_Attribute x_20 (.s 7)), .rd 1 R8 x_20.Value]) (by kernel_rfl) ?_
               refine SD.all1 (i := 19) (by kernel_rfl) ?_
               refine SW.eff D_12 (i := 19) (v := vi .u16 x_20.Handle) (bs' := [I, I, I, I, I, I, I, I, I, I, I, I, I, I, I, I, I, I, I, I, I, O, O, O, O, O, O, O, O, O, O, O, O, O]) rfl (.inr ⟨_, _, _, _, rfl, rfl, rfl, hg_19⟩) rfl (e_val tk (by kernel_rfl)) (by kernel_rfl) rfl (by kernel_rfl) ?_
               refine SD.takes tk D_12 [(74, false)] (knS rfl hg_19 kn0) [21, 22, 23] [] [] [I, I, I, I, I, I, I, I, I, I, I, I, I, I, I, I, I, I, I, I, I, I, I, I, O, O, O, O, O, O, O, O, O, O] [(0, vs 0), (1, vi .i64 i_2), (12, vp 5 0), (84, vb (x_20.Handle != x_9.2.1))] rfl (by kernel_rfl) (by kernel_rfl) (by kernel_rfl) ?_
               rcases Bool.eq_false_or_eq_true ((x_20.Handle != x_9.2.1)) with hg_21 | hg_21
               · replace hp := if_t hp hg_21
                 refine SD.takes tk D_12 [(84, true)] (knS rfl hg_21 kn0) [24, 25, 26, 27, 28, 29, 30, 31, 32, 33] [] [] [I, I, I, I, I, I, I, I, I, I, I, I, I, I, I, I, I, I, I, I, I, I, I, I, I, I, I, I, I, I, I, I, I, I] [(6, vb true)] rfl (by kernel_rfl) (by kernel_rfl) (by kernel_rfl) ?_
                 refine SD.done (by kernel_rfl) fun a w h => ?_
                 exact ⟨true, hp, h.at (js := [.g 0]) (by kernel_rfl)⟩
               · replace hp := if_f hp hg_21
                 refine SD.takes tk D_12 [(84, false)] (knS rfl hg_21 kn0) [24, 25, 26, 30] [] [] [I, I, I, I, I, I, I, I, I, I, I, I, I, I, I, I, I, I, I, I, I, I, I, I, I, I, I, O, O, O, I, O, O, O] [(84, vb (x_20.Handle != x_9.2.1)), (85, vs 0), (87, vi .i64 (w64 (i_2 + 1))), (91, .g (C_api_UUID x_9.2.2.1))] rfl (by kernel_rfl) (by kernel_rfl) (by kernel_rfl) ?_
                 obtain ⟨x_22, e_x_22, hp⟩ := bind_inv hp
                 refine SD.pre (pre_ix (i := 0) (iv := w64 (i_2 + 1)) (sz := 5) (R := R_T_api_Attribute) (l := db_1) (by kernel_rfl) rfl e_x_22) ?_
                 refine SD.all1 (i := 27) (by kernel_rfl) ?_
                 refine SW.eff D_12 (i := 27) (v := vp 8 0) (bs' := [I, I, I, I, I, I, I, I, I, I, I, I, I, I, I, I, I, I, I, I, I, I, I, I, I, I, I, I, O, O, I, O, O, O]) rfl (.inr ⟨_, _, _, _, rfl, rfl, rfl, hg_21⟩) rfl (e_valE tk (.el 8) [w64 (i_2 + 1)] (by kernel_rfl)) (by kernel_rfl) rfl (by kernel_rfl) ?_
                 refine SD.norm (itsN := [.rd 5 R_T_api_Attribute db_1, .blk 63 (C_database_place at_3), .blk 39 (C_api_Attribute x_4 (.s 3)), .rd 1 R8 x_4.Value, .own 1 28 (RInt .u16) [10243], .blk 36 (C_api_UUID x_9.2.2.1), .elt (some (0, w64 (i_2 + 1))) false (C_api_Attribute x_20 (.s 7)), .rd 1 R8 x_20.Value, .elt (some (0, w64 (i_2 + 1))) false (C_api_Attribute x_22 (.s 9)), .rd 1 R8 x_22.Value]) (by kernel_rfl) ?_
                 refine SD.all1 (i := 28) (by kernel_rfl) ?_
                 refine SW.eff D_12 (i := 28) (v := vp 8 1) (bs' := [I, I, I, I, I, I, I, I, I, I, I, I, I, I, I, I, I, I, I, I, I, I, I, I, I, I, I, I, I, O, I, O, O, O]) rfl (.inr ⟨_, _, _, _, rfl, rfl, rfl, hg_21⟩) rfl (e_val tk (by kernel_rfl)) (by kernel_rfl) rfl (by kernel_rfl) ?_
                 refine SD.all1 (i := 29) (by kernel_rfl) ?_
                 refine SW.eff D_12 (i := 29) (v := .g (C_api_UUID x_22.f_Type)) (bs' := [I, I, I, I, I, I, I, I, I, I, I, I, I, I, I, I, I, I, I, I, I, I, I, I, I, I, I, I, I, I, I, O, O, O]) rfl (.inr ⟨_, _, _, _, rfl, rfl, rfl, hg_21⟩) rfl (e_val tk (by kernel_rfl)) (by kernel_rfl) rfl (by kernel_rfl) ?_
                 refine SD.norm (itsN := [.rd 5 R_T_api_Attribute db_1, .blk 63 (C_database_place at_3), .blk 39 (C_api_Attribute x_4 (.s 3)), .rd 1 R8 x_4.Value, .own 1 28 (RInt .u16) [10243], .blk 36 (C_api_UUID x_9.2.2.1), .elt (some (0, w64 (i_2 + 1))) false (C_api_Attribute x_20 (.s 7)), .rd 1 R8 x_20.Value, .elt (some (0, w64 (i_2 + 1))) false (C_api_Attribute x_22 (.s 9)), .rd 1 R8 x_22.Value]) (by kernel_rfl) ?_
                 refine SD.all1 (i := 31) (by kernel_rfl) ?_
                 refine SW.eff D_12 (i := 31) (bs' := [I, I, I, I, I, I, I, I, I, I, I, I, I, I, I, I, I, I, I, I, I, I, I, I, I, I, I, I, I, I, I, I, O, O]) rfl (.inr ⟨_, _, _, _, rfl, rfl, rfl, hg_21⟩) rfl (e_eqs tk (cs := (C_api_UUID x_22.f_Type)) (ds := (C_api_UUID x_9.2.2.1)) [(x_22.f_Type.High == x_9.2.2.1.High), (x_22.f_Type.Low == x_9.2.2.1.Low)] (!((x_22.f_Type.High == x_9.2.2.1.High) && (x_22.f_Type.Low == x_9.2.2.1.Low))) rfl rfl (by kernel_rfl) (by kernel_rfl) (by kernel_rfl) (.inr ⟨rfl, (by kernel_rfl)⟩)) (by kernel_rfl) rfl (by kernel_rfl) ?_
                 refine SD.takes tk D_12 [(84, false)] (knS rfl hg_21 kn0) [32, 33] [] [] [I, I, I, I, I, I, I, I, I, I, I, I, I, I, I, I, I, I, I, I, I, I, I, I, I, I, I, I, I, I, I, I, I, I] [(6, vb (!((x_22.f_Type.High == x_9.2.2.1.High) && (x_22.f_Type.Low == x_9.2.2.1.Low))))] rfl (by kernel_rfl) (by kernel_rfl) (by kernel_rfl) ?_
                 refine SD.done (by kernel_rfl) fun a w h => ?_
                 exact ⟨(!((x_22.f_Type.High == x_9.2.2.1.High) && (x_22.f_Type.Low == x_9.2.2.1.Low))), hp, h.at (js := [.g 0]) (by kernel_rfl)⟩
         · rintro a w ⟨z_10, hp, h⟩
           refine h.go ?_
           obtain rfl := some_inv' hp
           exact SC.re (js := [.g 0]) tk (by kernel_rfl)
       · refine SC.seq ?_
         refine SC.reg ?_
         refine SL.sim tk 2 [(5, vp 1 0), (7, vp 2 0), (96, .g (C_api_UUID x_4.f_Type))] [] [] [] (by kernel_rfl) ?_
         refine SL.eff (e_lit (sz := 1) (E := 28) (R := (RInt .u16)) (by_ := 2) tk [[ci .u16 10498]] [10498] (by kernel_rfl) ⟨Clo.int, trivial⟩ rfl (by kernel_rfl) (by kernel_rfl)) rfl (by kernel_rfl) ?_
         obtain ⟨x_23, e_x_23, hp⟩ := bind_inv hp
         refine SL.eff (e_c Try.call37 (ok_database_is F x_4.f_Type [10498] _ e_x_23) [.l 5] [.g (C_api_UUID x_4.f_Type), vs 5] (vb x_23) (by kernel_rfl) (.inr ⟨trivial, trivial⟩)) rfl (by kernel_rfl) ?_
         refine SL.sim tk 1 [(5, vp 1 0), (7, vp 2 0), (94, vb x_23)] [] [] [] (by kernel_rfl) ?_
         refine SL.nilThen ?_
         refine SC.if' rfl hp (fun hp => ?_) (fun hp => ?_)
         · refine SC.r tk [(6, vb ((((len x_4.Value) != 2) || (!at_3.char)) || at_3.config))] [] [] [] (by kernel_rfl) ?_
           obtain rfl := some_inv' hp
           exact SC.re (js := [.g 0]) tk (by kernel_rfl)
         · refine SC.skipThen ?_
           refine SC.r tk [(6, vb false)] [] [] [] (by kernel_rfl) ?_
           obtain rfl := some_inv' hp
           exact SC.re (js := [.g 0]) tk (by kernel_rfl)

theorem ok_database_Check (F : Nat) (db_1 : (List T_api_Attribute)) (r : Int) (hp : database_Check F db_1 = some r) : Spec Try.prog 12 [vs 0] [.rd 5 R_T_api_Attribute db_1] (vi .i64 r) [.gone] := by
 refine Spec.enter Try.func12 rfl Try.ntmps12 rfl rfl fun fx => ?_
 refine SC.r tk [(0, vs 0)] [] [] [] (by kernel_rfl) ?_
 refine SC.seq ?_
 refine SC.r tk [(0, vs 0), (9, vb (decide ((len db_1) > 1000)))] [] [] [] (by kernel_rfl) ?_
 refine SC.if' rfl hp (fun hp => ?_) (fun hp => ?_)
 · refine SC.r tk [(2, vi .i64 4)] [] [] [] (by kernel_rfl) ?_
   obtain rfl := some_inv' hp
   exact SC.re (js := [.g 0]) tk (by kernel_rfl)
 · refine SC.skipThen ?_
   refine SC.seq ?_
   refine SC.reg ?_
   refine SL.sim tk 1 [(0, vs 0), (10, .g [cb false, cb false])] [] [] [] (by kernel_rfl) ?_
   refine SL.eff (e_alloc (E := 63) tk [cb false, cb false] (by kernel_rfl)) rfl (by kernel_rfl) ?_
   refine SL.sim tk 2 [(0, vs 0), (3, vi .u16 0), (4, vp 1 0)] [(1, 63, [cb false, cb false])] [] [] (by kernel_rfl) ?_
   refine SL.nilThen ?_
   refine SC.cut (fun a w => database_Check_j1 F = some r ∧ A 62 1 fx [] [.gone] a w) ?_ ?_
   · refine SC.r tk [(0, vs 0), (3, vi .u16 0), (4, vp 1 0), (11, vs 0), (12, vi .i64 (len db_1)), (13, vi .i64 0)] [] [] [] (by kernel_rfl) ?_
     refine SC.block ?_
     obtain ⟨o1, hi1, ho1⟩ := bind_inv hp
     clear hp
     refine SC.loop (fun n a w => ∃ (x_2 : Int) (c_5 : T_database_place) (x_6 : Int), iter (fun s => database_Check_l1 F db_1 s.1 s.2.1 s.2.2) n (x_2, c_5, x_6) = some o1 ∧ A 62 1 fx [(0, vs 0), (3, vi .u16 x_2), (4, vp 1 0), (11, vs 0), (12, vi .i64 (len db_1)), (13, vi .i64 x_6)] [.rd 5 R_T_api_Attribute db_1, .blk 63 (C_database_place c_5)] a w) F (fun a w h => ⟨0, (T_database_place.mk false false), 0, hi1, h.at (js := [.g 0, .g 1]) (by kernel_rfl)⟩) ?_
     rintro n1 a w ⟨x_2, c_5, x_6, hi1, h⟩
     obtain ⟨n1, q1, rfl, hp, hs1⟩ := iter_inv hi1
     replace hp : database_Check_l1 F db_1 x_2 c_5 x_6 = some q1 := hp
     clear hi1
     refine h.go ?_
     refine SC.r tk [(0, vs 0), (3, vi .u16 x_2), (4, vp 1 0), (11, vs 0), (12, vi .i64 (len db_1)), (13, vi .i64 x_6), (14, vb (decide (x_6 < (len db_1))))] [] [] [] (by kernel_rfl) ?_
     refine SC.seq ?_
     refine SC.if' rfl hp (fun hp => ?_) (fun hp => ?_)
     · refine SC.skipThen ?_
       refine SC.cut (fun a w => ∃ (x_7 : Int) (c_10 : T_database_place), database_Check_j2 F x_6 x_7 c_10 = some q1 ∧ A 62 1 fx [(0, vs 0), (3, vi .u16 x_7), (4, vp 1 0), (11, vs 0), (12, vi .i64 (len db_1)), (13, vi .i64 x_6)] [.rd 5 R_T_api_Attribute db_1, .blk 63 (C_database_place c_10)] a w) ?_ ?_
       · refine SC.block ?_
         refine SC.seq ?_
         refine SC.reg ?_
         obtain ⟨x_11, e_x_11, hp⟩ := bind_inv hp
         refine SL.pre (pre_ix (i := 0) (iv := x_6) (sz := 5) (R := R_T_api_Attribute) (l := db_1) (by kernel_rfl) rfl e_x_11) ?_
         refine SL.sim tk 3 [(0, vs 0), (3, vi .u16 x_2), (4, vp 1 0), (11, vs 0), (12, vi .i64 (len db_1)), (13, vi .i64 x_6), (15, vi .i64 x_6), (17, .g (C_api_Attribute x_11 (.s 3)))] [] [.el 2] [x_6] (by kernel_rfl) ?_
         refine SL.eff (e_alloc (E := 39) tk [ci .u16 0, ci .u64 0, ci .u64 0, ci .i64 0, nl] (by kernel_rfl)) rfl (by kernel_rfl) ?_
         refine SL.sim tk 2 [(0, vs 0), (3, vi .u16 x_2), (4, vp 1 0), (5, vi .i64 x_6), (6, vp 4 0), (11, vs 0), (12, vi .i64 (len db_1)), (13, vi .i64 x_6)] [(4, 39, (C_api_Attribute x_11 (.s 3)))] [] [] (by kernel_rfl) ?_
         refine SL.nilThen ?_
         refine SC.seq ?_
         refine SC.block ?_
         refine SC.r tk [(0, vs 0), (4, vp 1 0), (5, vi .i64 x_6), (6, vp 4 0), (11, vs 0), (12, vi .i64 (len db_1)), (13, vi .i64 x_6), (18, vb (decide (x_11.Handle ≤ x_2)))] [] [] [] (by kernel_rfl) ?_
         refine SC.if' rfl hp (fun hp => ?_) (fun hp => ?_)
         · refine SC.r tk [(2, vi .i64 13)] [] [] [] (by kernel_rfl) ?_
           have ho := done_inv hp hs1
           replace hp := ho1
           try rw [ho] at hp
           obtain rfl := some_inv' hp
           exact SC.re (js := [.g 0]) tk (by kernel_rfl)
         · refine SC.r tk [(0, vs 0), (4, vp 1 0), (5, vi .i64 x_6), (6, vp 4 0), (11, vs 0), (12, vi .i64 (len db_1)), (13, vi .i64 x_6), (23, vb ((decide (x_11.Perms < 0)) || (decide (x_11.Perms > 15))))] [] [] [] (by kernel_rfl) ?_
           refine SC.if' rfl hp (fun hp => ?_) (fun hp => ?_)
           · refine SC.r tk [(2, vi .i64 5)] [] [] [] (by kernel_rfl) ?_
             have ho := done_inv hp hs1
             replace hp := ho1
             try rw [ho] at hp
             obtain rfl := some_inv' hp
             exact SC.re (js := [.g 0]) tk (by kernel_rfl)
           · refine SC.r tk [(0, vs 0), (4, vp 1 0), (5, vi .i64 x_6), (6, vp 4 0), (11, vs 0), (12, vi .i64 (len db_1)), (13, vi .i64 x_6), (32, vb (decide ((len x_11.Value) > 512)))] [] [] [] (by kernel_rfl) ?_
             refine SC.if' rfl hp (fun hp => ?_) (fun hp => ?_)
             · refine SC.r tk [(2, vi .i64 4)] [] [] [] (by kernel_rfl) ?_
               have ho := done_inv hp hs1
               replace hp := ho1
               try rw [ho] at hp
               obtain rfl := some_inv' hp
               exact SC.re (js := [.g 0]) tk (by kernel_rfl)
             · refine SC.seq ?_
               refine SC.reg ?_
               refine SL.sim tk 3 [(0, vs 0), (4, vp 1 0), (6, vp 4 0), (11, vs 0), (12, vi .i64 (len db_1)), (13, vi .i64 x_6), (38, vs 0), (39, vi .i64 x_6), (40, .g (C_database_place c_5))] [] [] [] (by kernel_rfl) ?_
               obtain ⟨x_12, e_x_12, hp⟩ := bind_inv hp
               refine SL.eff (e_c Try.call35 (ok_database_wrong F db_1 x_6 c_5 _ e_x_12) [.g 0] [vs 0, vi .i64 x_6, .g (C_database_place c_5)] (vb x_12) (by kernel_rfl) (.inl rfl)) rfl (by kernel_rfl) ?_
               refine SL.norm (itsN := [.rd 5 R_T_api_Attribute db_1, .blk 63 (C_database_place c_5), .elt (some (0, x_6)) false (C_api_Attribute x_11 (.s 3)), .rd 1 R8 x_11.Value, .blk 39 (C_api_Attribute x_11 (.s 3))]) (by kernel_rfl) ?_
               refine SL.sim tk 1 [(0, vs 0), (4, vp 1 0), (6, vp 4 0), (11, vs 0), (12, vi .i64 (len db_1)), (13, vi .i64 x_6), (37, vb x_12)] [] [] [] (by kernel_rfl) ?_
               refine SL.nilThen ?_
               refine SC.if' rfl hp (fun hp => ?_) (fun hp => ?_)
               · refine SC.r tk [(2, vi .i64 1)] [] [] [] (by kernel_rfl) ?_
                 have ho := done_inv hp hs1
                 replace hp := ho1
                 try rw [ho] at hp
                 obtain rfl := some_inv' hp
                 exact SC.re (js := [.g 0]) tk (by kernel_rfl)
               · refine SC.skipThen ?_
                 refine SC.r tk [(0, vs 0), (3, vi .u16 x_11.Handle), (4, vp 1 0), (6, vp 4 0), (11, vs 0), (12, vi .i64 (len db_1)), (13, vi .i64 x_6)] [] [] [] (by kernel_rfl) ?_
                 refine SC.block ?_
                 refine SC.seq ?_
                 refine SC.reg ?_
                 refine SL.sim tk 2 [(0, vs 0), (3, vi .u16 x_11.Handle), (4, vp 1 0), (6, vp 4 0), (11, vs 0), (12, vi .i64 (len db_1)), (13, vi .i64 x_6), (46, .g (C_api_UUID x_11.f_Type))] [] [] [] (by kernel_rfl) ?_
                 obtain ⟨x_13, e_x_13, hp⟩ := bind_inv hp
                 refine SL.eff (e_c Try.call36 (ok_database_service F x_11.f_Type _ e_x_13) [] [.g (C_api_UUID x_11.f_Type)] (vb x_13) (by kernel_rfl) (.inl rfl)) rfl (by kernel_rfl) ?_
                 refine SL.sim tk 1 [(0, vs 0), (3, vi .u16 x_11.Handle), (4, vp 1 0), (6, vp 4 0), (11, vs 0), (12, vi .i64 (len db_1)), (13, vi .i64 x_6), (44, vb x_13)] [] [] [] (by kernel_rfl) ?_
                 refine SL.nilThen ?_
                 refine SC.if' rfl hp (fun hp => ?_) (fun hp => ?_)
                 · refine SC.reg ?_
                   refine SL.sim tk 2 [(0, vs 0), (3, vi .u16 x_11.Handle), (4, vp 1 0), (11, vs 0), (12, vi .i64 (len db_1)), (13, vi .i64 x_6)] [(1, 63, [cb false, cb false])] [] [] (by kernel_rfl) ?_
                   refine SL.nilJ fun a w h => ?_
                   exact ⟨x_11.Handle, (T_database_place.mk false false), hp, h.at (js := [.g 0, .g 1]) (by kernel_rfl)⟩
                 · refine SC.seq ?_
                   refine SC.reg ?_
                   refine SL.sim tk 2 [(0, vs 0), (3, vi .u16 x_11.Handle), (4, vp 1 0), (6, vp 4 0), (11, vs 0), (12, vi .i64 (len db_1)), (13, vi .i64 x_6), (51, .g (C_api_UUID x_11.f_Type))] [] [] [] (by kernel_rfl) ?_
                   refine SL.eff (e_lit (sz := 1) (E := 28) (R := (RInt .u16)) (by_ := 2) tk [[ci .u16 10243]] [10243] (by kernel_rfl) ⟨Clo.int, trivial⟩ rfl (by kernel_rfl) (by kernel_rfl)) rfl (by kernel_rfl) ?_
                   obtain ⟨x_14, e_x_14, hp⟩ := bind_inv hp
                   refine SL.eff (e_c Try.call37 (ok_database_is F x_11.f_Type [10243] _ e_x_14) [.l 5] [.g (C_api_UUID x_11.f_Type), vs 5] (vb x_14) (by kernel_rfl) (.inr ⟨trivial, trivial⟩)) rfl (by kernel_rfl) ?_
                   refine SL.norm (itsN := [.rd 5 R_T_api_Attribute db_1, .blk 63 (C_database_place c_5), .elt (some (0, x_6)) false (C_api_Attribute x_11 (.s 3)), .rd 1 R8 x_11.Value, .blk 39 (C_api_Attribute x_11 (.s 3)), .own 1 28 (RInt .u16) [10243]]) (by kernel_rfl) ?_
                   refine SL.sim tk 1 [(0, vs 0), (3, vi .u16 x_11.Handle), (4, vp 1 0), (6, vp 4 0), (11, vs 0), (12, vi .i64 (len db_1)), (13, vi .i64 x_6), (49, vb x_14)] [] [] [] (by kernel_rfl) ?_
                   refine SL.nilThen ?_
                   refine SC.if' rfl hp (fun hp => ?_) (fun hp => ?_)
                   · refine SC.reg ?_
                     refine SL.sim tk 2 [(0, vs 0), (3, vi .u16 x_11.Handle), (4, vp 1 0), (11, vs 0), (12, vi .i64 (len db_1)), (13, vi .i64 x_6)] [(1, 63, [cb true, cb false])] [] [] (by kernel_rfl) ?_
                     refine SL.nilJ fun a w h => ?_
                     exact ⟨x_11.Handle, (T_database_place.mk true false), hp, h.at (js := [.g 0, .g 1]) (by kernel_rfl)⟩
                   · refine SC.seq ?_
                     refine SC.reg ?_
                     refine SL.sim tk 2 [(0, vs 0), (3, vi .u16 x_11.Handle), (4, vp 1 0), (11, vs 0), (12, vi .i64 (len db_1)), (13, vi .i64 x_6), (57, .g (C_api_UUID x_11.f_Type))] [] [] [] (by kernel_rfl) ?_
                     refine SL.eff (e_lit (sz := 1) (E := 28) (R := (RInt .u16)) (by_ := 2) tk [[ci .u16 10498]] [10498] (by kernel_rfl) ⟨Clo.int, trivial⟩ rfl (by kernel_rfl) (by kernel_rfl)) rfl (by kernel_rfl) ?_
                     obtain ⟨x_15, e_x_15, hp⟩ := bind_inv hp
                     refine SL.eff (e_c Try.call37 (ok_database_is F x_11.f_Type [10498] _ e_x_15) [.l 6] [.g (C_api_UUID x_11.f_Type), vs 6] (vb x_15) (by kernel_rfl) (.inr ⟨trivial, trivial⟩)) rfl (by kernel_rfl) ?_
                     refine SL.sim tk 1 [(0, vs 0), (3, vi .u16 x_11.Handle), (4, vp 1 0), (11, vs 0), (12, vi .i64 (len db_1)), (13, vi .i64 x_6), (55, vb x_15)] [] [] [] (by kernel_rfl) ?_
                     refine SL.nilThen ?_
                     refine SC.if' rfl hp (fun hp => ?_) (fun hp => ?_)
                     · refine SC.reg ?_
                       refine SL.sim tk 2 [(0, vs 0), (3, vi .u16 x_11.Handle), (4, vp 1 0), (11, vs 0), (12, vi .i64 (len db_1)), (13, vi .i64 x_6)] [(1, 63, [cb c_5.char, cb true])] [] [] (by kernel_rfl) ?_
                       refine SL.nilJ fun a w h => ?_
                       exact ⟨x_11.Handle, { c_5 with config := true }, hp, h.at (js := [.g 0, .g 1]) (by kernel_rfl)⟩
                     · refine SC.skipJ fun a w h => ?_
                       exact ⟨x_11.Handle, c_5, hp, h.at (js := [.g 0, .g 1]) (by kernel_rfl)⟩
       · rintro a w ⟨x_7, c_10, hp, h⟩
         refine h.go ?_
         refine SC.reg ?_
         refine SL.sim tk 2 [(0, vs 0), (3, vi .u16 x_7), (4, vp 1 0), (11, vs 0), (12, vi .i64 (len db_1)), (13, vi .i64 (w64 (x_6 + 1)))] [] [] [] (by kernel_rfl) ?_
         refine SL.nilJ fun a w h => ?_
         exact ⟨n1, Nat.lt_succ_self _, x_7, c_10, w64 (x_6 + 1), next_inv hp hs1, h.at (js := [.g 0, .g 1]) (by kernel_rfl)⟩
     · refine SC.exitJ rfl fun a w h => ?_
       have ho := done_inv hp hs1
       replace hp := ho1
       try rw [ho] at hp
       exact ⟨hp, h.at (js := [.g 0]) (by kernel_rfl)⟩
   · rintro a w ⟨hp, h⟩
     refine h.go ?_
     refine SC.r tk [(2, vi .i64 0)] [] [] [] (by kernel_rfl) ?_
     obtain rfl := some_inv' hp
     exact SC.re (js := [.g 0]) tk (by kernel_rfl)
end V
end Go.Proofs.Ytchlimkophmjlaa
