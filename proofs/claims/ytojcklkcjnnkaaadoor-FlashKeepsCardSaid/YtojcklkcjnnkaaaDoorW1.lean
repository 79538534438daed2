/-
  Walks, written by program: each Go function returns what its pure twin says.
-/
import Derived.Test.YtojcklkcjnnkaaaDoorW0
namespace Go.Proofs.YtojcklkcjnnkaaaDoor
namespace V
theorem ok_flash_Apply (F : Nat) (f_1 : T_api_Flash) (w_2 : T_api_Write) (n_3 : Int) (r : T_api_Flash) (hp : flash_Apply F f_1 w_2 n_3 = some r) : Spec Tryd.prog 13 [.g [.s 0, .s 1], .g (C_api_Write w_2 (.s 2)), vi .i64 n_3] [.rd 1 R8 f_1.Banks.1, .rd 1 R8 f_1.Banks.2, .rd 1 R8 w_2.Bytes] (.g [.s 3, .s 4]) [.gone, .gone, .gone, .rd 1 R8 r.Banks.1, .rd 1 R8 r.Banks.2] := by
 refine Spec.enter Tryd.func13 rfl Tryd.ntmps13 rfl rfl fun fx => ?_
 refine SC.seq ?_
 refine SC.reg ?_
 refine SL.eff (e_box (E := 25) [.s 0, .s 1] (by kernel_rfl)) rfl (by kernel_rfl) ?_
 refine SL.eff (e_box (E := 27) (C_api_Write w_2 (.s 2)) (by kernel_rfl)) rfl (by kernel_rfl) ?_
 refine SL.eff (e_alloc (E := 25) tk [nl, nl] (by kernel_rfl)) rfl (by kernel_rfl) ?_
 refine SL.nilThen ?_
 refine SC.seq ?_
 refine SC.reg ?_
 refine SL.sim tk 1 [(2, vi .i64 n_3), (3, vp 3 0), (4, vp 4 0), (6, vp 5 0), (10, .g [.s 0, .s 1])] [] [] [] (by kernel_rfl) ?_
 obtain ⟨x_4, e_x_4, hp⟩ := bind_inv hp
 refine SL.eff (e_c Tryd.call33 (ok_flash_copied F f_1 _ e_x_4) [.g 0, .g 1] [.g [.s 0, .s 1]] (.g [.s 6, .s 7]) (by kernel_rfl) (.inl rfl)) rfl (by kernel_rfl) ?_
 refine SL.norm (itsN := [.rd 1 R8 f_1.Banks.1, .rd 1 R8 f_1.Banks.2, .rd 1 R8 w_2.Bytes, .blk 25 [.s 0, .s 1], .blk 27 (C_api_Write w_2 (.s 2)), .blk 25 [nl, nl], .own 1 5 R8 x_4.Banks.1, .own 1 5 R8 x_4.Banks.2]) (by kernel_rfl) ?_
 refine SL.sim tk 1 [(2, vi .i64 n_3), (3, vp 3 0), (4, vp 4 0), (6, vp 5 0)] [(3, 25, [.s 6, .s 7])] [] [] (by kernel_rfl) ?_
 refine SL.nilThen ?_
 refine SC.seq ?_
 refine SC.r tk [(2, vi .i64 n_3), (3, vp 3 0), (4, vp 4 0), (6, vp 5 0), (19, vb ((w_2.Bank != 0) && (w_2.Bank != 1)))] [] [] [] (by kernel_rfl) ?_
 refine SC.if' rfl hp (fun hp => ?_) (fun hp => ?_)
 · refine SC.r tk [(6, vp 5 0)] [(5, 25, [.s 6, .s 7])] [] [] (by kernel_rfl) ?_
   obtain rfl := some_inv' hp
   exact SC.re (js := [.g 0, .g 1, .g 2, .z 6, .z 7]) tk (by kernel_rfl)
 refine SC.skipThen ?_
 refine SC.seq ?_
 refine SC.reg ?_
 refine SL.sim tk 3 [(2, vi .i64 n_3), (3, vp 3 0), (4, vp 4 0), (6, vp 5 0), (22, vi .i64 w_2.Bank), (23, vp 3 0)] [] [] [] (by kernel_rfl) ?_
 rcases Bool.eq_false_or_eq_true (w_2.Bank == 0) with he_5 | he_5
 · replace hp := if_t hp he_5
   refine SL.eff (e_ixn (n := 0) (off := 0) (T := 25) (cs := [.s 6, .s 7]) tk (eq_of_beq he_5) rfl rfl (by kernel_rfl) (by kernel_rfl)) rfl (by kernel_rfl) ?_
   refine SL.sim tk 2 [(2, vi .i64 n_3), (3, vp 3 0), (4, vp 4 0), (6, vp 5 0), (7, vs 6)] [] [] [] (by kernel_rfl) ?_
   refine SL.nilThen ?_
   refine SC.r tk [(2, vi .i64 n_3), (3, vp 3 0), (4, vp 4 0), (6, vp 5 0), (7, vs 6), (8, vi .i64 (len w_2.Bytes))] [] [] [] (by kernel_rfl) ?_
   refine SC.cut (fun a w => ∃ (x_6 : Int), flash_Apply_j1 F w_2 n_3 x_4 x_6 = some r ∧ A 89 3 fx [(2, vi .i64 n_3), (3, vp 3 0), (4, vp 6 0), (6, vp 7 0), (7, vs 4), (8, vi .i64 x_6)] [.gone, .gone, .rd 1 R8 w_2.Bytes, .blk 25 [.s 4, .s 5], .own 1 5 R8 x_4.Banks.1, .own 1 5 R8 x_4.Banks.2, .blk 27 (C_api_Write w_2 (.s 2)), .blk 25 [nl, nl]] a w) ?_ ?_
   · refine SC.r tk [(2, vi .i64 n_3), (3, vp 3 0), (4, vp 4 0), (6, vp 5 0), (7, vs 6), (8, vi .i64 (len w_2.Bytes)), (30, vb w_2.Erase)] [] [] [] (by kernel_rfl) ?_
     refine SC.if' rfl hp (fun hp => ?_) (fun hp => ?_)
     · refine SC.reg ?_
       refine SL.sim tk 3 [(2, vi .i64 n_3), (3, vp 3 0), (4, vp 4 0), (6, vp 5 0), (7, vs 6), (8, vi .i64 (len x_4.Banks.1))] [] [] [] (by kernel_rfl) ?_
       refine SL.nilJ fun a w h => ?_
       exact ⟨len x_4.Banks.1, hp, h.at (js := [.g 0, .g 1, .g 2, .g 3, .g 6, .g 7, .g 4, .g 5]) (by kernel_rfl)⟩
     refine SC.skipJ fun a w h => ?_
     exact ⟨len w_2.Bytes, hp, h.at (js := [.g 0, .g 1, .g 2, .g 3, .g 6, .g 7, .g 4, .g 5]) (by kernel_rfl)⟩
   rintro a w ⟨x_6, hp, h⟩
   refine h.go ?_
   refine SC.cut (fun a w => ∃ (x_7 : Int), flash_Apply_j2 F w_2 x_4 x_7 = some r ∧ A 89 3 fx [(2, vi .i64 x_7), (3, vp 3 0), (4, vp 6 0), (6, vp 7 0), (7, vs 4)] [.gone, .gone, .rd 1 R8 w_2.Bytes, .blk 25 [.s 4, .s 5], .own 1 5 R8 x_4.Banks.1, .own 1 5 R8 x_4.Banks.2, .blk 27 (C_api_Write w_2 (.s 2)), .blk 25 [nl, nl]] a w) ?_ ?_
   · refine SC.r tk [(2, vi .i64 n_3), (3, vp 3 0), (4, vp 6 0), (6, vp 7 0), (7, vs 4), (8, vi .i64 x_6), (39, vb ((decide (n_3 < 0)) || (decide (n_3 > x_6))))] [] [] [] (by kernel_rfl) ?_
     refine SC.if' rfl hp (fun hp => ?_) (fun hp => ?_)
     · refine SC.reg ?_
       refine SL.sim tk 2 [(2, vi .i64 x_6), (3, vp 3 0), (4, vp 6 0), (6, vp 7 0), (7, vs 4)] [] [] [] (by kernel_rfl) ?_
       refine SL.nilJ fun a w h => ?_
       exact ⟨x_6, hp, h.at (js := [.g 0, .g 1, .g 2, .g 3, .g 4, .g 5, .g 6, .g 7]) (by kernel_rfl)⟩
     refine SC.skipJ fun a w h => ?_
     exact ⟨n_3, hp, h.at (js := [.g 0, .g 1, .g 2, .g 3, .g 4, .g 5, .g 6, .g 7]) (by kernel_rfl)⟩
   rintro a w ⟨x_7, hp, h⟩
   refine h.go ?_
   refine SC.cut (fun a w => ∃ (l_8 : (List Int)), flash_Apply_j3 F x_4 l_8 = some r ∧ A 89 3 fx [(3, vp 3 0), (6, vp 6 0)] [.gone, .gone, .gone, .blk 25 [.s 4, .s 5], .own 1 5 R8 l_8, .own 1 5 R8 x_4.Banks.2, .blk 25 [nl, nl]] a w) ?_ ?_
   · refine SC.r tk [(3, vp 3 0), (4, vp 6 0), (6, vp 7 0), (7, vs 4), (41, vi .i64 x_7), (42, vi .i64 0)] [] [] [] (by kernel_rfl) ?_
     refine SC.block ?_
     obtain ⟨o1, hi1, ho1⟩ := bind_inv hp
     clear hp
     refine SC.loop (fun n a w => ∃ (l_9 : (List Int)) (x_10 : Int), iter (fun s => flash_Apply_l1 F w_2 x_7 s.1 s.2) n (l_9, x_10) = some o1 ∧ A 89 3 fx [(3, vp 3 0), (4, vp 6 0), (6, vp 7 0), (7, vs 4), (41, vi .i64 x_7), (42, vi .i64 x_10)] [.gone, .gone, .rd 1 R8 w_2.Bytes, .blk 25 [.s 4, .s 5], .own 1 5 R8 l_9, .own 1 5 R8 x_4.Banks.2, .blk 27 (C_api_Write w_2 (.s 2)), .blk 25 [nl, nl]] a w) F (fun a w h => ⟨x_4.Banks.1, 0, hi1, h.at (js := [.g 0, .g 1, .g 2, .g 3, .g 4, .g 5, .g 6, .g 7]) (by kernel_rfl)⟩) ?_
     rintro n1 a w ⟨l_9, x_10, hi1, h⟩
     obtain ⟨n1, q1, rfl, hp, hs1⟩ := iter_inv hi1
     replace hp : flash_Apply_l1 F w_2 x_7 l_9 x_10 = some q1 := hp
     clear hi1
     refine h.go ?_
     refine SC.r tk [(3, vp 3 0), (4, vp 6 0), (6, vp 7 0), (7, vs 4), (41, vi .i64 x_7), (42, vi .i64 x_10), (43, vb (decide (x_10 < x_7)))] [] [] [] (by kernel_rfl) ?_
     refine SC.seq ?_
     refine SC.if' rfl hp (fun hp => ?_) (fun hp => ?_)
     · refine SC.skipThen ?_
       refine SC.cut (fun a w => ∃ (l_11 : (List Int)), flash_Apply_j4 F x_10 l_11 = some q1 ∧ A 89 3 fx [(3, vp 3 0), (4, vp 6 0), (6, vp 7 0), (7, vs 4), (41, vi .i64 x_7), (42, vi .i64 x_10)] [.gone, .gone, .rd 1 R8 w_2.Bytes, .blk 25 [.s 4, .s 5], .own 1 5 R8 l_11, .own 1 5 R8 x_4.Banks.2, .blk 27 (C_api_Write w_2 (.s 2)), .blk 25 [nl, nl]] a w) ?_ ?_
       · refine SC.block ?_
         refine SC.r tk [(3, vp 3 0), (4, vp 6 0), (6, vp 7 0), (7, vs 4), (9, vi .i64 x_10), (41, vi .i64 x_7), (42, vi .i64 x_10)] [] [] [] (by kernel_rfl) ?_
         refine SC.block ?_
         refine SC.r tk [(3, vp 3 0), (4, vp 6 0), (6, vp 7 0), (7, vs 4), (9, vi .i64 x_10), (41, vi .i64 x_7), (42, vi .i64 x_10), (45, vb w_2.Erase)] [] [] [] (by kernel_rfl) ?_
         refine SC.if' rfl hp (fun hp => ?_) (fun hp => ?_)
         · refine SC.reg ?_
           obtain ⟨x_12, e_x_12, hp⟩ := bind_inv hp
           refine SL.pre (pre_ixo (i := 4) (iv := x_10) (sz := 1) (E := 5) (R := R8) (l := l_9) (by kernel_rfl) rfl e_x_12) ?_
           refine SL.sim tk 3 [(3, vp 3 0), (4, vp 6 0), (6, vp 7 0), (7, vs 4), (41, vi .i64 x_7), (42, vi .i64 x_10), (50, vp 8 0)] [] [.el 8] [x_10] (by kernel_rfl) ?_
           obtain ⟨l_13, e_l_13, hp⟩ := bind_inv hp
           refine SL.eff0 (e_updf (sz := 1) (R := R8) (i := 4) (iv := x_10) (cs1 := [ci .u8 255]) (e := 255) tk rfl rfl rfl (by kernel_rfl) rfl rfl rfl Clo.int (by kernel_rfl) (by kernel_rfl) e_l_13) ?_
           refine SL.nilJ fun a w h => ?_
           exact ⟨l_13, hp, h.at (js := [.g 0, .g 1, .g 2, .g 3, .g 4, .g 5, .g 6, .g 7]) (by kernel_rfl)⟩
         refine SC.r tk [(3, vp 3 0), (4, vp 6 0), (6, vp 7 0), (7, vs 4), (9, vi .i64 x_10), (41, vi .i64 x_7), (42, vi .i64 x_10), (51, vb (((decide (w_2.Offset < (len l_9))) && (decide ((w64 (w_2.Offset + x_10)) ≥ 0))) && (decide ((w64 (w_2.Offset + x_10)) < (len l_9)))))] [] [] [] (by kernel_rfl) ?_
         refine SC.if' rfl hp (fun hp => ?_) (fun hp => ?_)
         · obtain ⟨x_14, e_x_14, hp⟩ := bind_inv hp
           refine SC.pre (pre_ix (i := 2) (iv := x_10) (sz := 1) (R := R8) (l := w_2.Bytes) (by kernel_rfl) rfl e_x_14) ?_
           refine SC.draw MO (bm 9 484) (by kernel_rfl) fun kap_15 D_16 => ?_
           refine SD.takes tk D_16 [] kn0 [0, 1, 2, 3, 4, 7, 8, 9, 10, 11] [.el 8] [x_10] (bm 15 3999) [(3, vp 3 0), (4, vp 6 0), (6, vp 7 0), (7, vs 4), (41, vi .i64 x_7), (42, vi .i64 x_10), (73, vs 4), (77, vi .i64 (w64 (w_2.Offset + x_10))), (84, vi .u8 x_14)] rfl (by kernel_rfl) (by kernel_rfl) (by kernel_rfl) ?_
           obtain ⟨x_17, e_x_17, hp⟩ := bind_inv hp
           refine SD.all1 (i := 5) (by kernel_rfl) ?_
           refine SW.eff D_16 (i := 5) (bs' := (bm 15 4031)) rfl (.inl rfl) rfl (e_ixp (sz := 1) (E := 5) (R := R8) (by_ := 1) (l := l_9) tk rfl rfl rfl e_x_17 (by kernel_rfl)) (by kernel_rfl) rfl (by kernel_rfl) ?_
           obtain ⟨x_18, e_x_18, hp⟩ := bind_inv hp
           refine SD.all1 (i := 6) (by kernel_rfl) ?_
           refine SW.eff D_16 (i := 6) (bs' := (bm 15 4095)) rfl (.inl rfl) rfl (e_ldp1 (E := 5) (R := R8) (i := 4) (iv := w64 (w_2.Offset + x_10)) (l := l_9) tk rfl rfl e_x_18 rfl (by kernel_rfl) (by kernel_rfl) rfl) (by kernel_rfl) rfl (by kernel_rfl) ?_
           refine SD.norm (itsN := [.gone, .gone, .rd 1 R8 w_2.Bytes, .blk 25 [.s 4, .s 5], .own 1 5 R8 l_9, .own 1 5 R8 x_4.Banks.2, .blk 27 (C_api_Write w_2 (.s 2)), .blk 25 [nl, nl], .elt (some (2, x_10)) false [ci .u8 x_14], .gone]) (by kernel_rfl) ?_
           refine SD.takes tk D_16 [] kn0 [12] [] [] (bm 15 8191) [(3, vp 3 0), (4, vp 6 0), (6, vp 7 0), (7, vs 4), (41, vi .i64 x_7), (42, vi .i64 x_10), (73, vs 4), (77, vi .i64 (w64 (w_2.Offset + x_10))), (85, vi .u8 (iand .u8 x_18 x_14))] rfl (by kernel_rfl) (by kernel_rfl) (by kernel_rfl) ?_
           obtain ⟨x_19, e_x_19, hp⟩ := bind_inv hp
           refine SD.all1 (i := 13) (by kernel_rfl) ?_
           refine SW.eff D_16 (i := 13) (bs' := (bm 15 16383)) rfl (.inl rfl) rfl (e_ixp (sz := 1) (E := 5) (R := R8) (by_ := 1) (l := l_9) tk rfl rfl rfl e_x_19 (by kernel_rfl)) (by kernel_rfl) rfl (by kernel_rfl) ?_
           obtain ⟨l_20, e_l_20, hp⟩ := bind_inv hp
           refine SD.all1 (i := 14) (by kernel_rfl) ?_
           refine SW.effS D_16 (i := 14) (bs' := (bm 15 32767)) rfl (e_stp (sz := 1) (E := 5) (R := R8) (i := 4) (iv := w64 (w_2.Offset + x_10)) (l := l_9) (e := iand .u8 x_18 x_14) tk rfl rfl rfl rfl Clo.int (by kernel_rfl) (by kernel_rfl) e_l_20) rfl (by kernel_rfl) ?_
           refine SD.norm (itsN := [.gone, .gone, .rd 1 R8 w_2.Bytes, .blk 25 [.s 4, .s 5], .own 1 5 R8 l_20, .own 1 5 R8 x_4.Banks.2, .blk 27 (C_api_Write w_2 (.s 2)), .blk 25 [nl, nl], .elt (some (2, x_10)) false [ci .u8 x_14], .gone]) (by kernel_rfl) ?_
           refine SD.done (by kernel_rfl) fun a w h => ?_
           exact ⟨l_20, hp, h.at (js := [.g 0, .g 1, .g 2, .g 3, .g 4, .g 5, .g 6, .g 7]) (by kernel_rfl)⟩
         refine SC.skipJ fun a w h => ?_
         exact ⟨l_9, hp, h.at (js := [.g 0, .g 1, .g 2, .g 3, .g 4, .g 5, .g 6, .g 7]) (by kernel_rfl)⟩
       rintro a w ⟨l_11, hp, h⟩
       refine h.go ?_
       refine SC.reg ?_
       refine SL.sim tk 2 [(3, vp 3 0), (4, vp 6 0), (6, vp 7 0), (7, vs 4), (41, vi .i64 x_7), (42, vi .i64 (w64 (x_10 + 1)))] [] [] [] (by kernel_rfl) ?_
       refine SL.nilJ fun a w h => ?_
       exact ⟨n1, Nat.lt_succ_self _, l_11, w64 (x_10 + 1), next_inv hp hs1, h.at (js := [.g 0, .g 1, .g 2, .g 3, .g 4, .g 5, .g 6, .g 7]) (by kernel_rfl)⟩
     refine SC.exitJ rfl fun a w h => ?_
     have ho := done_inv hp hs1
     replace hp := ho1
     try rw [ho] at hp
     exact ⟨l_9, hp, h.at (js := [.g 0, .g 1, .g 2, .g 3, .g 4, .g 5, .g 7]) (by kernel_rfl)⟩
   rintro a w ⟨l_8, hp, h⟩
   refine h.go ?_
   refine SC.r tk [(6, vp 6 0)] [(6, 25, [.s 4, .s 5])] [] [] (by kernel_rfl) ?_
   obtain rfl := some_inv' hp
   exact SC.re (js := [.g 0, .g 1, .g 2, .z 4, .z 5]) tk (by kernel_rfl)
 replace hp := if_f hp he_5
 rcases Bool.eq_false_or_eq_true (w_2.Bank == 1) with he_21 | he_21
 · replace hp := if_t hp he_21
   refine SL.eff (e_ixn (n := 1) (off := 1) (T := 25) (cs := [.s 6, .s 7]) tk (eq_of_beq he_21) rfl rfl (by kernel_rfl) (by kernel_rfl)) rfl (by kernel_rfl) ?_
   refine SL.sim tk 2 [(2, vi .i64 n_3), (3, vp 3 0), (4, vp 4 0), (6, vp 5 0), (7, vs 7)] [] [] [] (by kernel_rfl) ?_
   refine SL.nilThen ?_
   refine SC.r tk [(2, vi .i64 n_3), (3, vp 3 0), (4, vp 4 0), (6, vp 5 0), (7, vs 7), (8, vi .i64 (len w_2.Bytes))] [] [] [] (by kernel_rfl) ?_
   refine SC.cut (fun a w => ∃ (x_22 : Int), flash_Apply_j5 F w_2 n_3 x_4 x_22 = some r ∧ A 89 3 fx [(2, vi .i64 n_3), (3, vp 3 0), (4, vp 6 0), (6, vp 7 0), (7, vs 5), (8, vi .i64 x_22)] [.gone, .gone, .rd 1 R8 w_2.Bytes, .blk 25 [.s 4, .s 5], .own 1 5 R8 x_4.Banks.1, .own 1 5 R8 x_4.Banks.2, .blk 27 (C_api_Write w_2 (.s 2)), .blk 25 [nl, nl]] a w) ?_ ?_
   · refine SC.r tk [(2, vi .i64 n_3), (3, vp 3 0), (4, vp 4 0), (6, vp 5 0), (7, vs 7), (8, vi .i64 (len w_2.Bytes)), (30, vb w_2.Erase)] [] [] [] (by kernel_rfl) ?_
     refine SC.if' rfl hp (fun hp => ?_) (fun hp => ?_)
     · refine SC.reg ?_
       refine SL.sim tk 3 [(2, vi .i64 n_3), (3, vp 3 0), (4, vp 4 0), (6, vp 5 0), (7, vs 7), (8, vi .i64 (len x_4.Banks.2))] [] [] [] (by kernel_rfl) ?_
       refine SL.nilJ fun a w h => ?_
       exact ⟨len x_4.Banks.2, hp, h.at (js := [.g 0, .g 1, .g 2, .g 3, .g 6, .g 7, .g 4, .g 5]) (by kernel_rfl)⟩
     refine SC.skipJ fun a w h => ?_
     exact ⟨len w_2.Bytes, hp, h.at (js := [.g 0, .g 1, .g 2, .g 3, .g 6, .g 7, .g 4, .g 5]) (by kernel_rfl)⟩
   rintro a w ⟨x_22, hp, h⟩
   refine h.go ?_
   refine SC.cut (fun a w => ∃ (x_23 : Int), flash_Apply_j6 F w_2 x_4 x_23 = some r ∧ A 89 3 fx [(2, vi .i64 x_23), (3, vp 3 0), (4, vp 6 0), (6, vp 7 0), (7, vs 5)] [.gone, .gone, .rd 1 R8 w_2.Bytes, .blk 25 [.s 4, .s 5], .own 1 5 R8 x_4.Banks.1, .own 1 5 R8 x_4.Banks.2, .blk 27 (C_api_Write w_2 (.s 2)), .blk 25 [nl, nl]] a w) ?_ ?_
   · refine SC.r tk [(2, vi .i64 n_3), (3, vp 3 0), (4, vp 6 0), (6, vp 7 0), (7, vs 5), (8, vi .i64 x_22), (39, vb ((decide (n_3 < 0)) || (decide (n_3 > x_22))))] [] [] [] (by kernel_rfl) ?_
     refine SC.if' rfl hp (fun hp => ?_) (fun hp => ?_)
     · refine SC.reg ?_
       refine SL.sim tk 2 [(2, vi .i64 x_22), (3, vp 3 0), (4, vp 6 0), (6, vp 7 0), (7, vs 5)] [] [] [] (by kernel_rfl) ?_
       refine SL.nilJ fun a w h => ?_
       exact ⟨x_22, hp, h.at (js := [.g 0, .g 1, .g 2, .g 3, .g 4, .g 5, .g 6, .g 7]) (by kernel_rfl)⟩
     refine SC.skipJ fun a w h => ?_
     exact ⟨n_3, hp, h.at (js := [.g 0, .g 1, .g 2, .g 3, .g 4, .g 5, .g 6, .g 7]) (by kernel_rfl)⟩
   rintro a w ⟨x_23, hp, h⟩
   refine h.go ?_
   refine SC.cut (fun a w => ∃ (l_24 : (List Int)), flash_Apply_j7 F x_4 l_24 = some r ∧ A 89 3 fx [(3, vp 3 0), (6, vp 6 0)] [.gone, .gone, .gone, .blk 25 [.s 4, .s 5], .own 1 5 R8 x_4.Banks.1, .own 1 5 R8 l_24, .blk 25 [nl, nl]] a w) ?_ ?_
   · refine SC.r tk [(3, vp 3 0), (4, vp 6 0), (6, vp 7 0), (7, vs 5), (41, vi .i64 x_23), (42, vi .i64 0)] [] [] [] (by kernel_rfl) ?_
     refine SC.block ?_
     obtain ⟨o2, hi2, ho2⟩ := bind_inv hp
     clear hp
     refine SC.loop (fun n a w => ∃ (l_25 : (List Int)) (x_26 : Int), iter (fun s => flash_Apply_l2 F w_2 x_23 s.1 s.2) n (l_25, x_26) = some o2 ∧ A 89 3 fx [(3, vp 3 0), (4, vp 6 0), (6, vp 7 0), (7, vs 5), (41, vi .i64 x_23), (42, vi .i64 x_26)] [.gone, .gone, .rd 1 R8 w_2.Bytes, .blk 25 [.s 4, .s 5], .own 1 5 R8 x_4.Banks.1, .own 1 5 R8 l_25, .blk 27 (C_api_Write w_2 (.s 2)), .blk 25 [nl, nl]] a w) F (fun a w h => ⟨x_4.Banks.2, 0, hi2, h.at (js := [.g 0, .g 1, .g 2, .g 3, .g 4, .g 5, .g 6, .g 7]) (by kernel_rfl)⟩) ?_
     rintro n2 a w ⟨l_25, x_26, hi2, h⟩
     obtain ⟨n2, q2, rfl, hp, hs2⟩ := iter_inv hi2
     replace hp : flash_Apply_l2 F w_2 x_23 l_25 x_26 = some q2 := hp
     clear hi2
     refine h.go ?_
     refine SC.r tk [(3, vp 3 0), (4, vp 6 0), (6, vp 7 0), (7, vs 5), (41, vi .i64 x_23), (42, vi .i64 x_26), (43, vb (decide (x_26 < x_23)))] [] [] [] (by kernel_rfl) ?_
     refine SC.seq ?_
     refine SC.if' rfl hp (fun hp => ?_) (fun hp => ?_)
     · refine SC.skipThen ?_
       refine SC.cut (fun a w => ∃ (l_27 : (List Int)), flash_Apply_j8 F x_26 l_27 = some q2 ∧ A 89 3 fx [(3, vp 3 0), (4, vp 6 0), (6, vp 7 0), (7, vs 5), (41, vi .i64 x_23), (42, vi .i64 x_26)] [.gone, .gone, .rd 1 R8 w_2.Bytes, .blk 25 [.s 4, .s 5], .own 1 5 R8 x_4.Banks.1, .own 1 5 R8 l_27, .blk 27 (C_api_Write w_2 (.s 2)), .blk 25 [nl, nl]] a w) ?_ ?_
       · refine SC.block ?_
         refine SC.r tk [(3, vp 3 0), (4, vp 6 0), (6, vp 7 0), (7, vs 5), (9, vi .i64 x_26), (41, vi .i64 x_23), (42, vi .i64 x_26)] [] [] [] (by kernel_rfl) ?_
         refine SC.block ?_
         refine SC.r tk [(3, vp 3 0), (4, vp 6 0), (6, vp 7 0), (7, vs 5), (9, vi .i64 x_26), (41, vi .i64 x_23), (42, vi .i64 x_26), (45, vb w_2.Erase)] [] [] [] (by kernel_rfl) ?_
         refine SC.if' rfl hp (fun hp => ?_) (fun hp => ?_)
         · refine SC.reg ?_
           obtain ⟨x_28, e_x_28, hp⟩ := bind_inv hp
           refine SL.pre (pre_ixo (i := 5) (iv := x_26) (sz := 1) (E := 5) (R := R8) (l := l_25) (by kernel_rfl) rfl e_x_28) ?_
           refine SL.sim tk 3 [(3, vp 3 0), (4, vp 6 0), (6, vp 7 0), (7, vs 5), (41, vi .i64 x_23), (42, vi .i64 x_26), (50, vp 8 0)] [] [.el 8] [x_26] (by kernel_rfl) ?_
           obtain ⟨l_29, e_l_29, hp⟩ := bind_inv hp
           refine SL.eff0 (e_updf (sz := 1) (R := R8) (i := 5) (iv := x_26) (cs1 := [ci .u8 255]) (e := 255) tk rfl rfl rfl (by kernel_rfl) rfl rfl rfl Clo.int (by kernel_rfl) (by kernel_rfl) e_l_29) ?_
           refine SL.nilJ fun a w h => ?_
           exact ⟨l_29, hp, h.at (js := [.g 0, .g 1, .g 2, .g 3, .g 4, .g 5, .g 6, .g 7]) (by kernel_rfl)⟩
         refine SC.r tk [(3, vp 3 0), (4, vp 6 0), (6, vp 7 0), (7, vs 5), (9, vi .i64 x_26), (41, vi .i64 x_23), (42, vi .i64 x_26), (51, vb (((decide (w_2.Offset < (len l_25))) && (decide ((w64 (w_2.Offset + x_26)) ≥ 0))) && (decide ((w64 (w_2.Offset + x_26)) < (len l_25)))))] [] [] [] (by kernel_rfl) ?_
         refine SC.if' rfl hp (fun hp => ?_) (fun hp => ?_)
         · obtain ⟨x_30, e_x_30, hp⟩ := bind_inv hp
           refine SC.pre (pre_ix (i := 2) (iv := x_26) (sz := 1) (R := R8) (l := w_2.Bytes) (by kernel_rfl) rfl e_x_30) ?_
           refine SC.draw MO (bm 9 468) (by kernel_rfl) fun kap_31 D_32 => ?_
           refine SD.takes tk D_32 [] kn0 [0, 1, 2, 3, 4, 7, 8, 9, 10, 11] [.el 8] [x_26] (bm 15 3999) [(3, vp 3 0), (4, vp 6 0), (6, vp 7 0), (7, vs 5), (41, vi .i64 x_23), (42, vi .i64 x_26), (73, vs 5), (77, vi .i64 (w64 (w_2.Offset + x_26))), (84, vi .u8 x_30)] rfl (by kernel_rfl) (by kernel_rfl) (by kernel_rfl) ?_
           obtain ⟨x_33, e_x_33, hp⟩ := bind_inv hp
           refine SD.all1 (i := 5) (by kernel_rfl) ?_
           refine SW.eff D_32 (i := 5) (bs' := (bm 15 4031)) rfl (.inl rfl) rfl (e_ixp (sz := 1) (E := 5) (R := R8) (by_ := 1) (l := l_25) tk rfl rfl rfl e_x_33 (by kernel_rfl)) (by kernel_rfl) rfl (by kernel_rfl) ?_
           obtain ⟨x_34, e_x_34, hp⟩ := bind_inv hp
           refine SD.all1 (i := 6) (by kernel_rfl) ?_
           refine SW.eff D_32 (i := 6) (bs' := (bm 15 4095)) rfl (.inl rfl) rfl (e_ldp1 (E := 5) (R := R8) (i := 5) (iv := w64 (w_2.Offset + x_26)) (l := l_25) tk rfl rfl e_x_34 rfl (by kernel_rfl) (by kernel_rfl) rfl) (by kernel_rfl) rfl (by kernel_rfl) ?_
           refine SD.norm (itsN := [.gone, .gone, .rd 1 R8 w_2.Bytes, .blk 25 [.s 4, .s 5], .own 1 5 R8 x_4.Banks.1, .own 1 5 R8 l_25, .blk 27 (C_api_Write w_2 (.s 2)), .blk 25 [nl, nl], .elt (some (2, x_26)) false [ci .u8 x_30], .gone]) (by kernel_rfl) ?_
           refine SD.takes tk D_32 [] kn0 [12] [] [] (bm 15 8191) [(3, vp 3 0), (4, vp 6 0), (6, vp 7 0), (7, vs 5), (41, vi .i64 x_23), (42, vi .i64 x_26), (73, vs 5), (77, vi .i64 (w64 (w_2.Offset + x_26))), (85, vi .u8 (iand .u8 x_34 x_30))] rfl (by kernel_rfl) (by kernel_rfl) (by kernel_rfl) ?_
           obtain ⟨x_35, e_x_35, hp⟩ := bind_inv hp
           refine SD.all1 (i := 13) (by kernel_rfl) ?_
           refine SW.eff D_32 (i := 13) (bs' := (bm 15 16383)) rfl (.inl rfl) rfl (e_ixp (sz := 1) (E := 5) (R := R8) (by_ := 1) (l := l_25) tk rfl rfl rfl e_x_35 (by kernel_rfl)) (by kernel_rfl) rfl (by kernel_rfl) ?_
           obtain ⟨l_36, e_l_36, hp⟩ := bind_inv hp
           refine SD.all1 (i := 14) (by kernel_rfl) ?_
           refine SW.effS D_32 (i := 14) (bs' := (bm 15 32767)) rfl (e_stp (sz := 1) (E := 5) (R := R8) (i := 5) (iv := w64 (w_2.Offset + x_26)) (l := l_25) (e := iand .u8 x_34 x_30) tk rfl rfl rfl rfl Clo.int (by kernel_rfl) (by kernel_rfl) e_l_36) rfl (by kernel_rfl) ?_
           refine SD.norm (itsN := [.gone, .gone, .rd 1 R8 w_2.Bytes, .blk 25 [.s 4, .s 5], .own 1 5 R8 x_4.Banks.1, .own 1 5 R8 l_36, .blk 27 (C_api_Write w_2 (.s 2)), .blk 25 [nl, nl], .elt (some (2, x_26)) false [ci .u8 x_30], .gone]) (by kernel_rfl) ?_
           refine SD.done (by kernel_rfl) fun a w h => ?_
           exact ⟨l_36, hp, h.at (js := [.g 0, .g 1, .g 2, .g 3, .g 4, .g 5, .g 6, .g 7]) (by kernel_rfl)⟩
         refine SC.skipJ fun a w h => ?_
         exact ⟨l_25, hp, h.at (js := [.g 0, .g 1, .g 2, .g 3, .g 4, .g 5, .g 6, .g 7]) (by kernel_rfl)⟩
       rintro a w ⟨l_27, hp, h⟩
       refine h.go ?_
       refine SC.reg ?_
       refine SL.sim tk 2 [(3, vp 3 0), (4, vp 6 0), (6, vp 7 0), (7, vs 5), (41, vi .i64 x_23), (42, vi .i64 (w64 (x_26 + 1)))] [] [] [] (by kernel_rfl) ?_
       refine SL.nilJ fun a w h => ?_
       exact ⟨n2, Nat.lt_succ_self _, l_27, w64 (x_26 + 1), next_inv hp hs2, h.at (js := [.g 0, .g 1, .g 2, .g 3, .g 4, .g 5, .g 6, .g 7]) (by kernel_rfl)⟩
     refine SC.exitJ rfl fun a w h => ?_
     have ho := done_inv hp hs2
     replace hp := ho2
     try rw [ho] at hp
     exact ⟨l_25, hp, h.at (js := [.g 0, .g 1, .g 2, .g 3, .g 4, .g 5, .g 7]) (by kernel_rfl)⟩
   rintro a w ⟨l_24, hp, h⟩
   refine h.go ?_
   refine SC.r tk [(6, vp 6 0)] [(6, 25, [.s 4, .s 5])] [] [] (by kernel_rfl) ?_
   obtain rfl := some_inv' hp
   exact SC.re (js := [.g 0, .g 1, .g 2, .z 4, .z 5]) tk (by kernel_rfl)
 replace hp := if_f hp he_21
 cases hp

theorem ok_flash_Put (F : Nat) (s_1 : T_api_Store) (key_2 : Int) (value_3 : (List Int)) (r : T_api_Store × Int) (hp : flash_Put F s_1 key_2 value_3 = some r) : Spec Tryd.prog 25 [.g (C_api_Store s_1 (.s 0) (.s 1) (.s 2)), vi .u16 key_2, vs 3] [.rd 1 R8 s_1.Flash.Banks.1, .rd 1 R8 s_1.Flash.Banks.2, .rd 2 R_T_api_Item s_1.Items, .rd 1 R8 value_3] (.u [.inr [.s 4, .s 5, ci .i64 r.1.Bank, ci .i64 r.1.Count, ci .i64 r.1.End, .s 6], .inl (ci .i64 r.2)]) [.gone, .gone, .gone, .gone, .rd 1 R8 r.1.Flash.Banks.1, .rd 1 R8 r.1.Flash.Banks.2, .rd 2 R_T_api_Item r.1.Items] := by
 refine Spec.enter Tryd.func25 rfl Tryd.ntmps25 rfl rfl fun fx => ?_
 refine SC.seq ?_
 refine SC.reg ?_
 refine SL.eff (e_box (E := 40) (C_api_Store s_1 (.s 0) (.s 1) (.s 2)) (by kernel_rfl)) rfl (by kernel_rfl) ?_
 refine SL.eff (e_alloc (E := 40) tk [nl, nl, ci .i64 0, ci .i64 0, ci .i64 0, nl] (by kernel_rfl)) rfl (by kernel_rfl) ?_
 refine SL.sim tk 1 [(1, vi .u16 key_2), (2, vs 3), (3, vp 4 0), (6, vp 5 0)] [] [] [] (by kernel_rfl) ?_
 refine SL.nilThen ?_
 refine SC.seq ?_
 refine SC.reg ?_
 refine SL.sim tk 3 [(3, vp 4 0), (6, vp 5 0), (14, .g (C_api_Store s_1 (.s 0) (.s 1) (.s 2))), (15, vi .u16 key_2), (16, vs 3)] [] [] [] (by kernel_rfl) ?_
 obtain ⟨x_4, e_x_4, hp⟩ := bind_inv hp
 refine SL.eff (e_c Tryd.call22 (ok_flash_Plan F s_1 key_2 value_3 _ e_x_4) [.g 0, .g 1, .g 2, .g 3] [.g (C_api_Store s_1 (.s 0) (.s 1) (.s 2)), vi .u16 key_2, vs 3] (.u [.inl (.s 6), .inl (ci .i64 x_4.2)]) (by kernel_rfl) (.inl rfl)) rfl (by kernel_rfl) ?_
 refine SL.norm (itsN := [.rd 1 R8 s_1.Flash.Banks.1, .rd 1 R8 s_1.Flash.Banks.2, .rd 2 R_T_api_Item s_1.Items, .rd 1 R8 value_3, .blk 40 (C_api_Store s_1 (.s 0) (.s 1) (.s 2)), .blk 40 [nl, nl, ci .i64 0, ci .i64 0, ci .i64 0, nl], .rd 4 R_T_api_Write x_4.1]) (by kernel_rfl) ?_
 refine SL.sim tk 5 [(3, vp 4 0), (6, vp 5 0), (8, vs 6), (9, vi .i64 x_4.2)] [] [] [] (by kernel_rfl) ?_
 refine SL.nilThen ?_
 refine SC.seq ?_
 refine SC.r tk [(3, vp 4 0), (6, vp 5 0), (8, vs 6), (9, vi .i64 x_4.2), (26, vb ((x_4.2 != 0) || ((len x_4.1) == 0)))] [] [] [] (by kernel_rfl) ?_
 refine SC.if' rfl hp (fun hp => ?_) (fun hp => ?_)
 · refine SC.seq ?_
   refine SC.reg ?_
   refine SL.sim tk 1 [(6, vp 5 0), (9, vi .i64 x_4.2), (27, .g (C_api_Store s_1 (.s 0) (.s 1) (.s 2)))] [] [] [] (by kernel_rfl) ?_
   obtain ⟨x_5, e_x_5, hp⟩ := bind_inv hp
   refine SL.eff (e_c Tryd.call49 (ok_flash_kept F s_1 _ e_x_5) [.g 0, .g 1, .g 2] [.g (C_api_Store s_1 (.s 0) (.s 1) (.s 2))] (.g (C_api_Store x_5 (.s 7) (.s 8) (.s 9))) (by kernel_rfl) (.inl rfl)) rfl (by kernel_rfl) ?_
   refine SL.sim tk 3 [(6, vp 5 0), (7, vi .i64 x_4.2)] [(5, 40, (C_api_Store x_5 (.s 7) (.s 8) (.s 9)))] [] [] (by kernel_rfl) ?_
   refine SL.nilThen ?_
   obtain rfl := some_inv' hp
   exact SC.re (js := [.g 0, .g 1, .g 2, .g 3, .g 7, .g 8, .g 9]) tk (by kernel_rfl)
 refine SC.skipThen ?_
 refine SC.seq ?_
 refine SC.reg ?_
 refine SL.sim tk 2 [(6, vp 5 0), (8, vs 6), (31, .g [.s 0, .s 1])] [] [] [] (by kernel_rfl) ?_
 refine SL.eff (e_alloc (E := 25) tk [nl, nl] (by kernel_rfl)) rfl (by kernel_rfl) ?_
 refine SL.sim tk 1 [(6, vp 5 0), (8, vs 6), (10, vp 7 0)] [(7, 25, [.s 0, .s 1])] [] [] (by kernel_rfl) ?_
 refine SL.nilThen ?_
 refine SC.cut (fun a w => ∃ (c_8 : T_api_Flash), flash_Put_j1 F c_8 = some r ∧ A 46 4 fx [(6, vp 4 0), (10, vp 5 0)] [.gone, .gone, .gone, .gone, .blk 40 [nl, nl, ci .i64 0, ci .i64 0, ci .i64 0, nl], .blk 25 [.s 6, .s 7], .rd 1 R8 c_8.Banks.1, .rd 1 R8 c_8.Banks.2] a w) ?_ ?_
 · refine SC.r tk [(6, vp 5 0), (10, vp 7 0), (32, vs 6), (33, vi .i64 (len x_4.1)), (34, vi .i64 0)] [] [] [] (by kernel_rfl) ?_
   refine SC.block ?_
   obtain ⟨o1, hi1, ho1⟩ := bind_inv hp
   clear hp
   refine SC.loop (fun n a w => ∃ (c_12 : T_api_Flash) (x_13 : Int), iter (fun s => flash_Put_l1 F x_4 s.1 s.2) n (c_12, x_13) = some o1 ∧ A 46 4 fx [(6, vp 4 0), (10, vp 5 0), (32, vs 8), (33, vi .i64 (len x_4.1)), (34, vi .i64 x_13)] [.gone, .gone, .gone, .gone, .blk 40 [nl, nl, ci .i64 0, ci .i64 0, ci .i64 0, nl], .blk 25 [.s 6, .s 7], .rd 1 R8 c_12.Banks.1, .rd 1 R8 c_12.Banks.2, .rd 4 R_T_api_Write x_4.1] a w) F (fun a w h => ⟨s_1.Flash, 0, hi1, h.at (js := [.g 0, .g 1, .g 2, .g 3, .g 5, .g 7, .g 0, .g 1, .g 6]) (by kernel_rfl)⟩) ?_
   rintro n1 a w ⟨c_12, x_13, hi1, h⟩
   obtain ⟨n1, q1, rfl, hp, hs1⟩ := iter_inv hi1
   replace hp : flash_Put_l1 F x_4 c_12 x_13 = some q1 := hp
   clear hi1
   refine h.go ?_
   refine SC.r tk [(6, vp 4 0), (10, vp 5 0), (32, vs 8), (33, vi .i64 (len x_4.1)), (34, vi .i64 x_13), (35, vb (decide (x_13 < (len x_4.1))))] [] [] [] (by kernel_rfl) ?_
   refine SC.seq ?_
   refine SC.if' rfl hp (fun hp => ?_) (fun hp => ?_)
   · refine SC.skipThen ?_
     refine SC.seq ?_
     refine SC.block ?_
     refine SC.seq ?_
     refine SC.reg ?_
     obtain ⟨x_14, e_x_14, hp⟩ := bind_inv hp
     refine SL.pre (pre_ix (i := 8) (iv := x_13) (sz := 4) (R := R_T_api_Write) (l := x_4.1) (by kernel_rfl) rfl e_x_14) ?_
     refine SL.sim tk 2 [(6, vp 4 0), (10, vp 5 0), (32, vs 8), (33, vi .i64 (len x_4.1)), (34, vi .i64 x_13), (37, .g (C_api_Write x_14 (.s 10)))] [] [.el 9] [x_13] (by kernel_rfl) ?_
     refine SL.eff (e_alloc (E := 27) tk [ci .i64 0, cb false, ci .i64 0, nl] (by kernel_rfl)) rfl (by kernel_rfl) ?_
     refine SL.sim tk 1 [(6, vp 4 0), (10, vp 5 0), (12, vp 11 0), (32, vs 8), (33, vi .i64 (len x_4.1)), (34, vi .i64 x_13)] [(11, 27, (C_api_Write x_14 (.s 10)))] [] [] (by kernel_rfl) ?_
     refine SL.nilThen ?_
     refine SC.reg ?_
     refine SL.sim tk 2 [(6, vp 4 0), (10, vp 5 0), (32, vs 8), (33, vi .i64 (len x_4.1)), (34, vi .i64 x_13), (38, .g [.s 6, .s 7]), (39, .g (C_api_Write x_14 (.s 10)))] [] [] [] (by kernel_rfl) ?_
     obtain ⟨x_15, e_x_15, hp⟩ := bind_inv hp
     refine SL.eff (e_c Tryd.call13 (ok_flash_Apply F c_12 x_14 (-1) _ e_x_15) [.g 6, .g 7, .g 10] [.g [.s 6, .s 7], .g (C_api_Write x_14 (.s 10)), vi .i64 (-1)] (.g [.s 12, .s 13]) (by kernel_rfl) (.inl rfl)) rfl (by kernel_rfl) ?_
     refine SL.norm (itsN := [.gone, .gone, .gone, .gone, .blk 40 [nl, nl, ci .i64 0, ci .i64 0, ci .i64 0, nl], .blk 25 [.s 6, .s 7], .rd 1 R8 c_12.Banks.1, .rd 1 R8 c_12.Banks.2, .rd 4 R_T_api_Write x_4.1, .elt (some (8, x_13)) false (C_api_Write x_14 (.s 10)), .rd 1 R8 x_14.Bytes, .blk 27 (C_api_Write x_14 (.s 10)), .rd 1 R8 x_15.Banks.1, .rd 1 R8 x_15.Banks.2]) (by kernel_rfl) ?_
     refine SL.sim tk 1 [(6, vp 4 0), (10, vp 5 0), (32, vs 8), (33, vi .i64 (len x_4.1)), (34, vi .i64 x_13)] [(5, 25, [.s 12, .s 13])] [] [] (by kernel_rfl) ?_
     refine SL.nilThen ?_
     refine SC.reg ?_
     refine SL.sim tk 2 [(6, vp 4 0), (10, vp 5 0), (32, vs 8), (33, vi .i64 (len x_4.1)), (34, vi .i64 (w64 (x_13 + 1)))] [] [] [] (by kernel_rfl) ?_
     refine SL.nilJ fun a w h => ?_
     exact ⟨n1, Nat.lt_succ_self _, x_15, w64 (x_13 + 1), next_inv hp hs1, h.at (js := [.g 0, .g 1, .g 2, .g 3, .g 4, .g 5, .g 12, .g 13, .g 8]) (by kernel_rfl)⟩
   refine SC.exitJ rfl fun a w h => ?_
   have ho := done_inv hp hs1
   replace hp := ho1
   try rw [ho] at hp
   exact ⟨c_12, hp, h.at (js := [.g 0, .g 1, .g 2, .g 3, .g 4, .g 5, .g 6, .g 7]) (by kernel_rfl)⟩
 rintro a w ⟨c_8, hp, h⟩
 refine h.go ?_
 refine SC.seq ?_
 refine SC.reg ?_
 refine SL.sim tk 1 [(6, vp 4 0), (42, .g [.s 6, .s 7])] [] [] [] (by kernel_rfl) ?_
 obtain ⟨x_9, e_x_9, hp⟩ := bind_inv hp
 refine SL.eff (e_c Tryd.call16 (ok_flash_Mount F c_8 _ e_x_9) [.g 6, .g 7] [.g [.s 6, .s 7]] (.u [.inr (C_api_Store x_9.1 (.s 8) (.s 9) (.s 10)), .inl (ci .i64 x_9.2)]) (by kernel_rfl) (.inl rfl)) rfl (by kernel_rfl) ?_
 refine SL.sim tk 4 [(6, vp 4 0), (7, vi .i64 x_9.2)] [(4, 40, (C_api_Store x_9.1 (.s 8) (.s 9) (.s 10)))] [] [] (by kernel_rfl) ?_
 refine SL.nilThen ?_
 obtain rfl := some_inv' hp
 exact SC.re (js := [.g 0, .g 1, .g 2, .g 3, .g 8, .g 9, .g 10]) tk (by kernel_rfl)

theorem ok_wirelesslaw39_lives (F : Nat) (r : Bool) (hp : wirelesslaw39_lives F = some r) : Spec Tryd.prog 8 [] [] (vb r) [] := by
 refine Spec.enter Tryd.func8 rfl Tryd.ntmps8 rfl rfl fun fx => ?_
 refine SC.r tk [] [] [] [] (by kernel_rfl) ?_
 refine SC.seq ?_
 refine SC.reg ?_
 obtain ⟨x_1, e_x_1, hp⟩ := bind_inv hp
 refine SL.eff (e_c Tryd.call9 (ok_flash_Blank F 64 _ e_x_1) [] [vi .i64 64] (.u [.inr [.s 0, .s 1], .inl (ci .i64 x_1.2)]) (by kernel_rfl) (.inl rfl)) rfl (by kernel_rfl) ?_
 refine SL.sim tk 3 [(13, .g [.s 0, .s 1]), (14, vi .i64 x_1.2)] [] [] [] (by kernel_rfl) ?_
 refine SL.eff (e_alloc (E := 25) tk [nl, nl] (by kernel_rfl)) rfl (by kernel_rfl) ?_
 refine SL.sim tk 2 [(1, vp 2 0), (2, vi .i64 x_1.2)] [(2, 25, [.s 0, .s 1])] [] [] (by kernel_rfl) ?_
 refine SL.nilThen ?_
 refine SC.seq ?_
 refine SC.reg ?_
 refine SL.sim tk 1 [(2, vi .i64 x_1.2), (16, .g [.s 0, .s 1])] [] [] [] (by kernel_rfl) ?_
 obtain ⟨x_2, e_x_2, hp⟩ := bind_inv hp
 refine SL.eff (e_c Tryd.call16 (ok_flash_Mount F x_1.1 _ e_x_2) [.g 0, .g 1] [.g [.s 0, .s 1]] (.u [.inr (C_api_Store x_2.1 (.s 3) (.s 4) (.s 5)), .inl (ci .i64 x_2.2)]) (by kernel_rfl) (.inl rfl)) rfl (by kernel_rfl) ?_
 refine SL.norm (itsN := [.rd 1 R8 x_1.1.Banks.1, .rd 1 R8 x_1.1.Banks.2, .blk 25 [.s 0, .s 1], .rd 1 R8 x_2.1.Flash.Banks.1, .rd 1 R8 x_2.1.Flash.Banks.2, .rd 2 R_T_api_Item x_2.1.Items]) (by kernel_rfl) ?_
 refine SL.sim tk 3 [(2, vi .i64 x_1.2), (18, .g (C_api_Store x_2.1 (.s 3) (.s 4) (.s 5))), (19, vi .i64 x_2.2)] [] [] [] (by kernel_rfl) ?_
 refine SL.eff (e_alloc (E := 40) tk [nl, nl, ci .i64 0, ci .i64 0, ci .i64 0, nl] (by kernel_rfl)) rfl (by kernel_rfl) ?_
 refine SL.sim tk 2 [(2, vi .i64 x_1.2), (3, vp 6 0), (4, vi .i64 x_2.2)] [(6, 40, (C_api_Store x_2.1 (.s 3) (.s 4) (.s 5)))] [] [] (by kernel_rfl) ?_
 refine SL.nilThen ?_
 refine SC.seq ?_
 refine SC.reg ?_
 refine SL.sim tk 1 [(2, vi .i64 x_1.2), (3, vp 6 0), (4, vi .i64 x_2.2), (21, .g (C_api_Store x_2.1 (.s 3) (.s 4) (.s 5)))] [] [] [] (by kernel_rfl) ?_
 refine SL.eff (e_lit (sz := 1) (E := 5) (R := R8) (by_ := 1) tk [[ci .u8 7]] [7] (by kernel_rfl) ⟨Clo.int, trivial⟩ rfl (by kernel_rfl) (by kernel_rfl)) rfl (by kernel_rfl) ?_
 obtain ⟨x_3, e_x_3, hp⟩ := bind_inv hp
 refine SL.pre (pre_frz (i := 7) (sz := 1) (E := 5) (R := R8) (l := [7]) (by kernel_rfl)) ?_
 refine SL.eff (e_c Tryd.call25 (ok_flash_Put F x_2.1 5 [7] _ e_x_3) [.g 3, .g 4, .g 5, .g 7] [.g (C_api_Store x_2.1 (.s 3) (.s 4) (.s 5)), vi .u16 5, vs 7] (.u [.inr (C_api_Store x_3.1 (.s 8) (.s 9) (.s 10)), .inl (ci .i64 x_3.2)]) (by kernel_rfl) (.inl rfl)) rfl (by kernel_rfl) ?_
 refine SL.norm (itsN := [.rd 1 R8 x_1.1.Banks.1, .rd 1 R8 x_1.1.Banks.2, .blk 25 [.s 0, .s 1], .rd 1 R8 x_2.1.Flash.Banks.1, .rd 1 R8 x_2.1.Flash.Banks.2, .rd 2 R_T_api_Item x_2.1.Items, .blk 40 (C_api_Store x_2.1 (.s 3) (.s 4) (.s 5)), .rd 1 R8 [7], .rd 1 R8 x_3.1.Flash.Banks.1, .rd 1 R8 x_3.1.Flash.Banks.2, .rd 2 R_T_api_Item x_3.1.Items]) (by kernel_rfl) ?_
 refine SL.sim tk 3 [(2, vi .i64 x_1.2), (3, vp 6 0), (4, vi .i64 x_2.2), (24, .g (C_api_Store x_3.1 (.s 8) (.s 9) (.s 10))), (25, vi .i64 x_3.2)] [] [] [] (by kernel_rfl) ?_
 refine SL.eff (e_alloc (E := 40) tk [nl, nl, ci .i64 0, ci .i64 0, ci .i64 0, nl] (by kernel_rfl)) rfl (by kernel_rfl) ?_
 refine SL.sim tk 2 [(2, vi .i64 x_1.2), (3, vp 6 0), (4, vi .i64 x_2.2), (5, vp 11 0), (6, vi .i64 x_3.2)] [(11, 40, (C_api_Store x_3.1 (.s 8) (.s 9) (.s 10)))] [] [] (by kernel_rfl) ?_
 refine SL.nilThen ?_
 refine SC.seq ?_
 refine SC.reg ?_
 refine SL.sim tk 1 [(2, vi .i64 x_1.2), (3, vp 6 0), (4, vi .i64 x_2.2), (5, vp 11 0), (6, vi .i64 x_3.2), (27, .g (C_api_Store x_3.1 (.s 8) (.s 9) (.s 10)))] [] [] [] (by kernel_rfl) ?_
 obtain ⟨x_4, e_x_4, hp⟩ := bind_inv hp
 refine SL.eff (e_c Tryd.call19 (ok_flash_Get F x_3.1 5 _ e_x_4) [.g 8, .g 9, .g 10] [.g (C_api_Store x_3.1 (.s 8) (.s 9) (.s 10)), vi .u16 5] (.u [.inl (.s 12), .inl (cb x_4.2)]) (by kernel_rfl) (.inl rfl)) rfl (by kernel_rfl) ?_
 refine SL.norm (itsN := [.rd 1 R8 x_1.1.Banks.1, .rd 1 R8 x_1.1.Banks.2, .blk 25 [.s 0, .s 1], .rd 1 R8 x_2.1.Flash.Banks.1, .rd 1 R8 x_2.1.Flash.Banks.2, .rd 2 R_T_api_Item x_2.1.Items, .blk 40 (C_api_Store x_2.1 (.s 3) (.s 4) (.s 5)), .rd 1 R8 [7], .rd 1 R8 x_3.1.Flash.Banks.1, .rd 1 R8 x_3.1.Flash.Banks.2, .rd 2 R_T_api_Item x_3.1.Items, .blk 40 (C_api_Store x_3.1 (.s 8) (.s 9) (.s 10)), .rd 1 R8 x_4.1]) (by kernel_rfl) ?_
 refine SL.sim tk 5 [(2, vi .i64 x_1.2), (3, vp 6 0), (4, vi .i64 x_2.2), (5, vp 11 0), (6, vi .i64 x_3.2), (7, vs 12), (8, vb x_4.2)] [] [] [] (by kernel_rfl) ?_
 refine SL.nilThen ?_
 refine SC.seq ?_
 refine SC.reg ?_
 obtain ⟨x_5, e_x_5, hp⟩ := bind_inv hp
 refine SL.eff (e_c Tryd.call9 (ok_flash_Blank F 63 _ e_x_5) [] [vi .i64 63] (.u [.inr [.s 13, .s 14], .inl (ci .i64 x_5.2)]) (by kernel_rfl) (.inl rfl)) rfl (by kernel_rfl) ?_
 refine SL.sim tk 3 [(2, vi .i64 x_1.2), (3, vp 6 0), (4, vi .i64 x_2.2), (5, vp 11 0), (6, vi .i64 x_3.2), (7, vs 12), (8, vb x_4.2), (33, .g [.s 13, .s 14]), (34, vi .i64 x_5.2)] [] [] [] (by kernel_rfl) ?_
 refine SL.eff (e_alloc (E := 25) tk [nl, nl] (by kernel_rfl)) rfl (by kernel_rfl) ?_
 refine SL.sim tk 2 [(2, vi .i64 x_1.2), (3, vp 6 0), (4, vi .i64 x_2.2), (5, vp 11 0), (6, vi .i64 x_3.2), (7, vs 12), (8, vb x_4.2), (10, vi .i64 x_5.2)] [(15, 25, [.s 13, .s 14])] [] [] (by kernel_rfl) ?_
 refine SL.nilThen ?_
 refine SC.seq ?_
 refine SC.reg ?_
 refine SL.sim tk 34 [(5, vp 11 0), (7, vs 12), (10, vi .i64 x_5.2), (68, vb ((((((((x_1.2 == 0) && (x_2.2 == 0)) && (x_2.1.End == 64)) && (x_3.2 == 0)) && (x_3.1.Bank == 1)) && (x_3.1.Count == 1)) && (x_3.1.End == 19)) && x_4.2))] [] [] [] (by kernel_rfl) ?_
 obtain ⟨z_7, hz, hpr⟩ := bind_inv hp
 clear hp
 refine SL.cutAt 4 (fun a w => A 82 0 fx [(5, vp 0 0), (10, vi .i64 x_5.2), (72, vb z_7)] [.blk 40 (C_api_Store x_3.1 (.s 1) (.s 2) (.s 3)), .rd 1 R8 x_3.1.Flash.Banks.1, .rd 1 R8 x_3.1.Flash.Banks.2, .rd 2 R_T_api_Item x_3.1.Items] a w) ?_ ?_
 · have hp := hz
   rcases Bool.eq_false_or_eq_true (((((((((x_1.2 == 0) && (x_2.2 == 0)) && (x_2.1.End == 64)) && (x_3.2 == 0)) && (x_3.1.Bank == 1)) && (x_3.1.Count == 1)) && (x_3.1.End == 19)) && x_4.2)) with hg_6 | hg_6
   · replace hp := if_t hp hg_6
     refine SL.yes rfl rfl hg_6 ?_
     refine SL.sim tk 1 [(5, vp 11 0), (10, vi .i64 x_5.2), (68, vb ((((((((x_1.2 == 0) && (x_2.2 == 0)) && (x_2.1.End == 64)) && (x_3.2 == 0)) && (x_3.1.Bank == 1)) && (x_3.1.Count == 1)) && (x_3.1.End == 19)) && x_4.2)), (69, vs 12)] [] [] [] (by kernel_rfl) ?_
     refine SL.yes rfl rfl hg_6 ?_
     refine SL.eff (e_b2s (l := x_4.1) tk rfl (.r (by kernel_rfl)) (by kernel_rfl)) rfl (by kernel_rfl) ?_
     refine SL.norm (itsN := [.rd 1 R8 x_1.1.Banks.1, .rd 1 R8 x_1.1.Banks.2, .blk 25 [.s 0, .s 1], .rd 1 R8 x_2.1.Flash.Banks.1, .rd 1 R8 x_2.1.Flash.Banks.2, .rd 2 R_T_api_Item x_2.1.Items, .blk 40 (C_api_Store x_2.1 (.s 3) (.s 4) (.s 5)), .rd 1 R8 [7], .rd 1 R8 x_3.1.Flash.Banks.1, .rd 1 R8 x_3.1.Flash.Banks.2, .rd 2 R_T_api_Item x_3.1.Items, .blk 40 (C_api_Store x_3.1 (.s 8) (.s 9) (.s 10)), .rd 1 R8 x_4.1, .rd 1 R8 x_5.1.Banks.1, .rd 1 R8 x_5.1.Banks.2, .blk 25 [.s 13, .s 14], .str (str x_4.1)]) (by kernel_rfl) ?_
     refine SL.yes rfl rfl hg_6 ?_
     refine SL.sim tk 1 [(5, vp 11 0), (10, vi .i64 x_5.2), (68, vb ((((((((x_1.2 == 0) && (x_2.2 == 0)) && (x_2.1.End == 64)) && (x_3.2 == 0)) && (x_3.1.Bank == 1)) && (x_3.1.Count == 1)) && (x_3.1.End == 19)) && x_4.2)), (71, vb ((str x_4.1) == [7]))] [] [] [] (by kernel_rfl) ?_
     refine SL.pickt rfl hg_6 rfl rfl ?_
     refine SL.nilJ fun a w h => ?_
     obtain rfl := some_inv' hp
     exact h.at (js := [.g 11, .g 8, .g 9, .g 10]) (by kernel_rfl)
   replace hp := if_f hp hg_6
   refine SL.no rfl rfl hg_6 rfl ?_
   refine SL.no rfl rfl hg_6 rfl ?_
   refine SL.no rfl rfl hg_6 rfl ?_
   refine SL.pickf rfl hg_6 rfl rfl ?_
   refine SL.nilJ fun a w h => ?_
   obtain rfl := some_inv' hp
   exact h.at (js := [.g 11, .g 8, .g 9, .g 10]) (by kernel_rfl)
 intro a w h
 have hp := hpr; clear hpr hz
 refine h.goL ?_
 refine SL.sim tk 1 [(5, vp 0 0), (10, vi .i64 x_5.2), (73, vb z_7)] [] [] [] (by kernel_rfl) ?_
 obtain ⟨z_9, hz, hpr⟩ := bind_inv hp
 clear hp
 refine SL.cutAt 4 (fun a w => A 82 0 fx [(10, vi .i64 x_5.2), (77, vb z_9)] [] a w) ?_ ?_
 · have hp := hz
   rcases Bool.eq_false_or_eq_true (z_7) with hg_8 | hg_8
   · replace hp := if_t hp hg_8
     refine SL.yes rfl rfl hg_8 ?_
     refine SL.sim tk 1 [(10, vi .i64 x_5.2), (73, vb z_7), (74, .g (C_api_Store x_3.1 (.s 1) (.s 2) (.s 3)))] [] [] [] (by kernel_rfl) ?_
     refine SL.yes rfl rfl hg_8 ?_
     obtain ⟨x_11, e_x_11, hp⟩ := bind_inv hp
     refine SL.eff (e_c Tryd.call21 (ok_flash_Free F x_3.1 _ e_x_11) [.g 1, .g 2, .g 3] [.g (C_api_Store x_3.1 (.s 1) (.s 2) (.s 3))] (vi .i64 x_11) (by kernel_rfl) (.inl rfl)) rfl (by kernel_rfl) ?_
     refine SL.yes rfl rfl hg_8 ?_
     refine SL.sim tk 1 [(10, vi .i64 x_5.2), (73, vb z_7), (76, vb (x_11 == 45))] [] [] [] (by kernel_rfl) ?_
     refine SL.pickt rfl hg_8 rfl rfl ?_
     refine SL.nilJ fun a w h => ?_
     obtain rfl := some_inv' hp
     exact h.at (js := []) (by kernel_rfl)
   replace hp := if_f hp hg_8
   refine SL.no rfl rfl hg_8 rfl ?_
   refine SL.no rfl rfl hg_8 rfl ?_
   refine SL.no rfl rfl hg_8 rfl ?_
   refine SL.pickf rfl hg_8 rfl rfl ?_
   refine SL.nilJ fun a w h => ?_
   obtain rfl := some_inv' hp
   exact h.at (js := []) (by kernel_rfl)
 intro a w h
 have hp := hpr; clear hpr hz
 refine h.goL ?_
 refine SL.sim tk 5 [(0, vb (z_9 && (x_5.2 == 5)))] [] [] [] (by kernel_rfl) ?_
 refine SL.nilThen ?_
 obtain rfl := some_inv' hp
 exact SC.re (js := []) tk (by kernel_rfl)

theorem ok_wirelesslaw39_copied (F : Nat) (b_1 : (List Int)) (r : (List Int)) (hp : wirelesslaw39_copied F b_1 = some r) : Spec Tryd.prog 11 [vs 0] [.rd 1 R8 b_1] (vs 1) [.gone, .rd 1 R8 r] := by
 refine Spec.enter Tryd.func11 rfl Tryd.ntmps11 rfl rfl fun fx => ?_
 refine SC.r tk [(0, vs 0)] [] [] [] (by kernel_rfl) ?_
 refine SC.seq ?_
 refine SC.reg ?_
 refine SL.eff (e_lit (sz := 1) (E := 5) (R := R8) (by_ := 1) tk [] ([] : (List Int)) (by kernel_rfl) trivial rfl (by kernel_rfl) (by kernel_rfl)) rfl (by kernel_rfl) ?_
 refine SL.sim tk 1 [(3, vs 1), (4, vs 0)] [] [] [] (by kernel_rfl) ?_
 obtain ⟨l_2, e_l_2, hp⟩ := bind_inv hp
 refine SL.eff (e_app (i := 1) (l := ([] : (List Int))) (sz := 1) (E := 5) (R := R8) (by_ := 1) (m := b_1) tk rfl (by kernel_rfl) rfl (.r (by kernel_rfl)) e_l_2 (by kernel_rfl)) rfl (by kernel_rfl) ?_
 refine SL.sim tk 1 [(2, vs 2)] [] [] [] (by kernel_rfl) ?_
 refine SL.nilThen ?_
 obtain rfl := some_inv' hp
 exact SC.re (js := [.g 0, .z 2]) tk (by kernel_rfl)

theorem ok_wirelessref39_Set (F : Nat) (l_1 : (List T_api_Item)) (key_2 : Int) (value_3 : (List Int)) (r : (List T_api_Item)) (hp : wirelessref39_Set F l_1 key_2 value_3 = some r) : Spec Tryd.prog 47 [vs 0, vi .u16 key_2, vs 1] [.rd 2 R_T_api_Item l_1, .rd 1 R8 value_3] (vs 2) [.gone, .gone, .rd 2 R_T_api_Item r] := by
 refine Spec.enter Tryd.func47 rfl Tryd.ntmps47 rfl rfl fun fx => ?_
 refine SC.r tk [(0, vs 0), (1, vi .u16 key_2), (2, vs 1)] [] [] [] (by kernel_rfl) ?_
 refine SC.seq ?_
 refine SC.reg ?_
 refine SL.eff (e_lit (sz := 2) (E := 71) (R := R_T_api_Item) (by_ := 32) tk [] ([] : (List T_api_Item)) (by kernel_rfl) trivial rfl (by kernel_rfl) (by kernel_rfl)) rfl (by kernel_rfl) ?_
 refine SL.sim tk 1 [(0, vs 0), (1, vi .u16 key_2), (2, vs 1), (7, vs 2)] [] [] [] (by kernel_rfl) ?_
 refine SL.nilThen ?_
 refine SC.r tk [(0, vs 0), (1, vi .u16 key_2), (2, vs 1), (7, vs 2), (8, vb ((len value_3) == 0))] [] [] [] (by kernel_rfl) ?_
 refine SC.cut (fun a w => ∃ (l_4 : (List T_api_Item)) (z_5 : Bool), wirelessref39_Set_j1 F key_2 value_3 l_4 z_5 = some r ∧ A 64 2 fx [(1, vi .u16 key_2), (2, vs 1), (7, vs 2), (8, vb z_5)] [.gone, .rd 1 R8 value_3, .own 2 71 R_T_api_Item l_4] a w) ?_ ?_
 · refine SC.r tk [(0, vs 0), (1, vi .u16 key_2), (2, vs 1), (7, vs 2), (8, vb ((len value_3) == 0)), (9, vi .i64 0)] [] [] [] (by kernel_rfl) ?_
   refine SC.block ?_
   obtain ⟨o1, hi1, ho1⟩ := bind_inv hp
   clear hp
   refine SC.loop (fun n a w => ∃ (l_9 : (List T_api_Item)) (z_10 : Bool) (x_11 : Int), iter (fun s => wirelessref39_Set_l1 F l_1 key_2 value_3 s.1 s.2.1 s.2.2) n (l_9, z_10, x_11) = some o1 ∧ A 64 2 fx [(0, vs 0), (1, vi .u16 key_2), (2, vs 1), (7, vs 2), (8, vb z_10), (9, vi .i64 x_11)] [.rd 2 R_T_api_Item l_1, .rd 1 R8 value_3, .own 2 71 R_T_api_Item l_9] a w) F (fun a w h => ⟨([] : (List T_api_Item)), ((len value_3) == 0), 0, hi1, h.at (js := [.g 0, .g 1, .g 2]) (by kernel_rfl)⟩) ?_
   rintro n1 a w ⟨l_9, z_10, x_11, hi1, h⟩
   obtain ⟨n1, q1, rfl, hp, hs1⟩ := iter_inv hi1
   replace hp : wirelessref39_Set_l1 F l_1 key_2 value_3 l_9 z_10 x_11 = some q1 := hp
   clear hi1
   refine h.go ?_
   refine SC.seq ?_
   refine SC.r tk [(0, vs 0), (1, vi .u16 key_2), (2, vs 1), (7, vs 2), (8, vb z_10), (9, vi .i64 x_11), (17, vb (decide (x_11 < (len l_1))))] [] [] [] (by kernel_rfl) ?_
   refine SC.if' rfl hp (fun hp => ?_) (fun hp => ?_)
   · refine SC.skipThen ?_
     refine SC.cut (fun a w => ∃ (l_12 : (List T_api_Item)) (z_13 : Bool), wirelessref39_Set_j3 F x_11 l_12 z_13 = some q1 ∧ A 64 2 fx [(0, vs 0), (1, vi .u16 key_2), (2, vs 1), (7, vs 2), (8, vb z_13), (9, vi .i64 x_11)] [.rd 2 R_T_api_Item l_1, .rd 1 R8 value_3, .own 2 71 R_T_api_Item l_12] a w) ?_ ?_
     · refine SC.block ?_
       refine SC.cut (fun a w => ∃ (l_14 : (List T_api_Item)) (z_15 : Bool), wirelessref39_Set_j4 F l_1 key_2 x_11 l_14 z_15 = some q1 ∧ A 64 2 fx [(0, vs 0), (1, vi .u16 key_2), (2, vs 1), (7, vs 2), (8, vb z_15), (9, vi .i64 x_11)] [.rd 2 R_T_api_Item l_1, .rd 1 R8 value_3, .own 2 71 R_T_api_Item l_14] a w) ?_ ?_
       · refine SC.seq ?_
         refine SC.reg ?_
         refine SL.sim tk 3 [(0, vs 0), (1, vi .u16 key_2), (2, vs 1), (7, vs 2), (8, vb z_10), (9, vi .i64 x_11), (22, vb (!z_10))] [] [] [] (by kernel_rfl) ?_
         obtain ⟨z_20, hz, hpr⟩ := bind_inv hp
         clear hp
         refine SL.cutAt 8 (fun a w => A 64 2 fx [(0, vs 0), (1, vi .u16 key_2), (2, vs 1), (7, vs 2), (8, vb z_10), (9, vi .i64 x_11), (30, vb z_20)] [.rd 2 R_T_api_Item l_1, .rd 1 R8 value_3, .own 2 71 R_T_api_Item l_9] a w) ?_ ?_
         · have hp := hz
           rcases Bool.eq_false_or_eq_true ((!z_10)) with hg_19 | hg_19
           · replace hp := if_t hp hg_19
             refine SL.yes rfl rfl hg_19 ?_
             refine SL.sim tk 1 [(0, vs 0), (1, vi .u16 key_2), (2, vs 1), (7, vs 2), (8, vb z_10), (9, vi .i64 x_11), (22, vb (!z_10)), (23, vs 0)] [] [] [] (by kernel_rfl) ?_
             refine SL.yes rfl rfl hg_19 ?_
             refine SL.sim tk 1 [(0, vs 0), (1, vi .u16 key_2), (2, vs 1), (7, vs 2), (8, vb z_10), (9, vi .i64 x_11), (22, vb (!z_10)), (23, vs 0), (24, vi .i64 x_11)] [] [] [] (by kernel_rfl) ?_
             refine SL.yes rfl rfl hg_19 ?_
             obtain ⟨x_24, e_x_24, hp⟩ := bind_inv hp
             refine SL.pre (pre_ix (i := 0) (iv := x_11) (sz := 2) (R := R_T_api_Item) (l := l_1) (by kernel_rfl) rfl e_x_24) ?_
             refine SL.sim tk 1 [(0, vs 0), (1, vi .u16 key_2), (2, vs 1), (7, vs 2), (8, vb z_10), (9, vi .i64 x_11), (22, vb (!z_10)), (23, vs 0), (24, vi .i64 x_11), (25, vp 3 0)] [] [.el 3] [x_11] (by kernel_rfl) ?_
             refine SL.yes rfl rfl hg_19 ?_
             refine SL.sim tk 1 [(0, vs 0), (1, vi .u16 key_2), (2, vs 1), (7, vs 2), (8, vb z_10), (9, vi .i64 x_11), (22, vb (!z_10)), (23, vs 0), (24, vi .i64 x_11), (25, vp 3 0), (26, vp 3 0)] [] [] [] (by kernel_rfl) ?_
             refine SL.yes rfl rfl hg_19 ?_
             refine SL.sim tk 1 [(0, vs 0), (1, vi .u16 key_2), (2, vs 1), (7, vs 2), (8, vb z_10), (9, vi .i64 x_11), (22, vb (!z_10)), (23, vs 0), (24, vi .i64 x_11), (25, vp 3 0), (26, vp 3 0), (27, vi .u16 x_24.Key)] [] [] [] (by kernel_rfl) ?_
             refine SL.yes rfl rfl hg_19 ?_
             refine SL.sim tk 1 [(0, vs 0), (1, vi .u16 key_2), (2, vs 1), (7, vs 2), (8, vb z_10), (9, vi .i64 x_11), (22, vb (!z_10)), (23, vs 0), (24, vi .i64 x_11), (25, vp 3 0), (26, vp 3 0), (27, vi .u16 x_24.Key), (28, vi .u16 key_2)] [] [] [] (by kernel_rfl) ?_
             refine SL.yes rfl rfl hg_19 ?_
             refine SL.sim tk 1 [(0, vs 0), (1, vi .u16 key_2), (2, vs 1), (7, vs 2), (8, vb z_10), (9, vi .i64 x_11), (22, vb (!z_10)), (23, vs 0), (24, vi .i64 x_11), (25, vp 3 0), (26, vp 3 0), (27, vi .u16 x_24.Key), (28, vi .u16 key_2), (29, vb (decide (x_24.Key ≥ key_2)))] [] [] [] (by kernel_rfl) ?_
             refine SL.pickt rfl hg_19 rfl rfl ?_
             refine SL.nilJ fun a w h => ?_
             obtain rfl := some_inv' hp
             exact h.at (js := [.g 0, .g 1, .g 2]) (by kernel_rfl)
           replace hp := if_f hp hg_19
           refine SL.no rfl rfl hg_19 rfl ?_
           refine SL.no rfl rfl hg_19 rfl ?_
           refine SL.no rfl rfl hg_19 rfl ?_
           refine SL.no rfl rfl hg_19 rfl ?_
           refine SL.no rfl rfl hg_19 rfl ?_
           refine SL.no rfl rfl hg_19 rfl ?_
           refine SL.no rfl rfl hg_19 rfl ?_
           refine SL.pickf rfl hg_19 rfl rfl ?_
           refine SL.nilJ fun a w h => ?_
           obtain rfl := some_inv' hp
           exact h.at (js := [.g 0, .g 1, .g 2]) (by kernel_rfl)
         intro a w h
         have hp := hpr; clear hpr hz
         refine h.goL ?_
         refine SL.nilThen ?_
         refine SC.if' rfl hp (fun hp => ?_) (fun hp => ?_)
         · refine SC.seq ?_
           refine SC.reg ?_
           refine SL.sim tk 2 [(0, vs 0), (1, vi .u16 key_2), (2, vs 1), (7, vs 2), (9, vi .i64 x_11), (31, vs 2), (32, vi .u16 key_2)] [] [] [] (by kernel_rfl) ?_
           refine SL.eff (e_lit (sz := 1) (E := 5) (R := R8) (by_ := 1) tk [] ([] : (List Int)) (by kernel_rfl) trivial rfl (by kernel_rfl) (by kernel_rfl)) rfl (by kernel_rfl) ?_
           refine SL.sim tk 1 [(0, vs 0), (1, vi .u16 key_2), (2, vs 1), (7, vs 2), (9, vi .i64 x_11), (31, vs 2), (32, vi .u16 key_2), (33, vs 3), (34, vs 1)] [] [] [] (by kernel_rfl) ?_
           obtain ⟨l_21, e_l_21, hp⟩ := bind_inv hp
           refine SL.eff (e_app (i := 3) (l := ([] : (List Int))) (sz := 1) (E := 5) (R := R8) (by_ := 1) (m := value_3) tk rfl (by kernel_rfl) rfl (.r (by kernel_rfl)) e_l_21 (by kernel_rfl)) rfl (by kernel_rfl) ?_
           refine SL.sim tk 1 [(0, vs 0), (1, vi .u16 key_2), (2, vs 1), (7, vs 2), (9, vi .i64 x_11), (31, vs 2), (36, .g [ci .u16 key_2, .s 4])] [] [] [] (by kernel_rfl) ?_
           refine SL.pre (pre_frz (i := 4) (sz := 1) (E := 5) (R := R8) (l := l_21) (by kernel_rfl)) ?_
           refine SL.eff (e_lit (sz := 2) (E := 71) (R := R_T_api_Item) (by_ := 32) tk [[ci .u16 key_2, .s 4]] [(T_api_Item.mk key_2 l_21)] (by kernel_rfl) ⟨(clo_T_api_Item (x := (T_api_Item.mk key_2 l_21)) (Clo.sl (by kernel_rfl))), trivial⟩ rfl (by kernel_rfl) (by kernel_rfl)) rfl (by kernel_rfl) ?_
           obtain ⟨l_22, e_l_22, hp⟩ := bind_inv hp
           refine SL.eff (e_app (i := 2) (l := l_9) (sz := 2) (E := 71) (R := R_T_api_Item) (by_ := 32) (m := [(T_api_Item.mk key_2 l_21)]) tk rfl (by kernel_rfl) rfl (.o 71 (by kernel_rfl)) e_l_22 (by kernel_rfl)) rfl (by kernel_rfl) ?_
           refine SL.norm (itsN := [.rd 2 R_T_api_Item l_1, .rd 1 R8 value_3, .gone, .gone, .rd 1 R8 l_21, .own 2 71 R_T_api_Item [(T_api_Item.mk key_2 l_21)], .own 2 71 R_T_api_Item l_22]) (by kernel_rfl) ?_
           refine SL.sim tk 1 [(0, vs 0), (1, vi .u16 key_2), (2, vs 1), (7, vs 6), (9, vi .i64 x_11)] [] [] [] (by kernel_rfl) ?_
           refine SL.nilThen ?_
           refine SC.reg ?_
           refine SL.sim tk 1 [(0, vs 0), (1, vi .u16 key_2), (2, vs 1), (7, vs 6), (8, vb true), (9, vi .i64 x_11)] [] [] [] (by kernel_rfl) ?_
           refine SL.nilJ fun a w h => ?_
           exact ⟨l_22, true, hp, h.at (js := [.g 0, .g 1, .g 6]) (by kernel_rfl)⟩
         refine SC.skipJ fun a w h => ?_
         exact ⟨l_9, z_10, hp, h.at (js := [.g 0, .g 1, .g 2]) (by kernel_rfl)⟩
       rintro a w ⟨l_14, z_15, hp, h⟩
       refine h.go ?_
       obtain ⟨x_16, e_x_16, hp⟩ := bind_inv hp
       refine SC.pre (pre_ix (i := 0) (iv := x_11) (sz := 2) (R := R_T_api_Item) (l := l_1) (by kernel_rfl) rfl e_x_16) ?_
       refine SC.r tk [(0, vs 0), (1, vi .u16 key_2), (2, vs 1), (7, vs 2), (8, vb z_15), (9, vi .i64 x_11), (45, vb (x_16.Key != key_2))] [] [.el 3] [x_11] (by kernel_rfl) ?_
       refine SC.if' rfl hp (fun hp => ?_) (fun hp => ?_)
       · refine SC.reg ?_
         obtain ⟨x_17, e_x_17, hp⟩ := bind_inv hp
         refine SL.pre (pre_ix (i := 0) (iv := x_11) (sz := 2) (R := R_T_api_Item) (l := l_1) (by kernel_rfl) rfl e_x_17) ?_
         refine SL.sim tk 5 [(0, vs 0), (1, vi .u16 key_2), (2, vs 1), (7, vs 2), (8, vb z_15), (9, vi .i64 x_11), (46, vs 2), (50, .g [ci .u16 x_17.Key, .s 6])] [] [.el 5] [x_11] (by kernel_rfl) ?_
         refine SL.eff (e_lit (sz := 2) (E := 71) (R := R_T_api_Item) (by_ := 32) tk [[ci .u16 x_17.Key, .s 6]] [x_17] (by kernel_rfl) ⟨(clo_T_api_Item (x := x_17) (Clo.sl (by kernel_rfl))), trivial⟩ rfl (by kernel_rfl) (by kernel_rfl)) rfl (by kernel_rfl) ?_
         obtain ⟨l_18, e_l_18, hp⟩ := bind_inv hp
         refine SL.eff (e_app (i := 2) (l := l_14) (sz := 2) (E := 71) (R := R_T_api_Item) (by_ := 32) (m := [x_17]) tk rfl (by kernel_rfl) rfl (.o 71 (by kernel_rfl)) e_l_18 (by kernel_rfl)) rfl (by kernel_rfl) ?_
         refine SL.norm (itsN := [.rd 2 R_T_api_Item l_1, .rd 1 R8 value_3, .gone, .elt (some (0, x_11)) false [ci .u16 x_16.Key, .s 4], .rd 1 R8 x_16.Value, .elt (some (0, x_11)) false [ci .u16 x_17.Key, .s 6], .rd 1 R8 x_17.Value, .own 2 71 R_T_api_Item [x_17], .own 2 71 R_T_api_Item l_18]) (by kernel_rfl) ?_
         refine SL.sim tk 1 [(0, vs 0), (1, vi .u16 key_2), (2, vs 1), (7, vs 8), (8, vb z_15), (9, vi .i64 x_11)] [] [] [] (by kernel_rfl) ?_
         refine SL.nilJ fun a w h => ?_
         exact ⟨l_18, z_15, hp, h.at (js := [.g 0, .g 1, .g 8]) (by kernel_rfl)⟩
       refine SC.skipJ fun a w h => ?_
       exact ⟨l_14, z_15, hp, h.at (js := [.g 0, .g 1, .g 2]) (by kernel_rfl)⟩
     rintro a w ⟨l_12, z_13, hp, h⟩
     refine h.go ?_
     refine SC.reg ?_
     refine SL.sim tk 3 [(0, vs 0), (1, vi .u16 key_2), (2, vs 1), (7, vs 2), (8, vb z_13), (9, vi .i64 (w64 (x_11 + 1)))] [] [] [] (by kernel_rfl) ?_
     refine SL.nilJ fun a w h => ?_
     exact ⟨n1, Nat.lt_succ_self _, l_12, z_13, w64 (x_11 + 1), next_inv hp hs1, h.at (js := [.g 0, .g 1, .g 2]) (by kernel_rfl)⟩
   refine SC.exitJ rfl fun a w h => ?_
   have ho := done_inv hp hs1
   replace hp := ho1
   try rw [ho] at hp
   exact ⟨l_9, z_10, hp, h.at (js := [.g 0, .g 1, .g 2]) (by kernel_rfl)⟩
 rintro a w ⟨l_4, z_5, hp, h⟩
 refine h.go ?_
 refine SC.cut (fun a w => ∃ (l_6 : (List T_api_Item)), wirelessref39_Set_j2 F l_6 = some r ∧ A 64 2 fx [(7, vs 2)] [.gone, .gone, .own 2 71 R_T_api_Item l_6] a w) ?_ ?_
 · refine SC.r tk [(1, vi .u16 key_2), (2, vs 1), (7, vs 2), (54, vb (!z_5))] [] [] [] (by kernel_rfl) ?_
   refine SC.if' rfl hp (fun hp => ?_) (fun hp => ?_)
   · refine SC.reg ?_
     refine SL.sim tk 2 [(2, vs 1), (7, vs 2), (55, vs 2), (56, vi .u16 key_2)] [] [] [] (by kernel_rfl) ?_
     refine SL.eff (e_lit (sz := 1) (E := 5) (R := R8) (by_ := 1) tk [] ([] : (List Int)) (by kernel_rfl) trivial rfl (by kernel_rfl) (by kernel_rfl)) rfl (by kernel_rfl) ?_
     refine SL.sim tk 1 [(7, vs 2), (55, vs 2), (56, vi .u16 key_2), (57, vs 3), (58, vs 1)] [] [] [] (by kernel_rfl) ?_
     obtain ⟨l_7, e_l_7, hp⟩ := bind_inv hp
     refine SL.eff (e_app (i := 3) (l := ([] : (List Int))) (sz := 1) (E := 5) (R := R8) (by_ := 1) (m := value_3) tk rfl (by kernel_rfl) rfl (.r (by kernel_rfl)) e_l_7 (by kernel_rfl)) rfl (by kernel_rfl) ?_
     refine SL.sim tk 1 [(7, vs 2), (55, vs 2), (60, .g [ci .u16 key_2, .s 4])] [] [] [] (by kernel_rfl) ?_
     refine SL.pre (pre_frz (i := 4) (sz := 1) (E := 5) (R := R8) (l := l_7) (by kernel_rfl)) ?_
     refine SL.eff (e_lit (sz := 2) (E := 71) (R := R_T_api_Item) (by_ := 32) tk [[ci .u16 key_2, .s 4]] [(T_api_Item.mk key_2 l_7)] (by kernel_rfl) ⟨(clo_T_api_Item (x := (T_api_Item.mk key_2 l_7)) (Clo.sl (by kernel_rfl))), trivial⟩ rfl (by kernel_rfl) (by kernel_rfl)) rfl (by kernel_rfl) ?_
     obtain ⟨l_8, e_l_8, hp⟩ := bind_inv hp
     refine SL.eff (e_app (i := 2) (l := l_4) (sz := 2) (E := 71) (R := R_T_api_Item) (by_ := 32) (m := [(T_api_Item.mk key_2 l_7)]) tk rfl (by kernel_rfl) rfl (.o 71 (by kernel_rfl)) e_l_8 (by kernel_rfl)) rfl (by kernel_rfl) ?_
     refine SL.norm (itsN := [.gone, .rd 1 R8 value_3, .gone, .gone, .rd 1 R8 l_7, .own 2 71 R_T_api_Item [(T_api_Item.mk key_2 l_7)], .own 2 71 R_T_api_Item l_8]) (by kernel_rfl) ?_
     refine SL.sim tk 1 [(7, vs 6)] [] [] [] (by kernel_rfl) ?_
     refine SL.nilJ fun a w h => ?_
     exact ⟨l_8, hp, h.at (js := [.g 0, .g 1, .g 6]) (by kernel_rfl)⟩
   refine SC.skipJ fun a w h => ?_
   exact ⟨l_4, hp, h.at (js := [.g 0, .g 1, .g 2]) (by kernel_rfl)⟩
 rintro a w ⟨l_6, hp, h⟩
 refine h.go ?_
 refine SC.r tk [(6, vs 2)] [] [] [] (by kernel_rfl) ?_
 obtain rfl := some_inv' hp
 exact SC.re (js := [.g 0, .g 1, .z 2]) tk (by kernel_rfl)

theorem ok_wirelesslaw39_after (F : Nat) (l_1 : (List T_api_Item)) (x_2 : T_wirelesslaw39_Step) (r : (List T_api_Item)) (hp : wirelesslaw39_after F l_1 x_2 = some r) : Spec Tryd.prog 29 [vs 0, .g (C_wirelesslaw39_Step x_2 (.s 1))] [.rd 2 R_T_api_Item l_1, .rd 1 R8 x_2.Value] (vs 2) [.gone, .gone, .rd 2 R_T_api_Item r] := by
 refine Spec.enter Tryd.func29 rfl Tryd.ntmps29 rfl rfl fun fx => ?_
 refine SC.seq ?_
 refine SC.reg ?_
 refine SL.eff (e_box (E := 57) (C_wirelesslaw39_Step x_2 (.s 1)) (by kernel_rfl)) rfl (by kernel_rfl) ?_
 refine SL.sim tk 1 [(0, vs 0), (3, vp 2 0)] [] [] [] (by kernel_rfl) ?_
 refine SL.nilThen ?_
 refine SC.seq ?_
 refine SC.reg ?_
 refine SL.sim tk 5 [(5, vs 0), (7, vi .u16 x_2.Key), (9, vs 1)] [] [] [] (by kernel_rfl) ?_
 obtain ⟨x_3, e_x_3, hp⟩ := bind_inv hp
 refine SL.eff (e_c Tryd.call47 (ok_wirelessref39_Set F l_1 x_2.Key x_2.Value _ e_x_3) [.g 0, .g 1] [vs 0, vi .u16 x_2.Key, vs 1] (vs 3) (by kernel_rfl) (.inl rfl)) rfl (by kernel_rfl) ?_
 refine SL.sim tk 1 [(4, vs 3)] [] [] [] (by kernel_rfl) ?_
 refine SL.nilThen ?_
 obtain rfl := some_inv' hp
 exact SC.re (js := [.g 0, .g 1, .g 3]) tk (by kernel_rfl)

theorem ok_wirelessref39_SameFlash (F : Nat) (a_1 : T_api_Flash) (b_2 : T_api_Flash) (r : Bool) (hp : wirelessref39_SameFlash F a_1 b_2 = some r) : Spec Tryd.prog 12 [.g [.s 0, .s 1], .g [.s 2, .s 3]] [.rd 1 R8 a_1.Banks.1, .rd 1 R8 a_1.Banks.2, .rd 1 R8 b_2.Banks.1, .rd 1 R8 b_2.Banks.2] (vb r) [.gone, .gone, .gone, .gone] := by
 refine Spec.enter Tryd.func12 rfl Tryd.ntmps12 rfl rfl fun fx => ?_
 refine SC.seq ?_
 refine SC.reg ?_
 refine SL.eff (e_box (E := 25) [.s 0, .s 1] (by kernel_rfl)) rfl (by kernel_rfl) ?_
 refine SL.eff (e_box (E := 25) [.s 2, .s 3] (by kernel_rfl)) rfl (by kernel_rfl) ?_
 refine SL.sim tk 1 [(2, vp 4 0), (3, vp 5 0)] [] [] [] (by kernel_rfl) ?_
 refine SL.nilThen ?_
 refine SC.seq ?_
 refine SC.reg ?_
 refine SL.sim tk 1 [(2, vp 4 0), (3, vp 5 0), (5, vp 4 0)] [] [] [] (by kernel_rfl) ?_
 refine SL.eff (e_ixa (off := 0) (T := 25) (cs := [.s 0, .s 1]) tk rfl rfl (by kernel_rfl) (by kernel_rfl)) rfl (by kernel_rfl) ?_
 refine SL.sim tk 1 [(2, vp 4 0), (3, vp 5 0), (7, vs 0)] [] [] [] (by kernel_rfl) ?_
 refine SL.eff (e_b2s (l := a_1.Banks.1) tk rfl (.r (by kernel_rfl)) (by kernel_rfl)) rfl (by kernel_rfl) ?_
 refine SL.norm (itsN := [.rd 1 R8 a_1.Banks.1, .rd 1 R8 a_1.Banks.2, .rd 1 R8 b_2.Banks.1, .rd 1 R8 b_2.Banks.2, .blk 25 [.s 0, .s 1], .blk 25 [.s 2, .s 3], .str (str a_1.Banks.1)]) (by kernel_rfl) ?_
 refine SL.sim tk 1 [(2, vp 4 0), (3, vp 5 0), (8, vt 6), (9, vp 5 0)] [] [] [] (by kernel_rfl) ?_
 refine SL.eff (e_ixa (off := 0) (T := 25) (cs := [.s 2, .s 3]) tk rfl rfl (by kernel_rfl) (by kernel_rfl)) rfl (by kernel_rfl) ?_
 refine SL.sim tk 1 [(2, vp 4 0), (3, vp 5 0), (8, vt 6), (11, vs 2)] [] [] [] (by kernel_rfl) ?_
 refine SL.eff (e_b2s (l := b_2.Banks.1) tk rfl (.r (by kernel_rfl)) (by kernel_rfl)) rfl (by kernel_rfl) ?_
 refine SL.sim tk 2 [(2, vp 4 0), (3, vp 5 0), (14, vb ((str a_1.Banks.1) == (str b_2.Banks.1)))] [] [] [] (by kernel_rfl) ?_
 obtain ⟨z_4, hz, hpr⟩ := bind_inv hp
 clear hp
 refine SL.cutAt 10 (fun a w => A 25 4 fx [(24, vb z_4)] [.gone, .gone, .gone, .gone] a w) ?_ ?_
 · have hp := hz
   rcases Bool.eq_false_or_eq_true (((str a_1.Banks.1) == (str b_2.Banks.1))) with hg_3 | hg_3
   · replace hp := if_t hp hg_3
     refine SL.yes rfl rfl hg_3 ?_
     refine SL.sim tk 1 [(3, vp 5 0), (14, vb ((str a_1.Banks.1) == (str b_2.Banks.1))), (15, vp 4 0)] [] [] [] (by kernel_rfl) ?_
     refine SL.yes rfl rfl hg_3 ?_
     refine SL.eff (e_ixa (off := 1) (T := 25) (cs := [.s 0, .s 1]) tk rfl rfl (by kernel_rfl) (by kernel_rfl)) rfl (by kernel_rfl) ?_
     refine SL.yes rfl rfl hg_3 ?_
     refine SL.sim tk 1 [(3, vp 5 0), (14, vb ((str a_1.Banks.1) == (str b_2.Banks.1))), (17, vs 1)] [] [] [] (by kernel_rfl) ?_
     refine SL.yes rfl rfl hg_3 ?_
     refine SL.eff (e_b2s (l := a_1.Banks.2) tk rfl (.r (by kernel_rfl)) (by kernel_rfl)) rfl (by kernel_rfl) ?_
     refine SL.norm (itsN := [.rd 1 R8 a_1.Banks.1, .rd 1 R8 a_1.Banks.2, .rd 1 R8 b_2.Banks.1, .rd 1 R8 b_2.Banks.2, .blk 25 [.s 0, .s 1], .blk 25 [.s 2, .s 3], .str (str a_1.Banks.1), .str (str b_2.Banks.1), .str (str a_1.Banks.2)]) (by kernel_rfl) ?_
     refine SL.yes rfl rfl hg_3 ?_
     refine SL.sim tk 1 [(14, vb ((str a_1.Banks.1) == (str b_2.Banks.1))), (18, vt 8), (19, vp 5 0)] [] [] [] (by kernel_rfl) ?_
     refine SL.yes rfl rfl hg_3 ?_
     refine SL.eff (e_ixa (off := 1) (T := 25) (cs := [.s 2, .s 3]) tk rfl rfl (by kernel_rfl) (by kernel_rfl)) rfl (by kernel_rfl) ?_
     refine SL.yes rfl rfl hg_3 ?_
     refine SL.sim tk 1 [(14, vb ((str a_1.Banks.1) == (str b_2.Banks.1))), (18, vt 8), (21, vs 3)] [] [] [] (by kernel_rfl) ?_
     refine SL.yes rfl rfl hg_3 ?_
     refine SL.eff (e_b2s (l := b_2.Banks.2) tk rfl (.r (by kernel_rfl)) (by kernel_rfl)) rfl (by kernel_rfl) ?_
     refine SL.yes rfl rfl hg_3 ?_
     refine SL.sim tk 1 [(14, vb ((str a_1.Banks.1) == (str b_2.Banks.1))), (23, vb ((str a_1.Banks.2) == (str b_2.Banks.2)))] [] [] [] (by kernel_rfl) ?_
     refine SL.pickt rfl hg_3 rfl rfl ?_
     refine SL.nilJ fun a w h => ?_
     obtain rfl := some_inv' hp
     exact h.at (js := [.g 0, .g 1, .g 2, .g 3]) (by kernel_rfl)
   replace hp := if_f hp hg_3
   refine SL.no rfl rfl hg_3 rfl ?_
   refine SL.no rfl rfl hg_3 rfl ?_
   refine SL.no rfl rfl hg_3 rfl ?_
   refine SL.no rfl rfl hg_3 rfl ?_
   refine SL.no rfl rfl hg_3 rfl ?_
   refine SL.no rfl rfl hg_3 rfl ?_
   refine SL.no rfl rfl hg_3 rfl ?_
   refine SL.no rfl rfl hg_3 rfl ?_
   refine SL.no rfl rfl hg_3 rfl ?_
   refine SL.pickf rfl hg_3 rfl rfl ?_
   refine SL.nilJ fun a w h => ?_
   obtain rfl := some_inv' hp
   exact h.at (js := [.g 0, .g 1, .g 2, .g 3]) (by kernel_rfl)
 intro a w h
 have hp := hpr; clear hpr hz
 refine h.goL ?_
 refine SL.sim tk 1 [(4, vb z_4)] [] [] [] (by kernel_rfl) ?_
 refine SL.nilThen ?_
 obtain rfl := some_inv' hp
 exact SC.re (js := [.g 0, .g 1, .g 2, .g 3]) tk (by kernel_rfl)

theorem ok_wirelessref39_SameItems (F : Nat) (a_1 : (List T_api_Item)) (b_2 : (List T_api_Item)) (r : Bool) (hp : wirelessref39_SameItems F a_1 b_2 = some r) : Spec Tryd.prog 27 [vs 0, vs 1] [.rd 2 R_T_api_Item a_1, .rd 2 R_T_api_Item b_2] (vb r) [.gone, .gone] := by
 refine Spec.enter Tryd.func27 rfl Tryd.ntmps27 rfl rfl fun fx => ?_
 refine SC.r tk [(0, vs 0), (1, vs 1)] [] [] [] (by kernel_rfl) ?_
 refine SC.seq ?_
 refine SC.r tk [(0, vs 0), (1, vs 1), (10, vb ((len a_1) != (len b_2)))] [] [] [] (by kernel_rfl) ?_
 refine SC.if' rfl hp (fun hp => ?_) (fun hp => ?_)
 · refine SC.r tk [(4, vb false)] [] [] [] (by kernel_rfl) ?_
   obtain rfl := some_inv' hp
   exact SC.re (js := [.g 0, .g 1]) tk (by kernel_rfl)
 refine SC.skipThen ?_
 refine SC.cut (fun a w => wirelessref39_SameItems_j1 F = some r ∧ A 43 2 fx [] [.gone, .gone] a w) ?_ ?_
 · refine SC.r tk [(0, vs 0), (1, vs 1), (5, vi .i64 0)] [] [] [] (by kernel_rfl) ?_
   refine SC.block ?_
   obtain ⟨o1, hi1, ho1⟩ := bind_inv hp
   clear hp
   refine SC.loop (fun n a w => ∃ (x_3 : Int), iter (fun s => wirelessref39_SameItems_l1 F a_1 b_2 s) n (x_3) = some o1 ∧ A 43 2 fx [(0, vs 0), (1, vs 1), (5, vi .i64 x_3)] [.rd 2 R_T_api_Item a_1, .rd 2 R_T_api_Item b_2] a w) F (fun a w h => ⟨0, hi1, h.at (js := [.g 0, .g 1]) (by kernel_rfl)⟩) ?_
   rintro n1 a w ⟨x_3, hi1, h⟩
   obtain ⟨n1, q1, rfl, hp, hs1⟩ := iter_inv hi1
   replace hp : wirelessref39_SameItems_l1 F a_1 b_2 x_3 = some q1 := hp
   clear hi1
   refine h.go ?_
   refine SC.seq ?_
   refine SC.r tk [(0, vs 0), (1, vs 1), (5, vi .i64 x_3), (14, vb (decide (x_3 < (len a_1))))] [] [] [] (by kernel_rfl) ?_
   refine SC.if' rfl hp (fun hp => ?_) (fun hp => ?_)
   · refine SC.skipThen ?_
     refine SC.seq ?_
     refine SC.block ?_
     refine SC.cut (fun a w => ∃ (z_4 : Bool), wirelessref39_SameItems_j2 F x_3 z_4 = some q1 ∧ A 43 2 fx [(0, vs 0), (1, vs 1), (5, vi .i64 x_3), (42, vb z_4)] [.rd 2 R_T_api_Item a_1, .rd 2 R_T_api_Item b_2] a w) ?_ ?_
     · obtain ⟨x_5, e_x_5, hp⟩ := bind_inv hp
       obtain ⟨x_6, e_x_6, hp⟩ := bind_inv hp
       refine SC.pre (pre_ix (i := 0) (iv := x_3) (sz := 2) (R := R_T_api_Item) (l := a_1) (by kernel_rfl) rfl e_x_5) ?_
       refine SC.pre (pre_ix (i := 1) (iv := x_3) (sz := 2) (R := R_T_api_Item) (l := b_2) (by kernel_rfl) rfl e_x_6) ?_
       refine SC.draw MO [I, I, I, I, I, I] (by kernel_rfl) fun kap_7 D_8 => ?_
       refine SD.takes tk D_8 [] kn0 [0, 1, 2, 3, 4, 5, 6, 7, 8, 9, 10, 11] [.el 2, .el 4] [x_3, x_3] (bm 26 4095) [(0, vs 0), (1, vs 1), (5, vi .i64 x_3), (28, vb (x_5.Key != x_6.Key))] rfl (by kernel_rfl) (by kernel_rfl) (by kernel_rfl) ?_
       rcases Bool.eq_false_or_eq_true ((x_5.Key != x_6.Key)) with hg_9 | hg_9
       · replace hp := if_t hp hg_9
         refine SD.takes tk D_8 [(28, true)] (knS rfl hg_9 kn0) [12, 13, 14, 15, 16, 17, 18, 19, 20, 21, 22, 23, 24, 25] [] [] (bm 26 67108863) [(0, vs 0), (1, vs 1), (5, vi .i64 x_3), (29, .u []), (30, .u []), (31, .u []), (32, .u []), (33, .u []), (34, .u []), (35, .u []), (36, .u []), (37, .u []), (38, .u []), (39, .u []), (40, .u []), (41, .u []), (42, vb true)] rfl (by kernel_rfl) (by kernel_rfl) (by kernel_rfl) ?_
         refine SD.done (by kernel_rfl) fun a w h => ?_
         exact ⟨true, hp, h.at (js := [.g 0, .g 1]) (by kernel_rfl)⟩
       replace hp := if_f hp hg_9
       refine SD.takes tk D_8 [(28, false)] (knS rfl hg_9 kn0) [12, 13, 18, 19] [] [] (bm 26 802815) [(0, vs 0), (1, vs 1), (5, vi .i64 x_3), (28, vb (x_5.Key != x_6.Key)), (29, vs 0), (30, vi .i64 x_3), (35, vs 1), (36, vi .i64 x_3)] rfl (by kernel_rfl) (by kernel_rfl) (by kernel_rfl) ?_
       obtain ⟨x_1130, e_x_1130, hp⟩ := bind_inv hp
       obtain ⟨x_1610, e_x_1610, hp⟩ := bind_inv hp
       refine SD.lay 0 (bm 26 67108863) [(0, vs 0), (1, vs 1), (5, vi .i64 x_3), (29, vs 0), (30, vi .i64 x_3), (31, vp 6 0), (32, vp 6 1), (33, vs 7), (34, vt 8), (35, vs 1), (36, vi .i64 x_3), (37, vp 9 0), (38, vp 9 1), (39, vs 10), (40, vt 11), (41, vb ((str x_1130.Value) != (str x_1610.Value))), (42, vb ((str x_1130.Value) != (str x_1610.Value)))] [.rd 2 R_T_api_Item a_1, .rd 2 R_T_api_Item b_2, .elt (some (0, x_3)) false [ci .u16 x_5.Key, .s 3], .rd 1 R8 x_5.Value, .elt (some (1, x_3)) false [ci .u16 x_6.Key, .s 5], .rd 1 R8 x_6.Value, .elt none false [ci .u16 x_1130.Key, .s 7], .rd 1 R8 x_1130.Value, .str (str x_1130.Value), .elt none false [ci .u16 x_1610.Key, .s 10], .rd 1 R8 x_1610.Value, .str (str x_1610.Value)] ?_ (fun c_9_0 => ?_)
       · refine SD.done (by kernel_rfl) fun a w h => ?_
         exact ⟨((str x_1130.Value) != (str x_1610.Value)), hp, h.at (js := [.g 0, .g 1]) (by kernel_rfl)⟩
       refine SD.lay 2 (bm 26 16777215) [(0, vs 0), (1, vs 1), (5, vi .i64 x_3), (28, vb (x_5.Key != x_6.Key)), (29, vs 0), (30, vi .i64 x_3), (31, vp 6 0), (32, vp 6 1), (33, vs 7), (34, vt 8), (35, vs 1), (36, vi .i64 x_3), (37, vp 9 0), (38, vp 9 1), (39, vs 10), (40, vt 11)] [.rd 2 R_T_api_Item a_1, .rd 2 R_T_api_Item b_2, .elt (some (0, x_3)) false [ci .u16 x_5.Key, .s 3], .rd 1 R8 x_5.Value, .elt (some (1, x_3)) false [ci .u16 x_6.Key, .s 5], .rd 1 R8 x_6.Value, .elt none false [ci .u16 x_1130.Key, .s 7], .rd 1 R8 x_1130.Value, .str (str x_1130.Value), .elt none false [ci .u16 x_1610.Key, .s 10], .rd 1 R8 x_1610.Value, .str (str x_1610.Value)] ?_ (fun c_9_1 => ?_)
       · refine SD.all1 (i := 24) (by kernel_rfl) ?_
         refine SW.eff D_8 (i := 24) (v := vb ((str x_1130.Value) != (str x_1610.Value))) (bs' := (bm 26 33554431)) rfl (.inr ⟨_, _, _, _, rfl, rfl, rfl, hg_9⟩) rfl (e_val tk (by kernel_rfl)) (by kernel_rfl) rfl (by kernel_rfl) ?_
         refine SD.takes tk D_8 [(28, false)] (knS rfl hg_9 kn0) [25] [] [] (bm 26 67108863) [(0, vs 0), (1, vs 1), (5, vi .i64 x_3), (29, vs 0), (30, vi .i64 x_3), (31, vp 6 0), (32, vp 6 1), (33, vs 7), (34, vt 8), (35, vs 1), (36, vi .i64 x_3), (37, vp 9 0), (38, vp 9 1), (39, vs 10), (40, vt 11), (41, vb ((str x_1130.Value) != (str x_1610.Value))), (42, vb ((str x_1130.Value) != (str x_1610.Value)))] rfl (by kernel_rfl) (by kernel_rfl) (by kernel_rfl) ?_
         exact SD.vie D_8 [.g 0, .g 1, .g 2, .g 3, .g 4, .g 5, .g 6, .g 7, .g 8, .g 9, .g 10, .g 11] c_9_0 (by kernel_rfl)
       refine SD.lay 3 (bm 26 8388607) [(0, vs 0), (1, vs 1), (5, vi .i64 x_3), (28, vb (x_5.Key != x_6.Key)), (29, vs 0), (30, vi .i64 x_3), (31, vp 6 0), (32, vp 6 1), (33, vs 7), (34, vt 8), (35, vs 1), (36, vi .i64 x_3), (37, vp 9 0), (38, vp 9 1), (39, vs 10)] [.rd 2 R_T_api_Item a_1, .rd 2 R_T_api_Item b_2, .elt (some (0, x_3)) false [ci .u16 x_5.Key, .s 3], .rd 1 R8 x_5.Value, .elt (some (1, x_3)) false [ci .u16 x_6.Key, .s 5], .rd 1 R8 x_6.Value, .elt none false [ci .u16 x_1130.Key, .s 7], .rd 1 R8 x_1130.Value, .str (str x_1130.Value), .elt none false [ci .u16 x_1610.Key, .s 10], .rd 1 R8 x_1610.Value] ?_ (fun c_9_2 => ?_)
       · refine SD.all1 (i := 23) (by kernel_rfl) ?_
         refine SW.eff D_8 (i := 23) (bs' := (bm 26 16777215)) rfl (.inr ⟨_, _, _, _, rfl, rfl, rfl, hg_9⟩) rfl (e_b2s (l := x_1610.Value) tk rfl (.r (by kernel_rfl)) (by kernel_rfl)) (by kernel_rfl) rfl (by kernel_rfl) ?_
         exact SD.vie D_8 [.g 0, .g 1, .g 2, .g 3, .g 4, .g 5, .g 6, .g 7, .g 8, .g 9, .g 10, .g 11] c_9_1 (by kernel_rfl)
       refine SD.lay 4 (bm 26 4194303) [(0, vs 0), (1, vs 1), (5, vi .i64 x_3), (28, vb (x_5.Key != x_6.Key)), (29, vs 0), (30, vi .i64 x_3), (31, vp 6 0), (32, vp 6 1), (33, vs 7), (34, vt 8), (35, vs 1), (36, vi .i64 x_3), (37, vp 9 0), (38, vp 9 1)] [.rd 2 R_T_api_Item a_1, .rd 2 R_T_api_Item b_2, .elt (some (0, x_3)) false [ci .u16 x_5.Key, .s 3], .rd 1 R8 x_5.Value, .elt (some (1, x_3)) false [ci .u16 x_6.Key, .s 5], .rd 1 R8 x_6.Value, .elt none false [ci .u16 x_1130.Key, .s 7], .rd 1 R8 x_1130.Value, .str (str x_1130.Value), .elt none false [ci .u16 x_1610.Key, .s 10], .rd 1 R8 x_1610.Value] ?_ (fun c_9_3 => ?_)
       · refine SD.all1 (i := 22) (by kernel_rfl) ?_
         refine SW.eff D_8 (i := 22) (v := vs 10) (bs' := (bm 26 8388607)) rfl (.inr ⟨_, _, _, _, rfl, rfl, rfl, hg_9⟩) rfl (e_val tk (by kernel_rfl)) (by kernel_rfl) rfl (by kernel_rfl) ?_
         exact SD.vie D_8 [.g 0, .g 1, .g 2, .g 3, .g 4, .g 5, .g 6, .g 7, .g 8, .g 9, .g 10] c_9_2 (by kernel_rfl)
       refine SD.lay 5 (bm 26 2097151) [(0, vs 0), (1, vs 1), (5, vi .i64 x_3), (28, vb (x_5.Key != x_6.Key)), (29, vs 0), (30, vi .i64 x_3), (31, vp 6 0), (32, vp 6 1), (33, vs 7), (34, vt 8), (35, vs 1), (36, vi .i64 x_3), (37, vp 9 0)] [.rd 2 R_T_api_Item a_1, .rd 2 R_T_api_Item b_2, .elt (some (0, x_3)) false [ci .u16 x_5.Key, .s 3], .rd 1 R8 x_5.Value, .elt (some (1, x_3)) false [ci .u16 x_6.Key, .s 5], .rd 1 R8 x_6.Value, .elt none false [ci .u16 x_1130.Key, .s 7], .rd 1 R8 x_1130.Value, .str (str x_1130.Value), .elt none false [ci .u16 x_1610.Key, .s 10], .rd 1 R8 x_1610.Value] ?_ (fun c_9_4 => ?_)
       · refine SD.all1 (i := 21) (by kernel_rfl) ?_
         refine SW.eff D_8 (i := 21) (v := vp 9 1) (bs' := (bm 26 4194303)) rfl (.inr ⟨_, _, _, _, rfl, rfl, rfl, hg_9⟩) rfl (e_val tk (by kernel_rfl)) (by kernel_rfl) rfl (by kernel_rfl) ?_
         exact SD.vie D_8 [.g 0, .g 1, .g 2, .g 3, .g 4, .g 5, .g 6, .g 7, .g 8, .g 9, .g 10] c_9_3 (by kernel_rfl)
       refine SD.lay 6 (bm 26 1048575) [(0, vs 0), (1, vs 1), (5, vi .i64 x_3), (28, vb (x_5.Key != x_6.Key)), (29, vs 0), (30, vi .i64 x_3), (31, vp 6 0), (32, vp 6 1), (33, vs 7), (34, vt 8), (35, vs 1), (36, vi .i64 x_3)] [.rd 2 R_T_api_Item a_1, .rd 2 R_T_api_Item b_2, .elt (some (0, x_3)) false [ci .u16 x_5.Key, .s 3], .rd 1 R8 x_5.Value, .elt (some (1, x_3)) false [ci .u16 x_6.Key, .s 5], .rd 1 R8 x_6.Value, .elt none false [ci .u16 x_1130.Key, .s 7], .rd 1 R8 x_1130.Value, .str (str x_1130.Value)] ?_ (fun c_9_5 => ?_)
       · refine SD.pre (pre_ix (i := 1) (iv := x_3) (sz := 2) (R := R_T_api_Item) (l := b_2) (by kernel_rfl) rfl e_x_1610) ?_
         refine SD.all1 (i := 20) (by kernel_rfl) ?_
         refine SW.eff D_8 (i := 20) (v := vp 9 0) (bs' := (bm 26 2097151)) rfl (.inr ⟨_, _, _, _, rfl, rfl, rfl, hg_9⟩) rfl (e_valE tk (.el 9) [x_3] (by kernel_rfl)) (by kernel_rfl) rfl (by kernel_rfl) ?_
         exact SD.vie D_8 [.g 0, .g 1, .g 2, .g 3, .g 4, .g 5, .g 6, .g 7, .g 8, .g 9, .g 10] c_9_4 (by kernel_rfl)
       refine SD.lay 3 (bm 26 16646143) [(0, vs 0), (1, vs 1), (5, vi .i64 x_3), (28, vb (x_5.Key != x_6.Key)), (29, vs 0), (30, vi .i64 x_3), (31, vp 6 0), (32, vp 6 1), (33, vs 7), (35, vs 1), (36, vi .i64 x_3), (37, vp 8 0), (38, vp 8 1), (39, vs 9), (40, vt 10)] [.rd 2 R_T_api_Item a_1, .rd 2 R_T_api_Item b_2, .elt (some (0, x_3)) false [ci .u16 x_5.Key, .s 3], .rd 1 R8 x_5.Value, .elt (some (1, x_3)) false [ci .u16 x_6.Key, .s 5], .rd 1 R8 x_6.Value, .elt none false [ci .u16 x_1130.Key, .s 7], .rd 1 R8 x_1130.Value, .elt none false [ci .u16 x_1610.Key, .s 9], .rd 1 R8 x_1610.Value, .str (str x_1610.Value)] ?_ (fun c_9_6 => ?_)
       · refine SD.all1 (i := 17) (by kernel_rfl) ?_
         refine SW.eff D_8 (i := 17) (bs' := (bm 26 16777215)) rfl (.inr ⟨_, _, _, _, rfl, rfl, rfl, hg_9⟩) rfl (e_b2s (l := x_1130.Value) tk rfl (.r (by kernel_rfl)) (by kernel_rfl)) (by kernel_rfl) rfl (by kernel_rfl) ?_
         exact SD.vie D_8 [.g 0, .g 1, .g 2, .g 3, .g 4, .g 5, .g 6, .g 7, .g 11, .g 8, .g 9, .g 10] c_9_1 (by kernel_rfl)
       refine SD.lay 4 (bm 26 8257535) [(0, vs 0), (1, vs 1), (5, vi .i64 x_3), (28, vb (x_5.Key != x_6.Key)), (29, vs 0), (30, vi .i64 x_3), (31, vp 6 0), (32, vp 6 1), (33, vs 7), (35, vs 1), (36, vi .i64 x_3), (37, vp 8 0), (38, vp 8 1), (39, vs 9)] [.rd 2 R_T_api_Item a_1, .rd 2 R_T_api_Item b_2, .elt (some (0, x_3)) false [ci .u16 x_5.Key, .s 3], .rd 1 R8 x_5.Value, .elt (some (1, x_3)) false [ci .u16 x_6.Key, .s 5], .rd 1 R8 x_6.Value, .elt none false [ci .u16 x_1130.Key, .s 7], .rd 1 R8 x_1130.Value, .elt none false [ci .u16 x_1610.Key, .s 9], .rd 1 R8 x_1610.Value] ?_ (fun c_9_7 => ?_)
       · refine SD.all2 (i := 17) (j := 23) (by kernel_rfl) ?_ ?_
         · refine SW.eff D_8 (i := 17) (bs' := (bm 26 8388607)) rfl (.inr ⟨_, _, _, _, rfl, rfl, rfl, hg_9⟩) rfl (e_b2s (l := x_1130.Value) tk rfl (.r (by kernel_rfl)) (by kernel_rfl)) (by kernel_rfl) rfl (by kernel_rfl) ?_
           exact SD.vie D_8 [.g 0, .g 1, .g 2, .g 3, .g 4, .g 5, .g 6, .g 7, .g 10, .g 8, .g 9] c_9_2 (by kernel_rfl)
         refine SW.eff D_8 (i := 23) (bs' := (bm 26 16646143)) rfl (.inr ⟨_, _, _, _, rfl, rfl, rfl, hg_9⟩) rfl (e_b2s (l := x_1610.Value) tk rfl (.r (by kernel_rfl)) (by kernel_rfl)) (by kernel_rfl) rfl (by kernel_rfl) ?_
         exact SD.vie D_8 [.g 0, .g 1, .g 2, .g 3, .g 4, .g 5, .g 6, .g 7, .g 8, .g 9, .g 10] c_9_6 (by kernel_rfl)
       refine SD.lay 5 (bm 26 4063231) [(0, vs 0), (1, vs 1), (5, vi .i64 x_3), (28, vb (x_5.Key != x_6.Key)), (29, vs 0), (30, vi .i64 x_3), (31, vp 6 0), (32, vp 6 1), (33, vs 7), (35, vs 1), (36, vi .i64 x_3), (37, vp 8 0), (38, vp 8 1)] [.rd 2 R_T_api_Item a_1, .rd 2 R_T_api_Item b_2, .elt (some (0, x_3)) false [ci .u16 x_5.Key, .s 3], .rd 1 R8 x_5.Value, .elt (some (1, x_3)) false [ci .u16 x_6.Key, .s 5], .rd 1 R8 x_6.Value, .elt none false [ci .u16 x_1130.Key, .s 7], .rd 1 R8 x_1130.Value, .elt none false [ci .u16 x_1610.Key, .s 9], .rd 1 R8 x_1610.Value] ?_ (fun c_9_8 => ?_)
       · refine SD.all2 (i := 17) (j := 22) (by kernel_rfl) ?_ ?_
         · refine SW.eff D_8 (i := 17) (bs' := (bm 26 4194303)) rfl (.inr ⟨_, _, _, _, rfl, rfl, rfl, hg_9⟩) rfl (e_b2s (l := x_1130.Value) tk rfl (.r (by kernel_rfl)) (by kernel_rfl)) (by kernel_rfl) rfl (by kernel_rfl) ?_
           exact SD.vie D_8 [.g 0, .g 1, .g 2, .g 3, .g 4, .g 5, .g 6, .g 7, .g 10, .g 8, .g 9] c_9_3 (by kernel_rfl)
         refine SW.eff D_8 (i := 22) (v := vs 9) (bs' := (bm 26 8257535)) rfl (.inr ⟨_, _, _, _, rfl, rfl, rfl, hg_9⟩) rfl (e_val tk (by kernel_rfl)) (by kernel_rfl) rfl (by kernel_rfl) ?_
         exact SD.vie D_8 [.g 0, .g 1, .g 2, .g 3, .g 4, .g 5, .g 6, .g 7, .g 8, .g 9] c_9_7 (by kernel_rfl)
       refine SD.lay 6 (bm 26 1966079) [(0, vs 0), (1, vs 1), (5, vi .i64 x_3), (28, vb (x_5.Key != x_6.Key)), (29, vs 0), (30, vi .i64 x_3), (31, vp 6 0), (32, vp 6 1), (33, vs 7), (35, vs 1), (36, vi .i64 x_3), (37, vp 8 0)] [.rd 2 R_T_api_Item a_1, .rd 2 R_T_api_Item b_2, .elt (some (0, x_3)) false [ci .u16 x_5.Key, .s 3], .rd 1 R8 x_5.Value, .elt (some (1, x_3)) false [ci .u16 x_6.Key, .s 5], .rd 1 R8 x_6.Value, .elt none false [ci .u16 x_1130.Key, .s 7], .rd 1 R8 x_1130.Value, .elt none false [ci .u16 x_1610.Key, .s 9], .rd 1 R8 x_1610.Value] ?_ (fun c_9_9 => ?_)
       · refine SD.all2 (i := 17) (j := 21) (by kernel_rfl) ?_ ?_
         · refine SW.eff D_8 (i := 17) (bs' := (bm 26 2097151)) rfl (.inr ⟨_, _, _, _, rfl, rfl, rfl, hg_9⟩) rfl (e_b2s (l := x_1130.Value) tk rfl (.r (by kernel_rfl)) (by kernel_rfl)) (by kernel_rfl) rfl (by kernel_rfl) ?_
           exact SD.vie D_8 [.g 0, .g 1, .g 2, .g 3, .g 4, .g 5, .g 6, .g 7, .g 10, .g 8, .g 9] c_9_4 (by kernel_rfl)
         refine SW.eff D_8 (i := 21) (v := vp 8 1) (bs' := (bm 26 4063231)) rfl (.inr ⟨_, _, _, _, rfl, rfl, rfl, hg_9⟩) rfl (e_val tk (by kernel_rfl)) (by kernel_rfl) rfl (by kernel_rfl) ?_
         exact SD.vie D_8 [.g 0, .g 1, .g 2, .g 3, .g 4, .g 5, .g 6, .g 7, .g 8, .g 9] c_9_8 (by kernel_rfl)
       refine SD.lay 7 (bm 26 917503) [(0, vs 0), (1, vs 1), (5, vi .i64 x_3), (28, vb (x_5.Key != x_6.Key)), (29, vs 0), (30, vi .i64 x_3), (31, vp 6 0), (32, vp 6 1), (33, vs 7), (35, vs 1), (36, vi .i64 x_3)] [.rd 2 R_T_api_Item a_1, .rd 2 R_T_api_Item b_2, .elt (some (0, x_3)) false [ci .u16 x_5.Key, .s 3], .rd 1 R8 x_5.Value, .elt (some (1, x_3)) false [ci .u16 x_6.Key, .s 5], .rd 1 R8 x_6.Value, .elt none false [ci .u16 x_1130.Key, .s 7], .rd 1 R8 x_1130.Value] ?_ (fun c_9_10 => ?_)
       · refine SD.all2 (i := 17) (j := 20) (by kernel_rfl) ?_ ?_
         · refine SW.eff D_8 (i := 17) (bs' := (bm 26 1048575)) rfl (.inr ⟨_, _, _, _, rfl, rfl, rfl, hg_9⟩) rfl (e_b2s (l := x_1130.Value) tk rfl (.r (by kernel_rfl)) (by kernel_rfl)) (by kernel_rfl) rfl (by kernel_rfl) ?_
           exact SD.vie D_8 [.g 0, .g 1, .g 2, .g 3, .g 4, .g 5, .g 6, .g 7, .g 8] c_9_5 (by kernel_rfl)
         refine SW.pre (pre_ix (i := 1) (iv := x_3) (sz := 2) (R := R_T_api_Item) (l := b_2) (by kernel_rfl) rfl e_x_1610) ?_
         refine SW.eff D_8 (i := 20) (v := vp 8 0) (bs' := (bm 26 1966079)) rfl (.inr ⟨_, _, _, _, rfl, rfl, rfl, hg_9⟩) rfl (e_valE tk (.el 8) [x_3] (by kernel_rfl)) (by kernel_rfl) rfl (by kernel_rfl) ?_
         exact SD.vie D_8 [.g 0, .g 1, .g 2, .g 3, .g 4, .g 5, .g 6, .g 7, .g 8, .g 9] c_9_9 (by kernel_rfl)
       refine SD.lay 4 (bm 26 16580607) [(0, vs 0), (1, vs 1), (5, vi .i64 x_3), (28, vb (x_5.Key != x_6.Key)), (29, vs 0), (30, vi .i64 x_3), (31, vp 6 0), (32, vp 6 1), (35, vs 1), (36, vi .i64 x_3), (37, vp 8 0), (38, vp 8 1), (39, vs 9), (40, vt 10)] [.rd 2 R_T_api_Item a_1, .rd 2 R_T_api_Item b_2, .elt (some (0, x_3)) false [ci .u16 x_5.Key, .s 3], .rd 1 R8 x_5.Value, .elt (some (1, x_3)) false [ci .u16 x_6.Key, .s 5], .rd 1 R8 x_6.Value, .elt none false [ci .u16 x_1130.Key, .s 7], .rd 1 R8 x_1130.Value, .elt none false [ci .u16 x_1610.Key, .s 9], .rd 1 R8 x_1610.Value, .str (str x_1610.Value)] ?_ (fun c_9_11 => ?_)
       · refine SD.all1 (i := 16) (by kernel_rfl) ?_
         refine SW.eff D_8 (i := 16) (v := vs 7) (bs' := (bm 26 16646143)) rfl (.inr ⟨_, _, _, _, rfl, rfl, rfl, hg_9⟩) rfl (e_val tk (by kernel_rfl)) (by kernel_rfl) rfl (by kernel_rfl) ?_
         exact SD.vie D_8 [.g 0, .g 1, .g 2, .g 3, .g 4, .g 5, .g 6, .g 7, .g 8, .g 9, .g 10] c_9_6 (by kernel_rfl)
       refine SD.lay 5 (bm 26 8191999) [(0, vs 0), (1, vs 1), (5, vi .i64 x_3), (28, vb (x_5.Key != x_6.Key)), (29, vs 0), (30, vi .i64 x_3), (31, vp 6 0), (32, vp 6 1), (35, vs 1), (36, vi .i64 x_3), (37, vp 8 0), (38, vp 8 1), (39, vs 9)] [.rd 2 R_T_api_Item a_1, .rd 2 R_T_api_Item b_2, .elt (some (0, x_3)) false [ci .u16 x_5.Key, .s 3], .rd 1 R8 x_5.Value, .elt (some (1, x_3)) false [ci .u16 x_6.Key, .s 5], .rd 1 R8 x_6.Value, .elt none false [ci .u16 x_1130.Key, .s 7], .rd 1 R8 x_1130.Value, .elt none false [ci .u16 x_1610.Key, .s 9], .rd 1 R8 x_1610.Value] ?_ (fun c_9_12 => ?_)
       · refine SD.all2 (i := 16) (j := 23) (by kernel_rfl) ?_ ?_
         · refine SW.eff D_8 (i := 16) (v := vs 7) (bs' := (bm 26 8257535)) rfl (.inr ⟨_, _, _, _, rfl, rfl, rfl, hg_9⟩) rfl (e_val tk (by kernel_rfl)) (by kernel_rfl) rfl (by kernel_rfl) ?_
           exact SD.vie D_8 [.g 0, .g 1, .g 2, .g 3, .g 4, .g 5, .g 6, .g 7, .g 8, .g 9] c_9_7 (by kernel_rfl)
         refine SW.eff D_8 (i := 23) (bs' := (bm 26 16580607)) rfl (.inr ⟨_, _, _, _, rfl, rfl, rfl, hg_9⟩) rfl (e_b2s (l := x_1610.Value) tk rfl (.r (by kernel_rfl)) (by kernel_rfl)) (by kernel_rfl) rfl (by kernel_rfl) ?_
         exact SD.vie D_8 [.g 0, .g 1, .g 2, .g 3, .g 4, .g 5, .g 6, .g 7, .g 8, .g 9, .g 10] c_9_11 (by kernel_rfl)
       refine SD.lay 6 (bm 26 3997695) [(0, vs 0), (1, vs 1), (5, vi .i64 x_3), (28, vb (x_5.Key != x_6.Key)), (29, vs 0), (30, vi .i64 x_3), (31, vp 6 0), (32, vp 6 1), (35, vs 1), (36, vi .i64 x_3), (37, vp 8 0), (38, vp 8 1)] [.rd 2 R_T_api_Item a_1, .rd 2 R_T_api_Item b_2, .elt (some (0, x_3)) false [ci .u16 x_5.Key, .s 3], .rd 1 R8 x_5.Value, .elt (some (1, x_3)) false [ci .u16 x_6.Key, .s 5], .rd 1 R8 x_6.Value, .elt none false [ci .u16 x_1130.Key, .s 7], .rd 1 R8 x_1130.Value, .elt none false [ci .u16 x_1610.Key, .s 9], .rd 1 R8 x_1610.Value] ?_ (fun c_9_13 => ?_)
       · refine SD.all2 (i := 16) (j := 22) (by kernel_rfl) ?_ ?_
         · refine SW.eff D_8 (i := 16) (v := vs 7) (bs' := (bm 26 4063231)) rfl (.inr ⟨_, _, _, _, rfl, rfl, rfl, hg_9⟩) rfl (e_val tk (by kernel_rfl)) (by kernel_rfl) rfl (by kernel_rfl) ?_
           exact SD.vie D_8 [.g 0, .g 1, .g 2, .g 3, .g 4, .g 5, .g 6, .g 7, .g 8, .g 9] c_9_8 (by kernel_rfl)
         refine SW.eff D_8 (i := 22) (v := vs 9) (bs' := (bm 26 8191999)) rfl (.inr ⟨_, _, _, _, rfl, rfl, rfl, hg_9⟩) rfl (e_val tk (by kernel_rfl)) (by kernel_rfl) rfl (by kernel_rfl) ?_
         exact SD.vie D_8 [.g 0, .g 1, .g 2, .g 3, .g 4, .g 5, .g 6, .g 7, .g 8, .g 9] c_9_12 (by kernel_rfl)
       refine SD.lay 7 (bm 26 1900543) [(0, vs 0), (1, vs 1), (5, vi .i64 x_3), (28, vb (x_5.Key != x_6.Key)), (29, vs 0), (30, vi .i64 x_3), (31, vp 6 0), (32, vp 6 1), (35, vs 1), (36, vi .i64 x_3), (37, vp 8 0)] [.rd 2 R_T_api_Item a_1, .rd 2 R_T_api_Item b_2, .elt (some (0, x_3)) false [ci .u16 x_5.Key, .s 3], .rd 1 R8 x_5.Value, .elt (some (1, x_3)) false [ci .u16 x_6.Key, .s 5], .rd 1 R8 x_6.Value, .elt none false [ci .u16 x_1130.Key, .s 7], .rd 1 R8 x_1130.Value, .elt none false [ci .u16 x_1610.Key, .s 9], .rd 1 R8 x_1610.Value] ?_ (fun c_9_14 => ?_)
       · refine SD.all2 (i := 16) (j := 21) (by kernel_rfl) ?_ ?_
         · refine SW.eff D_8 (i := 16) (v := vs 7) (bs' := (bm 26 1966079)) rfl (.inr ⟨_, _, _, _, rfl, rfl, rfl, hg_9⟩) rfl (e_val tk (by kernel_rfl)) (by kernel_rfl) rfl (by kernel_rfl) ?_
           exact SD.vie D_8 [.g 0, .g 1, .g 2, .g 3, .g 4, .g 5, .g 6, .g 7, .g 8, .g 9] c_9_9 (by kernel_rfl)
         refine SW.eff D_8 (i := 21) (v := vp 8 1) (bs' := (bm 26 3997695)) rfl (.inr ⟨_, _, _, _, rfl, rfl, rfl, hg_9⟩) rfl (e_val tk (by kernel_rfl)) (by kernel_rfl) rfl (by kernel_rfl) ?_
         exact SD.vie D_8 [.g 0, .g 1, .g 2, .g 3, .g 4, .g 5, .g 6, .g 7, .g 8, .g 9] c_9_13 (by kernel_rfl)
       refine SD.lay 8 (bm 26 851967) [(0, vs 0), (1, vs 1), (5, vi .i64 x_3), (28, vb (x_5.Key != x_6.Key)), (29, vs 0), (30, vi .i64 x_3), (31, vp 6 0), (32, vp 6 1), (35, vs 1), (36, vi .i64 x_3)] [.rd 2 R_T_api_Item a_1, .rd 2 R_T_api_Item b_2, .elt (some (0, x_3)) false [ci .u16 x_5.Key, .s 3], .rd 1 R8 x_5.Value, .elt (some (1, x_3)) false [ci .u16 x_6.Key, .s 5], .rd 1 R8 x_6.Value, .elt none false [ci .u16 x_1130.Key, .s 7], .rd 1 R8 x_1130.Value] ?_ (fun c_9_15 => ?_)
       · refine SD.all2 (i := 16) (j := 20) (by kernel_rfl) ?_ ?_
         · refine SW.eff D_8 (i := 16) (v := vs 7) (bs' := (bm 26 917503)) rfl (.inr ⟨_, _, _, _, rfl, rfl, rfl, hg_9⟩) rfl (e_val tk (by kernel_rfl)) (by kernel_rfl) rfl (by kernel_rfl) ?_
           exact SD.vie D_8 [.g 0, .g 1, .g 2, .g 3, .g 4, .g 5, .g 6, .g 7] c_9_10 (by kernel_rfl)
         refine SW.pre (pre_ix (i := 1) (iv := x_3) (sz := 2) (R := R_T_api_Item) (l := b_2) (by kernel_rfl) rfl e_x_1610) ?_
         refine SW.eff D_8 (i := 20) (v := vp 8 0) (bs' := (bm 26 1900543)) rfl (.inr ⟨_, _, _, _, rfl, rfl, rfl, hg_9⟩) rfl (e_valE tk (.el 8) [x_3] (by kernel_rfl)) (by kernel_rfl) rfl (by kernel_rfl) ?_
         exact SD.vie D_8 [.g 0, .g 1, .g 2, .g 3, .g 4, .g 5, .g 6, .g 7, .g 8, .g 9] c_9_14 (by kernel_rfl)
       refine SD.lay 5 (bm 26 16547839) [(0, vs 0), (1, vs 1), (5, vi .i64 x_3), (28, vb (x_5.Key != x_6.Key)), (29, vs 0), (30, vi .i64 x_3), (31, vp 6 0), (35, vs 1), (36, vi .i64 x_3), (37, vp 8 0), (38, vp 8 1), (39, vs 9), (40, vt 10)] [.rd 2 R_T_api_Item a_1, .rd 2 R_T_api_Item b_2, .elt (some (0, x_3)) false [ci .u16 x_5.Key, .s 3], .rd 1 R8 x_5.Value, .elt (some (1, x_3)) false [ci .u16 x_6.Key, .s 5], .rd 1 R8 x_6.Value, .elt none false [ci .u16 x_1130.Key, .s 7], .rd 1 R8 x_1130.Value, .elt none false [ci .u16 x_1610.Key, .s 9], .rd 1 R8 x_1610.Value, .str (str x_1610.Value)] ?_ (fun c_9_16 => ?_)
       · refine SD.all1 (i := 15) (by kernel_rfl) ?_
         refine SW.eff D_8 (i := 15) (v := vp 6 1) (bs' := (bm 26 16580607)) rfl (.inr ⟨_, _, _, _, rfl, rfl, rfl, hg_9⟩) rfl (e_val tk (by kernel_rfl)) (by kernel_rfl) rfl (by kernel_rfl) ?_
         exact SD.vie D_8 [.g 0, .g 1, .g 2, .g 3, .g 4, .g 5, .g 6, .g 7, .g 8, .g 9, .g 10] c_9_11 (by kernel_rfl)
       refine SD.lay 6 (bm 26 8159231) [(0, vs 0), (1, vs 1), (5, vi .i64 x_3), (28, vb (x_5.Key != x_6.Key)), (29, vs 0), (30, vi .i64 x_3), (31, vp 6 0), (35, vs 1), (36, vi .i64 x_3), (37, vp 8 0), (38, vp 8 1), (39, vs 9)] [.rd 2 R_T_api_Item a_1, .rd 2 R_T_api_Item b_2, .elt (some (0, x_3)) false [ci .u16 x_5.Key, .s 3], .rd 1 R8 x_5.Value, .elt (some (1, x_3)) false [ci .u16 x_6.Key, .s 5], .rd 1 R8 x_6.Value, .elt none false [ci .u16 x_1130.Key, .s 7], .rd 1 R8 x_1130.Value, .elt none false [ci .u16 x_1610.Key, .s 9], .rd 1 R8 x_1610.Value] ?_ (fun c_9_17 => ?_)
       · refine SD.all2 (i := 15) (j := 23) (by kernel_rfl) ?_ ?_
         · refine SW.eff D_8 (i := 15) (v := vp 6 1) (bs' := (bm 26 8191999)) rfl (.inr ⟨_, _, _, _, rfl, rfl, rfl, hg_9⟩) rfl (e_val tk (by kernel_rfl)) (by kernel_rfl) rfl (by kernel_rfl) ?_
           exact SD.vie D_8 [.g 0, .g 1, .g 2, .g 3, .g 4, .g 5, .g 6, .g 7, .g 8, .g 9] c_9_12 (by kernel_rfl)
         refine SW.eff D_8 (i := 23) (bs' := (bm 26 16547839)) rfl (.inr ⟨_, _, _, _, rfl, rfl, rfl, hg_9⟩) rfl (e_b2s (l := x_1610.Value) tk rfl (.r (by kernel_rfl)) (by kernel_rfl)) (by kernel_rfl) rfl (by kernel_rfl) ?_
         exact SD.vie D_8 [.g 0, .g 1, .g 2, .g 3, .g 4, .g 5, .g 6, .g 7, .g 8, .g 9, .g 10] c_9_16 (by kernel_rfl)
       refine SD.lay 7 (bm 26 3964927) [(0, vs 0), (1, vs 1), (5, vi .i64 x_3), (28, vb (x_5.Key != x_6.Key)), (29, vs 0), (30, vi .i64 x_3), (31, vp 6 0), (35, vs 1), (36, vi .i64 x_3), (37, vp 8 0), (38, vp 8 1)] [.rd 2 R_T_api_Item a_1, .rd 2 R_T_api_Item b_2, .elt (some (0, x_3)) false [ci .u16 x_5.Key, .s 3], .rd 1 R8 x_5.Value, .elt (some (1, x_3)) false [ci .u16 x_6.Key, .s 5], .rd 1 R8 x_6.Value, .elt none false [ci .u16 x_1130.Key, .s 7], .rd 1 R8 x_1130.Value, .elt none false [ci .u16 x_1610.Key, .s 9], .rd 1 R8 x_1610.Value] ?_ (fun c_9_18 => ?_)
       · refine SD.all2 (i := 15) (j := 22) (by kernel_rfl) ?_ ?_
         · refine SW.eff D_8 (i := 15) (v := vp 6 1) (bs' := (bm 26 3997695)) rfl (.inr ⟨_, _, _, _, rfl, rfl, rfl, hg_9⟩) rfl (e_val tk (by kernel_rfl)) (by kernel_rfl) rfl (by kernel_rfl) ?_
           exact SD.vie D_8 [.g 0, .g 1, .g 2, .g 3, .g 4, .g 5, .g 6, .g 7, .g 8, .g 9] c_9_13 (by kernel_rfl)
         refine SW.eff D_8 (i := 22) (v := vs 9) (bs' := (bm 26 8159231)) rfl (.inr ⟨_, _, _, _, rfl, rfl, rfl, hg_9⟩) rfl (e_val tk (by kernel_rfl)) (by kernel_rfl) rfl (by kernel_rfl) ?_
         exact SD.vie D_8 [.g 0, .g 1, .g 2, .g 3, .g 4, .g 5, .g 6, .g 7, .g 8, .g 9] c_9_17 (by kernel_rfl)
       refine SD.lay 8 (bm 26 1867775) [(0, vs 0), (1, vs 1), (5, vi .i64 x_3), (28, vb (x_5.Key != x_6.Key)), (29, vs 0), (30, vi .i64 x_3), (31, vp 6 0), (35, vs 1), (36, vi .i64 x_3), (37, vp 8 0)] [.rd 2 R_T_api_Item a_1, .rd 2 R_T_api_Item b_2, .elt (some (0, x_3)) false [ci .u16 x_5.Key, .s 3], .rd 1 R8 x_5.Value, .elt (some (1, x_3)) false [ci .u16 x_6.Key, .s 5], .rd 1 R8 x_6.Value, .elt none false [ci .u16 x_1130.Key, .s 7], .rd 1 R8 x_1130.Value, .elt none false [ci .u16 x_1610.Key, .s 9], .rd 1 R8 x_1610.Value] ?_ (fun c_9_19 => ?_)
       · refine SD.all2 (i := 15) (j := 21) (by kernel_rfl) ?_ ?_
         · refine SW.eff D_8 (i := 15) (v := vp 6 1) (bs' := (bm 26 1900543)) rfl (.inr ⟨_, _, _, _, rfl, rfl, rfl, hg_9⟩) rfl (e_val tk (by kernel_rfl)) (by kernel_rfl) rfl (by kernel_rfl) ?_
           exact SD.vie D_8 [.g 0, .g 1, .g 2, .g 3, .g 4, .g 5, .g 6, .g 7, .g 8, .g 9] c_9_14 (by kernel_rfl)
         refine SW.eff D_8 (i := 21) (v := vp 8 1) (bs' := (bm 26 3964927)) rfl (.inr ⟨_, _, _, _, rfl, rfl, rfl, hg_9⟩) rfl (e_val tk (by kernel_rfl)) (by kernel_rfl) rfl (by kernel_rfl) ?_
         exact SD.vie D_8 [.g 0, .g 1, .g 2, .g 3, .g 4, .g 5, .g 6, .g 7, .g 8, .g 9] c_9_18 (by kernel_rfl)
       refine SD.lay 9 (bm 26 819199) [(0, vs 0), (1, vs 1), (5, vi .i64 x_3), (28, vb (x_5.Key != x_6.Key)), (29, vs 0), (30, vi .i64 x_3), (31, vp 6 0), (35, vs 1), (36, vi .i64 x_3)] [.rd 2 R_T_api_Item a_1, .rd 2 R_T_api_Item b_2, .elt (some (0, x_3)) false [ci .u16 x_5.Key, .s 3], .rd 1 R8 x_5.Value, .elt (some (1, x_3)) false [ci .u16 x_6.Key, .s 5], .rd 1 R8 x_6.Value, .elt none false [ci .u16 x_1130.Key, .s 7], .rd 1 R8 x_1130.Value] ?_ (fun c_9_20 => ?_)
       · refine SD.all2 (i := 15) (j := 20) (by kernel_rfl) ?_ ?_
         · refine SW.eff D_8 (i := 15) (v := vp 6 1) (bs' := (bm 26 851967)) rfl (.inr ⟨_, _, _, _, rfl, rfl, rfl, hg_9⟩) rfl (e_val tk (by kernel_rfl)) (by kernel_rfl) rfl (by kernel_rfl) ?_
           exact SD.vie D_8 [.g 0, .g 1, .g 2, .g 3, .g 4, .g 5, .g 6, .g 7] c_9_15 (by kernel_rfl)
         refine SW.pre (pre_ix (i := 1) (iv := x_3) (sz := 2) (R := R_T_api_Item) (l := b_2) (by kernel_rfl) rfl e_x_1610) ?_
         refine SW.eff D_8 (i := 20) (v := vp 8 0) (bs' := (bm 26 1867775)) rfl (.inr ⟨_, _, _, _, rfl, rfl, rfl, hg_9⟩) rfl (e_valE tk (.el 8) [x_3] (by kernel_rfl)) (by kernel_rfl) rfl (by kernel_rfl) ?_
         exact SD.vie D_8 [.g 0, .g 1, .g 2, .g 3, .g 4, .g 5, .g 6, .g 7, .g 8, .g 9] c_9_19 (by kernel_rfl)
       refine SD.lay 6 (bm 26 16531455) [(0, vs 0), (1, vs 1), (5, vi .i64 x_3), (28, vb (x_5.Key != x_6.Key)), (29, vs 0), (30, vi .i64 x_3), (35, vs 1), (36, vi .i64 x_3), (37, vp 6 0), (38, vp 6 1), (39, vs 7), (40, vt 8)] [.rd 2 R_T_api_Item a_1, .rd 2 R_T_api_Item b_2, .elt (some (0, x_3)) false [ci .u16 x_5.Key, .s 3], .rd 1 R8 x_5.Value, .elt (some (1, x_3)) false [ci .u16 x_6.Key, .s 5], .rd 1 R8 x_6.Value, .elt none false [ci .u16 x_1610.Key, .s 7], .rd 1 R8 x_1610.Value, .str (str x_1610.Value)] ?_ (fun c_9_21 => ?_)
       · refine SD.pre (pre_ix (i := 0) (iv := x_3) (sz := 2) (R := R_T_api_Item) (l := a_1) (by kernel_rfl) rfl e_x_1130) ?_
         refine SD.all1 (i := 14) (by kernel_rfl) ?_
         refine SW.eff D_8 (i := 14) (v := vp 9 0) (bs' := (bm 26 16547839)) rfl (.inr ⟨_, _, _, _, rfl, rfl, rfl, hg_9⟩) rfl (e_valE tk (.el 9) [x_3] (by kernel_rfl)) (by kernel_rfl) rfl (by kernel_rfl) ?_
         exact SD.vie D_8 [.g 0, .g 1, .g 2, .g 3, .g 4, .g 5, .g 9, .g 10, .g 6, .g 7, .g 8] c_9_16 (by kernel_rfl)
       refine SD.lay 7 (bm 26 8142847) [(0, vs 0), (1, vs 1), (5, vi .i64 x_3), (28, vb (x_5.Key != x_6.Key)), (29, vs 0), (30, vi .i64 x_3), (35, vs 1), (36, vi .i64 x_3), (37, vp 6 0), (38, vp 6 1), (39, vs 7)] [.rd 2 R_T_api_Item a_1, .rd 2 R_T_api_Item b_2, .elt (some (0, x_3)) false [ci .u16 x_5.Key, .s 3], .rd 1 R8 x_5.Value, .elt (some (1, x_3)) false [ci .u16 x_6.Key, .s 5], .rd 1 R8 x_6.Value, .elt none false [ci .u16 x_1610.Key, .s 7], .rd 1 R8 x_1610.Value] ?_ (fun c_9_22 => ?_)
       · refine SD.all2 (i := 14) (j := 23) (by kernel_rfl) ?_ ?_
         · refine SW.pre (pre_ix (i := 0) (iv := x_3) (sz := 2) (R := R_T_api_Item) (l := a_1) (by kernel_rfl) rfl e_x_1130) ?_
           refine SW.eff D_8 (i := 14) (v := vp 8 0) (bs' := (bm 26 8159231)) rfl (.inr ⟨_, _, _, _, rfl, rfl, rfl, hg_9⟩) rfl (e_valE tk (.el 8) [x_3] (by kernel_rfl)) (by kernel_rfl) rfl (by kernel_rfl) ?_
           exact SD.vie D_8 [.g 0, .g 1, .g 2, .g 3, .g 4, .g 5, .g 8, .g 9, .g 6, .g 7] c_9_17 (by kernel_rfl)
         refine SW.eff D_8 (i := 23) (bs' := (bm 26 16531455)) rfl (.inr ⟨_, _, _, _, rfl, rfl, rfl, hg_9⟩) rfl (e_b2s (l := x_1610.Value) tk rfl (.r (by kernel_rfl)) (by kernel_rfl)) (by kernel_rfl) rfl (by kernel_rfl) ?_
         exact SD.vie D_8 [.g 0, .g 1, .g 2, .g 3, .g 4, .g 5, .g 6, .g 7, .g 8] c_9_21 (by kernel_rfl)
       refine SD.lay 8 (bm 26 3948543) [(0, vs 0), (1, vs 1), (5, vi .i64 x_3), (28, vb (x_5.Key != x_6.Key)), (29, vs 0), (30, vi .i64 x_3), (35, vs 1), (36, vi .i64 x_3), (37, vp 6 0), (38, vp 6 1)] [.rd 2 R_T_api_Item a_1, .rd 2 R_T_api_Item b_2, .elt (some (0, x_3)) false [ci .u16 x_5.Key, .s 3], .rd 1 R8 x_5.Value, .elt (some (1, x_3)) false [ci .u16 x_6.Key, .s 5], .rd 1 R8 x_6.Value, .elt none false [ci .u16 x_1610.Key, .s 7], .rd 1 R8 x_1610.Value] ?_ (fun c_9_23 => ?_)
       · refine SD.all2 (i := 14) (j := 22) (by kernel_rfl) ?_ ?_
         · refine SW.pre (pre_ix (i := 0) (iv := x_3) (sz := 2) (R := R_T_api_Item) (l := a_1) (by kernel_rfl) rfl e_x_1130) ?_
           refine SW.eff D_8 (i := 14) (v := vp 8 0) (bs' := (bm 26 3964927)) rfl (.inr ⟨_, _, _, _, rfl, rfl, rfl, hg_9⟩) rfl (e_valE tk (.el 8) [x_3] (by kernel_rfl)) (by kernel_rfl) rfl (by kernel_rfl) ?_
           exact SD.vie D_8 [.g 0, .g 1, .g 2, .g 3, .g 4, .g 5, .g 8, .g 9, .g 6, .g 7] c_9_18 (by kernel_rfl)
         refine SW.eff D_8 (i := 22) (v := vs 7) (bs' := (bm 26 8142847)) rfl (.inr ⟨_, _, _, _, rfl, rfl, rfl, hg_9⟩) rfl (e_val tk (by kernel_rfl)) (by kernel_rfl) rfl (by kernel_rfl) ?_
         exact SD.vie D_8 [.g 0, .g 1, .g 2, .g 3, .g 4, .g 5, .g 6, .g 7] c_9_22 (by kernel_rfl)
       refine SD.lay 9 (bm 26 1851391) [(0, vs 0), (1, vs 1), (5, vi .i64 x_3), (28, vb (x_5.Key != x_6.Key)), (29, vs 0), (30, vi .i64 x_3), (35, vs 1), (36, vi .i64 x_3), (37, vp 6 0)] [.rd 2 R_T_api_Item a_1, .rd 2 R_T_api_Item b_2, .elt (some (0, x_3)) false [ci .u16 x_5.Key, .s 3], .rd 1 R8 x_5.Value, .elt (some (1, x_3)) false [ci .u16 x_6.Key, .s 5], .rd 1 R8 x_6.Value, .elt none false [ci .u16 x_1610.Key, .s 7], .rd 1 R8 x_1610.Value] ?_ (fun c_9_24 => ?_)
       · refine SD.all2 (i := 14) (j := 21) (by kernel_rfl) ?_ ?_
         · refine SW.pre (pre_ix (i := 0) (iv := x_3) (sz := 2) (R := R_T_api_Item) (l := a_1) (by kernel_rfl) rfl e_x_1130) ?_
           refine SW.eff D_8 (i := 14) (v := vp 8 0) (bs' := (bm 26 1867775)) rfl (.inr ⟨_, _, _, _, rfl, rfl, rfl, hg_9⟩) rfl (e_valE tk (.el 8) [x_3] (by kernel_rfl)) (by kernel_rfl) rfl (by kernel_rfl) ?_
           exact SD.vie D_8 [.g 0, .g 1, .g 2, .g 3, .g 4, .g 5, .g 8, .g 9, .g 6, .g 7] c_9_19 (by kernel_rfl)
         refine SW.eff D_8 (i := 21) (v := vp 6 1) (bs' := (bm 26 3948543)) rfl (.inr ⟨_, _, _, _, rfl, rfl, rfl, hg_9⟩) rfl (e_val tk (by kernel_rfl)) (by kernel_rfl) rfl (by kernel_rfl) ?_
         exact SD.vie D_8 [.g 0, .g 1, .g 2, .g 3, .g 4, .g 5, .g 6, .g 7] c_9_23 (by kernel_rfl)
       refine SD.all2 (i := 14) (j := 20) (by kernel_rfl) ?_ ?_
       · refine SW.pre (pre_ix (i := 0) (iv := x_3) (sz := 2) (R := R_T_api_Item) (l := a_1) (by kernel_rfl) rfl e_x_1130) ?_
         refine SW.eff D_8 (i := 14) (v := vp 6 0) (bs' := (bm 26 819199)) rfl (.inr ⟨_, _, _, _, rfl, rfl, rfl, hg_9⟩) rfl (e_valE tk (.el 6) [x_3] (by kernel_rfl)) (by kernel_rfl) rfl (by kernel_rfl) ?_
         exact SD.vie D_8 [.g 0, .g 1, .g 2, .g 3, .g 4, .g 5, .g 6, .g 7] c_9_20 (by kernel_rfl)
       refine SW.pre (pre_ix (i := 1) (iv := x_3) (sz := 2) (R := R_T_api_Item) (l := b_2) (by kernel_rfl) rfl e_x_1610) ?_
       refine SW.eff D_8 (i := 20) (v := vp 6 0) (bs' := (bm 26 1851391)) rfl (.inr ⟨_, _, _, _, rfl, rfl, rfl, hg_9⟩) rfl (e_valE tk (.el 6) [x_3] (by kernel_rfl)) (by kernel_rfl) rfl (by kernel_rfl) ?_
       exact SD.vie D_8 [.g 0, .g 1, .g 2, .g 3, .g 4, .g 5, .g 6, .g 7] c_9_24 (by kernel_rfl)
     rintro a w ⟨z_4, hp, h⟩
     refine h.go ?_
     refine SC.if' rfl hp (fun hp => ?_) (fun hp => ?_)
     · refine SC.r tk [(4, vb false)] [] [] [] (by kernel_rfl) ?_
       have ho := done_inv hp hs1
       replace hp := ho1
       try rw [ho] at hp
       obtain rfl := some_inv' hp
       exact SC.re (js := [.g 0, .g 1]) tk (by kernel_rfl)
     refine SC.skipThen ?_
     refine SC.reg ?_
     refine SL.sim tk 3 [(0, vs 0), (1, vs 1), (5, vi .i64 (w64 (x_3 + 1)))] [] [] [] (by kernel_rfl) ?_
     refine SL.nilJ fun a w h => ?_
     exact ⟨n1, Nat.lt_succ_self _, w64 (x_3 + 1), next_inv hp hs1, h.at (js := [.g 0, .g 1]) (by kernel_rfl)⟩
   refine SC.exitJ rfl fun a w h => ?_
   have ho := done_inv hp hs1
   replace hp := ho1
   try rw [ho] at hp
   exact ⟨hp, h.at (js := [.g 0, .g 1]) (by kernel_rfl)⟩
 rintro a w ⟨hp, h⟩
 refine h.go ?_
 refine SC.r tk [(4, vb true)] [] [] [] (by kernel_rfl) ?_
 obtain rfl := some_inv' hp
 exact SC.re (js := [.g 0, .g 1]) tk (by kernel_rfl)

theorem ok_wirelessref39_Same (F : Nat) (a_1 : T_api_Store) (b_2 : T_api_Store) (r : Bool) (hp : wirelessref39_Same F a_1 b_2 = some r) : Spec Tryd.prog 18 [.g (C_api_Store a_1 (.s 0) (.s 1) (.s 2)), .g (C_api_Store b_2 (.s 3) (.s 4) (.s 5))] [.rd 1 R8 a_1.Flash.Banks.1, .rd 1 R8 a_1.Flash.Banks.2, .rd 2 R_T_api_Item a_1.Items, .rd 1 R8 b_2.Flash.Banks.1, .rd 1 R8 b_2.Flash.Banks.2, .rd 2 R_T_api_Item b_2.Items] (vb r) [.gone, .gone, .gone, .gone, .gone, .gone] := by
 refine Spec.enter Tryd.func18 rfl Tryd.ntmps18 rfl rfl fun fx => ?_
 refine SC.seq ?_
 refine SC.reg ?_
 refine SL.eff (e_box (E := 40) (C_api_Store a_1 (.s 0) (.s 1) (.s 2)) (by kernel_rfl)) rfl (by kernel_rfl) ?_
 refine SL.eff (e_box (E := 40) (C_api_Store b_2 (.s 3) (.s 4) (.s 5)) (by kernel_rfl)) rfl (by kernel_rfl) ?_
 refine SL.sim tk 1 [(2, vp 6 0), (3, vp 7 0)] [] [] [] (by kernel_rfl) ?_
 refine SL.nilThen ?_
 refine SC.seq ?_
 refine SC.reg ?_
 refine SL.sim tk 4 [(2, vp 6 0), (3, vp 7 0), (6, .g [.s 0, .s 1]), (8, .g [.s 3, .s 4])] [] [] [] (by kernel_rfl) ?_
 obtain ⟨x_3, e_x_3, hp⟩ := bind_inv hp
 refine SL.eff (e_c Tryd.call12 (ok_wirelessref39_SameFlash F a_1.Flash b_2.Flash _ e_x_3) [.g 0, .g 1, .g 3, .g 4] [.g [.s 0, .s 1], .g [.s 3, .s 4]] (vb x_3) (by kernel_rfl) (.inl rfl)) rfl (by kernel_rfl) ?_
 refine SL.norm (itsN := [.rd 1 R8 a_1.Flash.Banks.1, .rd 1 R8 a_1.Flash.Banks.2, .rd 2 R_T_api_Item a_1.Items, .rd 1 R8 b_2.Flash.Banks.1, .rd 1 R8 b_2.Flash.Banks.2, .rd 2 R_T_api_Item b_2.Items, .blk 40 (C_api_Store a_1 (.s 0) (.s 1) (.s 2)), .blk 40 (C_api_Store b_2 (.s 3) (.s 4) (.s 5))]) (by kernel_rfl) ?_
 refine SL.sim tk 22 [(2, vp 6 0), (3, vp 7 0), (31, vb (((x_3 && (a_1.Bank == b_2.Bank)) && (a_1.Count == b_2.Count)) && (a_1.End == b_2.End)))] [] [] [] (by kernel_rfl) ?_
 obtain ⟨z_5, hz, hpr⟩ := bind_inv hp
 clear hp
 refine SL.cutAt 6 (fun a w => A 38 6 fx [(37, vb z_5)] [.gone, .gone, .gone, .gone, .gone, .gone] a w) ?_ ?_
 · have hp := hz
   rcases Bool.eq_false_or_eq_true ((((x_3 && (a_1.Bank == b_2.Bank)) && (a_1.Count == b_2.Count)) && (a_1.End == b_2.End))) with hg_4 | hg_4
   · replace hp := if_t hp hg_4
     refine SL.yes rfl rfl hg_4 ?_
     refine SL.sim tk 1 [(3, vp 7 0), (31, vb (((x_3 && (a_1.Bank == b_2.Bank)) && (a_1.Count == b_2.Count)) && (a_1.End == b_2.End))), (32, vp 6 5)] [] [] [] (by kernel_rfl) ?_
     refine SL.yes rfl rfl hg_4 ?_
     refine SL.sim tk 1 [(3, vp 7 0), (31, vb (((x_3 && (a_1.Bank == b_2.Bank)) && (a_1.Count == b_2.Count)) && (a_1.End == b_2.End))), (33, vs 2)] [] [] [] (by kernel_rfl) ?_
     refine SL.yes rfl rfl hg_4 ?_
     refine SL.sim tk 1 [(31, vb (((x_3 && (a_1.Bank == b_2.Bank)) && (a_1.Count == b_2.Count)) && (a_1.End == b_2.End))), (33, vs 2), (34, vp 7 5)] [] [] [] (by kernel_rfl) ?_
     refine SL.yes rfl rfl hg_4 ?_
     refine SL.sim tk 1 [(31, vb (((x_3 && (a_1.Bank == b_2.Bank)) && (a_1.Count == b_2.Count)) && (a_1.End == b_2.End))), (33, vs 2), (35, vs 5)] [] [] [] (by kernel_rfl) ?_
     refine SL.yes rfl rfl hg_4 ?_
     obtain ⟨x_7, e_x_7, hp⟩ := bind_inv hp
     refine SL.eff (e_c Tryd.call27 (ok_wirelessref39_SameItems F a_1.Items b_2.Items _ e_x_7) [.g 2, .g 5] [vs 2, vs 5] (vb x_7) (by kernel_rfl) (.inl rfl)) rfl (by kernel_rfl) ?_
     refine SL.pickt rfl hg_4 rfl rfl ?_
     refine SL.nilJ fun a w h => ?_
     obtain rfl := some_inv' hp
     exact h.at (js := [.g 0, .g 1, .g 2, .g 3, .g 4, .g 5]) (by kernel_rfl)
   replace hp := if_f hp hg_4
   refine SL.no rfl rfl hg_4 rfl ?_
   refine SL.no rfl rfl hg_4 rfl ?_
   refine SL.no rfl rfl hg_4 rfl ?_
   refine SL.no rfl rfl hg_4 rfl ?_
   refine SL.no rfl rfl hg_4 rfl ?_
   refine SL.pickf rfl hg_4 rfl rfl ?_
   refine SL.nilJ fun a w h => ?_
   obtain rfl := some_inv' hp
   exact h.at (js := [.g 0, .g 1, .g 2, .g 3, .g 4, .g 5]) (by kernel_rfl)
 intro a w h
 have hp := hpr; clear hpr hz
 refine h.goL ?_
 refine SL.sim tk 1 [(4, vb z_5)] [] [] [] (by kernel_rfl) ?_
 refine SL.nilThen ?_
 obtain rfl := some_inv' hp
 exact SC.re (js := [.g 0, .g 1, .g 2, .g 3, .g 4, .g 5]) tk (by kernel_rfl)

theorem ok_wirelessref39_Copy (F : Nat) (f_1 : T_api_Flash) (r : T_api_Flash) (hp : wirelessref39_Copy F f_1 = some r) : Spec Tryd.prog 14 [.g [.s 0, .s 1]] [.rd 1 R8 f_1.Banks.1, .rd 1 R8 f_1.Banks.2] (.g [.s 2, .s 3]) [.gone, .gone, .rd 1 R8 r.Banks.1, .rd 1 R8 r.Banks.2] := by
 refine Spec.enter Tryd.func14 rfl Tryd.ntmps14 rfl rfl fun fx => ?_
 refine SC.seq ?_
 refine SC.reg ?_
 refine SL.eff (e_box (E := 25) [.s 0, .s 1] (by kernel_rfl)) rfl (by kernel_rfl) ?_
 refine SL.eff (e_alloc (E := 25) tk [nl, nl] (by kernel_rfl)) rfl (by kernel_rfl) ?_
 refine SL.nilThen ?_
 refine SC.cut (fun a w => ∃ (c_4 : T_api_Flash), wirelessref39_Copy_j1 F c_4 = some r ∧ A 15 2 fx [(2, vp 2 0)] [.gone, .gone, .blk 25 [.s 3, .s 4], .own 1 5 R8 c_4.Banks.1, .own 1 5 R8 c_4.Banks.2] a w) ?_ ?_
 · refine SC.draw MO [true, true, true, false] (by kernel_rfl) fun kap_5 D_6 => ?_
   refine SD.takes tk D_6 [] kn0 [1, 6] [] [] (bm 13 66) [(2, vp 3 0), (4, vp 2 0), (9, vp 2 0)] rfl (by kernel_rfl) (by kernel_rfl) (by kernel_rfl) ?_
   obtain ⟨l_327, e_l_327, hp⟩ := bind_inv hp
   obtain ⟨l_727, e_l_727, hp⟩ := bind_inv hp
   refine SD.lay 0 (bm 13 8191) [(2, vp 3 0)] [.rd 1 R8 f_1.Banks.1, .rd 1 R8 f_1.Banks.2, .blk 25 [.s 0, .s 1], .blk 25 [.s 5, .s 7], .gone, .own 1 5 R8 l_327, .gone, .own 1 5 R8 l_727] ?_ (fun c_6_0 => ?_)
   · refine SD.done (by kernel_rfl) fun a w h => ?_
     exact ⟨(T_api_Flash.mk (l_327, l_727)), hp, h.at (js := [.g 0, .g 1, .g 3, .g 5, .g 7]) (by kernel_rfl)⟩
   refine SD.lay 1 (bm 13 4095) [(2, vp 3 0), (14, .g [.s 5, .s 7])] [.rd 1 R8 f_1.Banks.1, .rd 1 R8 f_1.Banks.2, .blk 25 [.s 0, .s 1], .blk 25 [nl, nl], .gone, .own 1 5 R8 l_327, .gone, .own 1 5 R8 l_727] ?_ (fun c_6_1 => ?_)
   · refine SD.all1 (i := 12) (by kernel_rfl) ?_
     refine SW.store D_6 tk (i := 12) (q := 3) (T := 25) (cs := [.s 5, .s 7]) (bs' := (bm 13 8191)) rfl (by kernel_rfl) rfl rfl (by kernel_rfl) ?_
     exact SD.vie D_6 [.g 0, .g 1, .g 2, .g 3, .n, .g 5, .n, .g 7] c_6_0 (by kernel_rfl)
   refine SD.lay 2 (bm 13 2047) [(2, vp 3 0), (13, .g [.s 5, .s 7])] [.rd 1 R8 f_1.Banks.1, .rd 1 R8 f_1.Banks.2, .blk 25 [.s 0, .s 1], .blk 25 [nl, nl], .gone, .own 1 5 R8 l_327, .gone, .own 1 5 R8 l_727] ?_ (fun c_6_2 => ?_)
   · refine SD.all1 (i := 11) (by kernel_rfl) ?_
     refine SW.eff D_6 (i := 11) (v := .g [.s 5, .s 7]) (bs' := (bm 13 4095)) rfl (.inl rfl) rfl (e_val tk (by kernel_rfl)) (by kernel_rfl) rfl (by kernel_rfl) ?_
     exact SD.vie D_6 [.g 0, .g 1, .g 2, .g 3, .n, .g 5, .n, .g 7] c_6_1 (by kernel_rfl)
   refine SD.lay 3 (bm 13 1023) [(2, vp 3 0), (7, vs 5), (12, vs 7)] [.rd 1 R8 f_1.Banks.1, .rd 1 R8 f_1.Banks.2, .blk 25 [.s 0, .s 1], .blk 25 [nl, nl], .gone, .own 1 5 R8 l_327, .gone, .own 1 5 R8 l_727] ?_ (fun c_6_3 => ?_)
   · refine SD.all1 (i := 10) (by kernel_rfl) ?_
     refine SW.eff D_6 (i := 10) (v := .g [.s 5, .s 7]) (bs' := (bm 13 2047)) rfl (.inl rfl) rfl (e_val tk (by kernel_rfl)) (by kernel_rfl) rfl (by kernel_rfl) ?_
     exact SD.vie D_6 [.g 0, .g 1, .g 2, .g 3, .n, .g 5, .n, .g 7] c_6_2 (by kernel_rfl)
   refine SD.lay 4 (bm 13 511) [(2, vp 3 0), (7, vs 5), (8, vs 6), (11, vs 1)] [.rd 1 R8 f_1.Banks.1, .rd 1 R8 f_1.Banks.2, .blk 25 [.s 0, .s 1], .blk 25 [nl, nl], .gone, .own 1 5 R8 l_327, .own 1 5 R8 ([] : (List Int))] ?_ (fun c_6_4 => ?_)
   · refine SD.all1 (i := 9) (by kernel_rfl) ?_
     refine SW.eff D_6 (i := 9) (bs' := (bm 13 1023)) rfl (.inl rfl) rfl (e_app (i := 6) (l := ([] : (List Int))) (sz := 1) (E := 5) (R := R8) (by_ := 1) (m := f_1.Banks.2) tk rfl (by kernel_rfl) rfl (.r (by kernel_rfl)) e_l_727 (by kernel_rfl)) (by kernel_rfl) rfl (by kernel_rfl) ?_
     exact SD.vie D_6 [.g 0, .g 1, .g 2, .g 3, .n, .g 5, .n, .g 7] c_6_3 (by kernel_rfl)
   refine SD.lay 6 (bm 13 127) [(2, vp 3 0), (7, vs 5), (8, vs 6), (9, vp 2 0)] [.rd 1 R8 f_1.Banks.1, .rd 1 R8 f_1.Banks.2, .blk 25 [.s 0, .s 1], .blk 25 [nl, nl], .gone, .own 1 5 R8 l_327, .own 1 5 R8 ([] : (List Int))] ?_ (fun c_6_5 => ?_)
   · refine SD.all1 (i := 7) (by kernel_rfl) ?_
     refine SW.eff D_6 (i := 7) (bs' := (bm 13 255)) rfl (.inl rfl) rfl (e_ixa (off := 1) (T := 25) (cs := [.s 0, .s 1]) tk rfl rfl (by kernel_rfl) (by kernel_rfl)) (by kernel_rfl) rfl (by kernel_rfl) ?_
     refine SD.takes tk D_6 [] kn0 [8] [] [] (bm 13 511) [(2, vp 3 0), (7, vs 5), (8, vs 6), (11, vs 1)] rfl (by kernel_rfl) (by kernel_rfl) (by kernel_rfl) ?_
     exact SD.vie D_6 [.g 0, .g 1, .g 2, .g 3, .n, .g 5, .g 6] c_6_4 (by kernel_rfl)
   refine SD.lay 5 (bm 13 479) [(2, vp 3 0), (7, vs 5), (11, vs 1)] [.rd 1 R8 f_1.Banks.1, .rd 1 R8 f_1.Banks.2, .blk 25 [.s 0, .s 1], .blk 25 [nl, nl], .gone, .own 1 5 R8 l_327] ?_ (fun c_6_6 => ?_)
   · refine SD.all1 (i := 5) (by kernel_rfl) ?_
     refine SW.eff D_6 (i := 5) (bs' := (bm 13 511)) rfl (.inl rfl) rfl (e_lit (sz := 1) (E := 5) (R := R8) (by_ := 1) tk [] ([] : (List Int)) (by kernel_rfl) trivial rfl (by kernel_rfl) (by kernel_rfl)) (by kernel_rfl) rfl (by kernel_rfl) ?_
     exact SD.vie D_6 [.g 0, .g 1, .g 2, .g 3, .n, .g 5, .g 6] c_6_4 (by kernel_rfl)
   refine SD.lay 7 (bm 13 95) [(2, vp 3 0), (7, vs 5), (9, vp 2 0)] [.rd 1 R8 f_1.Banks.1, .rd 1 R8 f_1.Banks.2, .blk 25 [.s 0, .s 1], .blk 25 [nl, nl], .gone, .own 1 5 R8 l_327] ?_ (fun c_6_7 => ?_)
   · refine SD.all2 (i := 5) (j := 7) (by kernel_rfl) ?_ ?_
     · refine SW.eff D_6 (i := 5) (bs' := (bm 13 127)) rfl (.inl rfl) rfl (e_lit (sz := 1) (E := 5) (R := R8) (by_ := 1) tk [] ([] : (List Int)) (by kernel_rfl) trivial rfl (by kernel_rfl) (by kernel_rfl)) (by kernel_rfl) rfl (by kernel_rfl) ?_
       exact SD.vie D_6 [.g 0, .g 1, .g 2, .g 3, .n, .g 5, .g 6] c_6_5 (by kernel_rfl)
     refine SW.eff D_6 (i := 7) (bs' := (bm 13 223)) rfl (.inl rfl) rfl (e_ixa (off := 1) (T := 25) (cs := [.s 0, .s 1]) tk rfl rfl (by kernel_rfl) (by kernel_rfl)) (by kernel_rfl) rfl (by kernel_rfl) ?_
     refine SD.takes tk D_6 [] kn0 [8] [] [] (bm 13 479) [(2, vp 3 0), (7, vs 5), (11, vs 1)] rfl (by kernel_rfl) (by kernel_rfl) (by kernel_rfl) ?_
     exact SD.vie D_6 [.g 0, .g 1, .g 2, .g 3, .n, .g 5] c_6_6 (by kernel_rfl)
   refine SD.lay 5 (bm 13 495) [(2, vp 3 0), (3, vs 4), (6, vs 0), (8, vs 5), (11, vs 1)] [.rd 1 R8 f_1.Banks.1, .rd 1 R8 f_1.Banks.2, .blk 25 [.s 0, .s 1], .blk 25 [nl, nl], .own 1 5 R8 ([] : (List Int)), .own 1 5 R8 ([] : (List Int))] ?_ (fun c_6_8 => ?_)
   · refine SD.all1 (i := 4) (by kernel_rfl) ?_
     refine SW.eff D_6 (i := 4) (bs' := (bm 13 511)) rfl (.inl rfl) rfl (e_app (i := 4) (l := ([] : (List Int))) (sz := 1) (E := 5) (R := R8) (by_ := 1) (m := f_1.Banks.1) tk rfl (by kernel_rfl) rfl (.r (by kernel_rfl)) e_l_327 (by kernel_rfl)) (by kernel_rfl) rfl (by kernel_rfl) ?_
     exact SD.vie D_6 [.g 0, .g 1, .g 2, .g 3, .n, .g 6, .g 5] c_6_4 (by kernel_rfl)
   refine SD.lay 7 (bm 13 111) [(2, vp 3 0), (3, vs 4), (6, vs 0), (8, vs 5), (9, vp 2 0)] [.rd 1 R8 f_1.Banks.1, .rd 1 R8 f_1.Banks.2, .blk 25 [.s 0, .s 1], .blk 25 [nl, nl], .own 1 5 R8 ([] : (List Int)), .own 1 5 R8 ([] : (List Int))] ?_ (fun c_6_9 => ?_)
   · refine SD.all2 (i := 4) (j := 7) (by kernel_rfl) ?_ ?_
     · refine SW.eff D_6 (i := 4) (bs' := (bm 13 127)) rfl (.inl rfl) rfl (e_app (i := 4) (l := ([] : (List Int))) (sz := 1) (E := 5) (R := R8) (by_ := 1) (m := f_1.Banks.1) tk rfl (by kernel_rfl) rfl (.r (by kernel_rfl)) e_l_327 (by kernel_rfl)) (by kernel_rfl) rfl (by kernel_rfl) ?_
       exact SD.vie D_6 [.g 0, .g 1, .g 2, .g 3, .n, .g 6, .g 5] c_6_5 (by kernel_rfl)
     refine SW.eff D_6 (i := 7) (bs' := (bm 13 239)) rfl (.inl rfl) rfl (e_ixa (off := 1) (T := 25) (cs := [.s 0, .s 1]) tk rfl rfl (by kernel_rfl) (by kernel_rfl)) (by kernel_rfl) rfl (by kernel_rfl) ?_
     refine SD.takes tk D_6 [] kn0 [8] [] [] (bm 13 495) [(2, vp 3 0), (3, vs 4), (6, vs 0), (8, vs 5), (11, vs 1)] rfl (by kernel_rfl) (by kernel_rfl) (by kernel_rfl) ?_
     exact SD.vie D_6 [.g 0, .g 1, .g 2, .g 3, .g 4, .g 5] c_6_8 (by kernel_rfl)
   refine SD.lay 6 (bm 13 463) [(2, vp 3 0), (3, vs 4), (6, vs 0), (11, vs 1)] [.rd 1 R8 f_1.Banks.1, .rd 1 R8 f_1.Banks.2, .blk 25 [.s 0, .s 1], .blk 25 [nl, nl], .own 1 5 R8 ([] : (List Int))] ?_ (fun c_6_10 => ?_)
   · refine SD.all2 (i := 4) (j := 5) (by kernel_rfl) ?_ ?_
     · refine SW.eff D_6 (i := 4) (bs' := (bm 13 479)) rfl (.inl rfl) rfl (e_app (i := 4) (l := ([] : (List Int))) (sz := 1) (E := 5) (R := R8) (by_ := 1) (m := f_1.Banks.1) tk rfl (by kernel_rfl) rfl (.r (by kernel_rfl)) e_l_327 (by kernel_rfl)) (by kernel_rfl) rfl (by kernel_rfl) ?_
       exact SD.vie D_6 [.g 0, .g 1, .g 2, .g 3, .n, .g 5] c_6_6 (by kernel_rfl)
     refine SW.eff D_6 (i := 5) (bs' := (bm 13 495)) rfl (.inl rfl) rfl (e_lit (sz := 1) (E := 5) (R := R8) (by_ := 1) tk [] ([] : (List Int)) (by kernel_rfl) trivial rfl (by kernel_rfl) (by kernel_rfl)) (by kernel_rfl) rfl (by kernel_rfl) ?_
     exact SD.vie D_6 [.g 0, .g 1, .g 2, .g 3, .g 4, .g 5] c_6_8 (by kernel_rfl)
   refine SD.lay 8 (bm 13 79) [(2, vp 3 0), (3, vs 4), (6, vs 0), (9, vp 2 0)] [.rd 1 R8 f_1.Banks.1, .rd 1 R8 f_1.Banks.2, .blk 25 [.s 0, .s 1], .blk 25 [nl, nl], .own 1 5 R8 ([] : (List Int))] ?_ (fun c_6_11 => ?_)
   · refine SD.all3 (i := 4) (j := 5) (k := 7) (by kernel_rfl) ?_ ?_ ?_
     · refine SW.eff D_6 (i := 4) (bs' := (bm 13 95)) rfl (.inl rfl) rfl (e_app (i := 4) (l := ([] : (List Int))) (sz := 1) (E := 5) (R := R8) (by_ := 1) (m := f_1.Banks.1) tk rfl (by kernel_rfl) rfl (.r (by kernel_rfl)) e_l_327 (by kernel_rfl)) (by kernel_rfl) rfl (by kernel_rfl) ?_
       exact SD.vie D_6 [.g 0, .g 1, .g 2, .g 3, .n, .g 5] c_6_7 (by kernel_rfl)
     · refine SW.eff D_6 (i := 5) (bs' := (bm 13 111)) rfl (.inl rfl) rfl (e_lit (sz := 1) (E := 5) (R := R8) (by_ := 1) tk [] ([] : (List Int)) (by kernel_rfl) trivial rfl (by kernel_rfl) (by kernel_rfl)) (by kernel_rfl) rfl (by kernel_rfl) ?_
       exact SD.vie D_6 [.g 0, .g 1, .g 2, .g 3, .g 4, .g 5] c_6_9 (by kernel_rfl)
     refine SW.eff D_6 (i := 7) (bs' := (bm 13 207)) rfl (.inl rfl) rfl (e_ixa (off := 1) (T := 25) (cs := [.s 0, .s 1]) tk rfl rfl (by kernel_rfl) (by kernel_rfl)) (by kernel_rfl) rfl (by kernel_rfl) ?_
     refine SD.takes tk D_6 [] kn0 [8] [] [] (bm 13 463) [(2, vp 3 0), (3, vs 4), (6, vs 0), (11, vs 1)] rfl (by kernel_rfl) (by kernel_rfl) (by kernel_rfl) ?_
     exact SD.vie D_6 [.g 0, .g 1, .g 2, .g 3, .g 4] c_6_10 (by kernel_rfl)
   refine SD.lay 7 (bm 13 483) [(2, vp 3 0), (3, vs 4), (4, vp 2 0), (8, vs 5), (11, vs 1)] [.rd 1 R8 f_1.Banks.1, .rd 1 R8 f_1.Banks.2, .blk 25 [.s 0, .s 1], .blk 25 [nl, nl], .own 1 5 R8 ([] : (List Int)), .own 1 5 R8 ([] : (List Int))] ?_ (fun c_6_12 => ?_)
   · refine SD.all1 (i := 2) (by kernel_rfl) ?_
     refine SW.eff D_6 (i := 2) (bs' := (bm 13 487)) rfl (.inl rfl) rfl (e_ixa (off := 0) (T := 25) (cs := [.s 0, .s 1]) tk rfl rfl (by kernel_rfl) (by kernel_rfl)) (by kernel_rfl) rfl (by kernel_rfl) ?_
     refine SD.takes tk D_6 [] kn0 [3] [] [] (bm 13 495) [(2, vp 3 0), (3, vs 4), (6, vs 0), (8, vs 5), (11, vs 1)] rfl (by kernel_rfl) (by kernel_rfl) (by kernel_rfl) ?_
     exact SD.vie D_6 [.g 0, .g 1, .g 2, .g 3, .g 4, .g 5] c_6_8 (by kernel_rfl)
   refine SD.lay 9 (bm 13 99) [(2, vp 3 0), (3, vs 4), (4, vp 2 0), (8, vs 5), (9, vp 2 0)] [.rd 1 R8 f_1.Banks.1, .rd 1 R8 f_1.Banks.2, .blk 25 [.s 0, .s 1], .blk 25 [nl, nl], .own 1 5 R8 ([] : (List Int)), .own 1 5 R8 ([] : (List Int))] ?_ (fun c_6_13 => ?_)
   · refine SD.all2 (i := 2) (j := 7) (by kernel_rfl) ?_ ?_
     · refine SW.eff D_6 (i := 2) (bs' := (bm 13 103)) rfl (.inl rfl) rfl (e_ixa (off := 0) (T := 25) (cs := [.s 0, .s 1]) tk rfl rfl (by kernel_rfl) (by kernel_rfl)) (by kernel_rfl) rfl (by kernel_rfl) ?_
       refine SD.takes tk D_6 [] kn0 [3] [] [] (bm 13 111) [(2, vp 3 0), (3, vs 4), (6, vs 0), (8, vs 5), (9, vp 2 0)] rfl (by kernel_rfl) (by kernel_rfl) (by kernel_rfl) ?_
       exact SD.vie D_6 [.g 0, .g 1, .g 2, .g 3, .g 4, .g 5] c_6_9 (by kernel_rfl)
     refine SW.eff D_6 (i := 7) (bs' := (bm 13 227)) rfl (.inl rfl) rfl (e_ixa (off := 1) (T := 25) (cs := [.s 0, .s 1]) tk rfl rfl (by kernel_rfl) (by kernel_rfl)) (by kernel_rfl) rfl (by kernel_rfl) ?_
     refine SD.takes tk D_6 [] kn0 [8] [] [] (bm 13 483) [(2, vp 3 0), (3, vs 4), (4, vp 2 0), (8, vs 5), (11, vs 1)] rfl (by kernel_rfl) (by kernel_rfl) (by kernel_rfl) ?_
     exact SD.vie D_6 [.g 0, .g 1, .g 2, .g 3, .g 4, .g 5] c_6_12 (by kernel_rfl)
   refine SD.lay 8 (bm 13 451) [(2, vp 3 0), (3, vs 4), (4, vp 2 0), (11, vs 1)] [.rd 1 R8 f_1.Banks.1, .rd 1 R8 f_1.Banks.2, .blk 25 [.s 0, .s 1], .blk 25 [nl, nl], .own 1 5 R8 ([] : (List Int))] ?_ (fun c_6_14 => ?_)
   · refine SD.all2 (i := 2) (j := 5) (by kernel_rfl) ?_ ?_
     · refine SW.eff D_6 (i := 2) (bs' := (bm 13 455)) rfl (.inl rfl) rfl (e_ixa (off := 0) (T := 25) (cs := [.s 0, .s 1]) tk rfl rfl (by kernel_rfl) (by kernel_rfl)) (by kernel_rfl) rfl (by kernel_rfl) ?_
       refine SD.takes tk D_6 [] kn0 [3] [] [] (bm 13 463) [(2, vp 3 0), (3, vs 4), (6, vs 0), (11, vs 1)] rfl (by kernel_rfl) (by kernel_rfl) (by kernel_rfl) ?_
       exact SD.vie D_6 [.g 0, .g 1, .g 2, .g 3, .g 4] c_6_10 (by kernel_rfl)
     refine SW.eff D_6 (i := 5) (bs' := (bm 13 483)) rfl (.inl rfl) rfl (e_lit (sz := 1) (E := 5) (R := R8) (by_ := 1) tk [] ([] : (List Int)) (by kernel_rfl) trivial rfl (by kernel_rfl) (by kernel_rfl)) (by kernel_rfl) rfl (by kernel_rfl) ?_
     exact SD.vie D_6 [.g 0, .g 1, .g 2, .g 3, .g 4, .g 5] c_6_12 (by kernel_rfl)
   refine SD.lay 10 (bm 13 67) [(2, vp 3 0), (3, vs 4), (4, vp 2 0), (9, vp 2 0)] [.rd 1 R8 f_1.Banks.1, .rd 1 R8 f_1.Banks.2, .blk 25 [.s 0, .s 1], .blk 25 [nl, nl], .own 1 5 R8 ([] : (List Int))] ?_ (fun c_6_15 => ?_)
   · refine SD.all3 (i := 2) (j := 5) (k := 7) (by kernel_rfl) ?_ ?_ ?_
     · refine SW.eff D_6 (i := 2) (bs' := (bm 13 71)) rfl (.inl rfl) rfl (e_ixa (off := 0) (T := 25) (cs := [.s 0, .s 1]) tk rfl rfl (by kernel_rfl) (by kernel_rfl)) (by kernel_rfl) rfl (by kernel_rfl) ?_
       refine SD.takes tk D_6 [] kn0 [3] [] [] (bm 13 79) [(2, vp 3 0), (3, vs 4), (6, vs 0), (9, vp 2 0)] rfl (by kernel_rfl) (by kernel_rfl) (by kernel_rfl) ?_
       exact SD.vie D_6 [.g 0, .g 1, .g 2, .g 3, .g 4] c_6_11 (by kernel_rfl)
     · refine SW.eff D_6 (i := 5) (bs' := (bm 13 99)) rfl (.inl rfl) rfl (e_lit (sz := 1) (E := 5) (R := R8) (by_ := 1) tk [] ([] : (List Int)) (by kernel_rfl) trivial rfl (by kernel_rfl) (by kernel_rfl)) (by kernel_rfl) rfl (by kernel_rfl) ?_
       exact SD.vie D_6 [.g 0, .g 1, .g 2, .g 3, .g 4, .g 5] c_6_13 (by kernel_rfl)
     refine SW.eff D_6 (i := 7) (bs' := (bm 13 195)) rfl (.inl rfl) rfl (e_ixa (off := 1) (T := 25) (cs := [.s 0, .s 1]) tk rfl rfl (by kernel_rfl) (by kernel_rfl)) (by kernel_rfl) rfl (by kernel_rfl) ?_
     refine SD.takes tk D_6 [] kn0 [8] [] [] (bm 13 451) [(2, vp 3 0), (3, vs 4), (4, vp 2 0), (11, vs 1)] rfl (by kernel_rfl) (by kernel_rfl) (by kernel_rfl) ?_
     exact SD.vie D_6 [.g 0, .g 1, .g 2, .g 3, .g 4] c_6_14 (by kernel_rfl)
   refine SD.lay 6 (bm 13 494) [(2, vp 3 0), (6, vs 0), (8, vs 4), (11, vs 1)] [.rd 1 R8 f_1.Banks.1, .rd 1 R8 f_1.Banks.2, .blk 25 [.s 0, .s 1], .blk 25 [nl, nl], .own 1 5 R8 ([] : (List Int))] ?_ (fun c_6_16 => ?_)
   · refine SD.all1 (i := 0) (by kernel_rfl) ?_
     refine SW.eff D_6 (i := 0) (bs' := (bm 13 495)) rfl (.inl rfl) rfl (e_lit (sz := 1) (E := 5) (R := R8) (by_ := 1) tk [] ([] : (List Int)) (by kernel_rfl) trivial rfl (by kernel_rfl) (by kernel_rfl)) (by kernel_rfl) rfl (by kernel_rfl) ?_
     exact SD.vie D_6 [.g 0, .g 1, .g 2, .g 3, .g 5, .g 4] c_6_8 (by kernel_rfl)
   refine SD.lay 8 (bm 13 110) [(2, vp 3 0), (6, vs 0), (8, vs 4), (9, vp 2 0)] [.rd 1 R8 f_1.Banks.1, .rd 1 R8 f_1.Banks.2, .blk 25 [.s 0, .s 1], .blk 25 [nl, nl], .own 1 5 R8 ([] : (List Int))] ?_ (fun c_6_17 => ?_)
   · refine SD.all2 (i := 0) (j := 7) (by kernel_rfl) ?_ ?_
     · refine SW.eff D_6 (i := 0) (bs' := (bm 13 111)) rfl (.inl rfl) rfl (e_lit (sz := 1) (E := 5) (R := R8) (by_ := 1) tk [] ([] : (List Int)) (by kernel_rfl) trivial rfl (by kernel_rfl) (by kernel_rfl)) (by kernel_rfl) rfl (by kernel_rfl) ?_
       exact SD.vie D_6 [.g 0, .g 1, .g 2, .g 3, .g 5, .g 4] c_6_9 (by kernel_rfl)
     refine SW.eff D_6 (i := 7) (bs' := (bm 13 238)) rfl (.inl rfl) rfl (e_ixa (off := 1) (T := 25) (cs := [.s 0, .s 1]) tk rfl rfl (by kernel_rfl) (by kernel_rfl)) (by kernel_rfl) rfl (by kernel_rfl) ?_
     refine SD.takes tk D_6 [] kn0 [8] [] [] (bm 13 494) [(2, vp 3 0), (6, vs 0), (8, vs 4), (11, vs 1)] rfl (by kernel_rfl) (by kernel_rfl) (by kernel_rfl) ?_
     exact SD.vie D_6 [.g 0, .g 1, .g 2, .g 3, .g 4] c_6_16 (by kernel_rfl)
   refine SD.lay 7 (bm 13 462) [(2, vp 3 0), (6, vs 0), (11, vs 1)] [.rd 1 R8 f_1.Banks.1, .rd 1 R8 f_1.Banks.2, .blk 25 [.s 0, .s 1], .blk 25 [nl, nl]] ?_ (fun c_6_18 => ?_)
   · refine SD.all2 (i := 0) (j := 5) (by kernel_rfl) ?_ ?_
     · refine SW.eff D_6 (i := 0) (bs' := (bm 13 463)) rfl (.inl rfl) rfl (e_lit (sz := 1) (E := 5) (R := R8) (by_ := 1) tk [] ([] : (List Int)) (by kernel_rfl) trivial rfl (by kernel_rfl) (by kernel_rfl)) (by kernel_rfl) rfl (by kernel_rfl) ?_
       exact SD.vie D_6 [.g 0, .g 1, .g 2, .g 3, .g 4] c_6_10 (by kernel_rfl)
     refine SW.eff D_6 (i := 5) (bs' := (bm 13 494)) rfl (.inl rfl) rfl (e_lit (sz := 1) (E := 5) (R := R8) (by_ := 1) tk [] ([] : (List Int)) (by kernel_rfl) trivial rfl (by kernel_rfl) (by kernel_rfl)) (by kernel_rfl) rfl (by kernel_rfl) ?_
     exact SD.vie D_6 [.g 0, .g 1, .g 2, .g 3, .g 4] c_6_16 (by kernel_rfl)
   refine SD.lay 9 (bm 13 78) [(2, vp 3 0), (6, vs 0), (9, vp 2 0)] [.rd 1 R8 f_1.Banks.1, .rd 1 R8 f_1.Banks.2, .blk 25 [.s 0, .s 1], .blk 25 [nl, nl]] ?_ (fun c_6_19 => ?_)
   · refine SD.all3 (i := 0) (j := 5) (k := 7) (by kernel_rfl) ?_ ?_ ?_
     · refine SW.eff D_6 (i := 0) (bs' := (bm 13 79)) rfl (.inl rfl) rfl (e_lit (sz := 1) (E := 5) (R := R8) (by_ := 1) tk [] ([] : (List Int)) (by kernel_rfl) trivial rfl (by kernel_rfl) (by kernel_rfl)) (by kernel_rfl) rfl (by kernel_rfl) ?_
       exact SD.vie D_6 [.g 0, .g 1, .g 2, .g 3, .g 4] c_6_11 (by kernel_rfl)
     · refine SW.eff D_6 (i := 5) (bs' := (bm 13 110)) rfl (.inl rfl) rfl (e_lit (sz := 1) (E := 5) (R := R8) (by_ := 1) tk [] ([] : (List Int)) (by kernel_rfl) trivial rfl (by kernel_rfl) (by kernel_rfl)) (by kernel_rfl) rfl (by kernel_rfl) ?_
       exact SD.vie D_6 [.g 0, .g 1, .g 2, .g 3, .g 4] c_6_17 (by kernel_rfl)
     refine SW.eff D_6 (i := 7) (bs' := (bm 13 206)) rfl (.inl rfl) rfl (e_ixa (off := 1) (T := 25) (cs := [.s 0, .s 1]) tk rfl rfl (by kernel_rfl) (by kernel_rfl)) (by kernel_rfl) rfl (by kernel_rfl) ?_
     refine SD.takes tk D_6 [] kn0 [8] [] [] (bm 13 462) [(2, vp 3 0), (6, vs 0), (11, vs 1)] rfl (by kernel_rfl) (by kernel_rfl) (by kernel_rfl) ?_
     exact SD.vie D_6 [.g 0, .g 1, .g 2, .g 3] c_6_18 (by kernel_rfl)
   refine SD.lay 8 (bm 13 482) [(2, vp 3 0), (4, vp 2 0), (8, vs 4), (11, vs 1)] [.rd 1 R8 f_1.Banks.1, .rd 1 R8 f_1.Banks.2, .blk 25 [.s 0, .s 1], .blk 25 [nl, nl], .own 1 5 R8 ([] : (List Int))] ?_ (fun c_6_20 => ?_)
   · refine SD.all2 (i := 0) (j := 2) (by kernel_rfl) ?_ ?_
     · refine SW.eff D_6 (i := 0) (bs' := (bm 13 483)) rfl (.inl rfl) rfl (e_lit (sz := 1) (E := 5) (R := R8) (by_ := 1) tk [] ([] : (List Int)) (by kernel_rfl) trivial rfl (by kernel_rfl) (by kernel_rfl)) (by kernel_rfl) rfl (by kernel_rfl) ?_
       exact SD.vie D_6 [.g 0, .g 1, .g 2, .g 3, .g 5, .g 4] c_6_12 (by kernel_rfl)
     refine SW.eff D_6 (i := 2) (bs' := (bm 13 486)) rfl (.inl rfl) rfl (e_ixa (off := 0) (T := 25) (cs := [.s 0, .s 1]) tk rfl rfl (by kernel_rfl) (by kernel_rfl)) (by kernel_rfl) rfl (by kernel_rfl) ?_
     refine SD.takes tk D_6 [] kn0 [3] [] [] (bm 13 494) [(2, vp 3 0), (6, vs 0), (8, vs 4), (11, vs 1)] rfl (by kernel_rfl) (by kernel_rfl) (by kernel_rfl) ?_
     exact SD.vie D_6 [.g 0, .g 1, .g 2, .g 3, .g 4] c_6_16 (by kernel_rfl)
   refine SD.lay 10 (bm 13 98) [(2, vp 3 0), (4, vp 2 0), (8, vs 4), (9, vp 2 0)] [.rd 1 R8 f_1.Banks.1, .rd 1 R8 f_1.Banks.2, .blk 25 [.s 0, .s 1], .blk 25 [nl, nl], .own 1 5 R8 ([] : (List Int))] ?_ (fun c_6_21 => ?_)
   · refine SD.all3 (i := 0) (j := 2) (k := 7) (by kernel_rfl) ?_ ?_ ?_
     · refine SW.eff D_6 (i := 0) (bs' := (bm 13 99)) rfl (.inl rfl) rfl (e_lit (sz := 1) (E := 5) (R := R8) (by_ := 1) tk [] ([] : (List Int)) (by kernel_rfl) trivial rfl (by kernel_rfl) (by kernel_rfl)) (by kernel_rfl) rfl (by kernel_rfl) ?_
       exact SD.vie D_6 [.g 0, .g 1, .g 2, .g 3, .g 5, .g 4] c_6_13 (by kernel_rfl)
     · refine SW.eff D_6 (i := 2) (bs' := (bm 13 102)) rfl (.inl rfl) rfl (e_ixa (off := 0) (T := 25) (cs := [.s 0, .s 1]) tk rfl rfl (by kernel_rfl) (by kernel_rfl)) (by kernel_rfl) rfl (by kernel_rfl) ?_
       refine SD.takes tk D_6 [] kn0 [3] [] [] (bm 13 110) [(2, vp 3 0), (6, vs 0), (8, vs 4), (9, vp 2 0)] rfl (by kernel_rfl) (by kernel_rfl) (by kernel_rfl) ?_
       exact SD.vie D_6 [.g 0, .g 1, .g 2, .g 3, .g 4] c_6_17 (by kernel_rfl)
     refine SW.eff D_6 (i := 7) (bs' := (bm 13 226)) rfl (.inl rfl) rfl (e_ixa (off := 1) (T := 25) (cs := [.s 0, .s 1]) tk rfl rfl (by kernel_rfl) (by kernel_rfl)) (by kernel_rfl) rfl (by kernel_rfl) ?_
     refine SD.takes tk D_6 [] kn0 [8] [] [] (bm 13 482) [(2, vp 3 0), (4, vp 2 0), (8, vs 4), (11, vs 1)] rfl (by kernel_rfl) (by kernel_rfl) (by kernel_rfl) ?_
     exact SD.vie D_6 [.g 0, .g 1, .g 2, .g 3, .g 4] c_6_20 (by kernel_rfl)
   refine SD.lay 9 (bm 13 450) [(2, vp 3 0), (4, vp 2 0), (11, vs 1)] [.rd 1 R8 f_1.Banks.1, .rd 1 R8 f_1.Banks.2, .blk 25 [.s 0, .s 1], .blk 25 [nl, nl]] ?_ (fun c_6_22 => ?_)
   · refine SD.all3 (i := 0) (j := 2) (k := 5) (by kernel_rfl) ?_ ?_ ?_
     · refine SW.eff D_6 (i := 0) (bs' := (bm 13 451)) rfl (.inl rfl) rfl (e_lit (sz := 1) (E := 5) (R := R8) (by_ := 1) tk [] ([] : (List Int)) (by kernel_rfl) trivial rfl (by kernel_rfl) (by kernel_rfl)) (by kernel_rfl) rfl (by kernel_rfl) ?_
       exact SD.vie D_6 [.g 0, .g 1, .g 2, .g 3, .g 4] c_6_14 (by kernel_rfl)
     · refine SW.eff D_6 (i := 2) (bs' := (bm 13 454)) rfl (.inl rfl) rfl (e_ixa (off := 0) (T := 25) (cs := [.s 0, .s 1]) tk rfl rfl (by kernel_rfl) (by kernel_rfl)) (by kernel_rfl) rfl (by kernel_rfl) ?_
       refine SD.takes tk D_6 [] kn0 [3] [] [] (bm 13 462) [(2, vp 3 0), (6, vs 0), (11, vs 1)] rfl (by kernel_rfl) (by kernel_rfl) (by kernel_rfl) ?_
       exact SD.vie D_6 [.g 0, .g 1, .g 2, .g 3] c_6_18 (by kernel_rfl)
     refine SW.eff D_6 (i := 5) (bs' := (bm 13 482)) rfl (.inl rfl) rfl (e_lit (sz := 1) (E := 5) (R := R8) (by_ := 1) tk [] ([] : (List Int)) (by kernel_rfl) trivial rfl (by kernel_rfl) (by kernel_rfl)) (by kernel_rfl) rfl (by kernel_rfl) ?_
     exact SD.vie D_6 [.g 0, .g 1, .g 2, .g 3, .g 4] c_6_20 (by kernel_rfl)
   refine SD.all4 (i := 0) (j := 2) (k := 5) (m := 7) (by kernel_rfl) ?_ ?_ ?_ ?_
   · refine SW.eff D_6 (i := 0) (bs' := (bm 13 67)) rfl (.inl rfl) rfl (e_lit (sz := 1) (E := 5) (R := R8) (by_ := 1) tk [] ([] : (List Int)) (by kernel_rfl) trivial rfl (by kernel_rfl) (by kernel_rfl)) (by kernel_rfl) rfl (by kernel_rfl) ?_
     refine SD.norm (itsN := [.rd 1 R8 f_1.Banks.1, .rd 1 R8 f_1.Banks.2, .blk 25 [.s 0, .s 1], .blk 25 [nl, nl], .own 1 5 R8 ([] : (List Int))]) (by kernel_rfl) ?_
     exact SD.vie D_6 [.g 0, .g 1, .g 2, .g 3, .g 4] c_6_15 (by kernel_rfl)
   · refine SW.eff D_6 (i := 2) (bs' := (bm 13 70)) rfl (.inl rfl) rfl (e_ixa (off := 0) (T := 25) (cs := [.s 0, .s 1]) tk rfl rfl (by kernel_rfl) (by kernel_rfl)) (by kernel_rfl) rfl (by kernel_rfl) ?_
     refine SD.norm (itsN := [.rd 1 R8 f_1.Banks.1, .rd 1 R8 f_1.Banks.2, .blk 25 [.s 0, .s 1], .blk 25 [nl, nl]]) (by kernel_rfl) ?_
     refine SD.takes tk D_6 [] kn0 [3] [] [] (bm 13 78) [(2, vp 3 0), (6, vs 0), (9, vp 2 0)] rfl (by kernel_rfl) (by kernel_rfl) (by kernel_rfl) ?_
     exact SD.vie D_6 [.g 0, .g 1, .g 2, .g 3] c_6_19 (by kernel_rfl)
   · refine SW.eff D_6 (i := 5) (bs' := (bm 13 98)) rfl (.inl rfl) rfl (e_lit (sz := 1) (E := 5) (R := R8) (by_ := 1) tk [] ([] : (List Int)) (by kernel_rfl) trivial rfl (by kernel_rfl) (by kernel_rfl)) (by kernel_rfl) rfl (by kernel_rfl) ?_
     refine SD.norm (itsN := [.rd 1 R8 f_1.Banks.1, .rd 1 R8 f_1.Banks.2, .blk 25 [.s 0, .s 1], .blk 25 [nl, nl], .own 1 5 R8 ([] : (List Int))]) (by kernel_rfl) ?_
     exact SD.vie D_6 [.g 0, .g 1, .g 2, .g 3, .g 4] c_6_21 (by kernel_rfl)
   refine SW.eff D_6 (i := 7) (bs' := (bm 13 194)) rfl (.inl rfl) rfl (e_ixa (off := 1) (T := 25) (cs := [.s 0, .s 1]) tk rfl rfl (by kernel_rfl) (by kernel_rfl)) (by kernel_rfl) rfl (by kernel_rfl) ?_
   refine SD.norm (itsN := [.rd 1 R8 f_1.Banks.1, .rd 1 R8 f_1.Banks.2, .blk 25 [.s 0, .s 1], .blk 25 [nl, nl]]) (by kernel_rfl) ?_
   refine SD.takes tk D_6 [] kn0 [8] [] [] (bm 13 450) [(2, vp 3 0), (4, vp 2 0), (11, vs 1)] rfl (by kernel_rfl) (by kernel_rfl) (by kernel_rfl) ?_
   exact SD.vie D_6 [.g 0, .g 1, .g 2, .g 3] c_6_22 (by kernel_rfl)
 rintro a w ⟨c_4, hp, h⟩
 refine h.go ?_
 obtain rfl := some_inv' hp
 exact SC.re (js := [.g 0, .g 1, .z 3, .z 4]) tk (by kernel_rfl)

theorem ok_wirelesslaw39_FlashKeeps (F : Nat) (size_1 : Int) (l_2 : (List T_wirelesslaw39_Step)) (r : Bool) (hp : wirelesslaw39_FlashKeeps F size_1 l_2 = some r) : Spec Tryd.prog 7 [vi .i64 size_1, vs 0] [.rd 3 R_T_wirelesslaw39_Step l_2] (vb r) [.gone] := by
 refine Spec.enter Tryd.func7 rfl Tryd.ntmps7 rfl rfl fun fx => ?_
 refine SC.r tk [(0, vi .i64 size_1), (1, vs 0)] [] [] [] (by kernel_rfl) ?_
 refine SC.seq ?_
 refine SC.seq ?_
 refine SC.reg ?_
 obtain ⟨x_3, e_x_3, hp⟩ := bind_inv hp
 refine SL.eff (e_c Tryd.call8 (ok_wirelesslaw39_lives F  _ e_x_3) [] [] (vb x_3) (by kernel_rfl) (.inl rfl)) rfl (by kernel_rfl) ?_
 refine SL.sim tk 1 [(0, vi .i64 size_1), (1, vs 0), (16, vb (!x_3))] [] [] [] (by kernel_rfl) ?_
 refine SL.nilThen ?_
 refine SC.if' rfl hp (fun hp => ?_) (fun hp => ?_)
 · refine SC.r tk [(4, vb false)] [] [] [] (by kernel_rfl) ?_
   obtain rfl := some_inv' hp
   exact SC.re (js := [.g 0]) tk (by kernel_rfl)
 refine SC.skipThen ?_
 refine SC.seq ?_
 refine SC.r tk [(0, vi .i64 size_1), (1, vs 0), (27, vb (((decide (size_1 < 64)) || (decide (size_1 > 4096))) || (decide ((len l_2) > 60))))] [] [] [] (by kernel_rfl) ?_
 refine SC.if' rfl hp (fun hp => ?_) (fun hp => ?_)
 · refine SC.r tk [(4, vb true)] [] [] [] (by kernel_rfl) ?_
   obtain rfl := some_inv' hp
   exact SC.re (js := [.g 0]) tk (by kernel_rfl)
 refine SC.skipThen ?_
 refine SC.seq ?_
 refine SC.reg ?_
 refine SL.sim tk 1 [(1, vs 0), (29, vi .i64 size_1)] [] [] [] (by kernel_rfl) ?_
 obtain ⟨x_4, e_x_4, hp⟩ := bind_inv hp
 refine SL.eff (e_c Tryd.call9 (ok_flash_Blank F size_1 _ e_x_4) [] [vi .i64 size_1] (.u [.inr [.s 1, .s 2], .inl (ci .i64 x_4.2)]) (by kernel_rfl) (.inl rfl)) rfl (by kernel_rfl) ?_
 refine SL.norm (itsN := [.rd 3 R_T_wirelesslaw39_Step l_2, .rd 1 R8 x_4.1.Banks.1, .rd 1 R8 x_4.1.Banks.2]) (by kernel_rfl) ?_
 refine SL.sim tk 3 [(1, vs 0), (31, .g [.s 1, .s 2]), (32, vi .i64 x_4.2)] [] [] [] (by kernel_rfl) ?_
 refine SL.eff (e_alloc (E := 25) tk [nl, nl] (by kernel_rfl)) rfl (by kernel_rfl) ?_
 refine SL.sim tk 2 [(1, vs 0), (5, vp 3 0)] [(3, 25, [.s 1, .s 2])] [] [] (by kernel_rfl) ?_
 refine SL.nilThen ?_
 refine SC.seq ?_
 refine SC.reg ?_
 refine SL.sim tk 1 [(1, vs 0), (34, .g [.s 1, .s 2])] [] [] [] (by kernel_rfl) ?_
 obtain ⟨x_5, e_x_5, hp⟩ := bind_inv hp
 refine SL.eff (e_c Tryd.call16 (ok_flash_Mount F x_4.1 _ e_x_5) [.g 1, .g 2] [.g [.s 1, .s 2]] (.u [.inr (C_api_Store x_5.1 (.s 4) (.s 5) (.s 6)), .inl (ci .i64 x_5.2)]) (by kernel_rfl) (.inl rfl)) rfl (by kernel_rfl) ?_
 refine SL.norm (itsN := [.rd 3 R_T_wirelesslaw39_Step l_2, .rd 1 R8 x_4.1.Banks.1, .rd 1 R8 x_4.1.Banks.2, .blk 25 [.s 1, .s 2], .rd 1 R8 x_5.1.Flash.Banks.1, .rd 1 R8 x_5.1.Flash.Banks.2, .rd 2 R_T_api_Item x_5.1.Items]) (by kernel_rfl) ?_
 refine SL.sim tk 3 [(1, vs 0), (36, .g (C_api_Store x_5.1 (.s 4) (.s 5) (.s 6))), (37, vi .i64 x_5.2)] [] [] [] (by kernel_rfl) ?_
 refine SL.eff (e_alloc (E := 40) tk [nl, nl, ci .i64 0, ci .i64 0, ci .i64 0, nl] (by kernel_rfl)) rfl (by kernel_rfl) ?_
 refine SL.sim tk 2 [(1, vs 0), (7, vp 7 0)] [(7, 40, (C_api_Store x_5.1 (.s 4) (.s 5) (.s 6)))] [] [] (by kernel_rfl) ?_
 refine SL.nilThen ?_
 refine SC.seq ?_
 refine SC.reg ?_
 refine SL.eff (e_lit (sz := 2) (E := 71) (R := R_T_api_Item) (by_ := 32) tk [] ([] : (List T_api_Item)) (by kernel_rfl) trivial rfl (by kernel_rfl) (by kernel_rfl)) rfl (by kernel_rfl) ?_
 refine SL.sim tk 1 [(1, vs 0), (7, vp 7 0), (9, vs 8)] [] [] [] (by kernel_rfl) ?_
 refine SL.nilThen ?_
 refine SC.cut (fun a w => wirelesslaw39_FlashKeeps_j1 F = some r ∧ A 100 1 fx [] [.gone] a w) ?_ ?_
 · refine SC.r tk [(1, vs 0), (7, vp 7 0), (9, vs 8), (10, vi .i64 0)] [] [] [] (by kernel_rfl) ?_
   refine SC.block ?_
   obtain ⟨o1, hi1, ho1⟩ := bind_inv hp
   clear hp
   refine SC.loop (fun n a w => ∃ (c_12 : T_api_Store) (l_13 : (List T_api_Item)) (x_14 : Int), iter (fun s => wirelesslaw39_FlashKeeps_l1 F l_2 s.1 s.2.1 s.2.2) n (c_12, l_13, x_14) = some o1 ∧ A 100 1 fx [(1, vs 0), (7, vp 1 0), (9, vs 5), (10, vi .i64 x_14)] [.rd 3 R_T_wirelesslaw39_Step l_2, .blk 40 (C_api_Store c_12 (.s 2) (.s 3) (.s 4)), .rd 1 R8 c_12.Flash.Banks.1, .rd 1 R8 c_12.Flash.Banks.2, .rd 2 R_T_api_Item c_12.Items, .rd 2 R_T_api_Item l_13] a w) F (fun a w h => ⟨x_5.1, ([] : (List T_api_Item)), 0, hi1, h.at (js := [.g 0, .g 7, .g 4, .g 5, .g 6, .z 8]) (by kernel_rfl)⟩) ?_
   rintro n1 a w ⟨c_12, l_13, x_14, hi1, h⟩
   obtain ⟨n1, q1, rfl, hp, hs1⟩ := iter_inv hi1
   replace hp : wirelesslaw39_FlashKeeps_l1 F l_2 c_12 l_13 x_14 = some q1 := hp
   clear hi1
   refine h.go ?_
   refine SC.seq ?_
   refine SC.r tk [(1, vs 0), (7, vp 1 0), (9, vs 5), (10, vi .i64 x_14), (42, vb (decide (x_14 < (len l_2))))] [] [] [] (by kernel_rfl) ?_
   refine SC.if' rfl hp (fun hp => ?_) (fun hp => ?_)
   · refine SC.skipThen ?_
     refine SC.seq ?_
     refine SC.block ?_
     refine SC.cut (fun a w => ∃ (c_21 : T_api_Store) (x_22 : Int), wirelesslaw39_FlashKeeps_j2 F l_2 c_12 l_13 x_14 c_21 x_22 = some q1 ∧ A 100 1 fx [(1, vs 0), (7, vp 1 0), (9, vs 5), (10, vi .i64 x_14), (11, vp 6 0), (12, vi .i64 x_22)] [.rd 3 R_T_wirelesslaw39_Step l_2, .blk 40 (C_api_Store c_12 (.s 2) (.s 3) (.s 4)), .rd 1 R8 c_12.Flash.Banks.1, .rd 1 R8 c_12.Flash.Banks.2, .rd 2 R_T_api_Item c_12.Items, .rd 2 R_T_api_Item l_13, .blk 40 (C_api_Store c_21 (.s 7) (.s 8) (.s 9)), .rd 1 R8 c_21.Flash.Banks.1, .rd 1 R8 c_21.Flash.Banks.2, .rd 2 R_T_api_Item c_21.Items] a w) ?_ ?_
     · obtain ⟨x_34, e_x_34, hp⟩ := bind_inv hp
       obtain ⟨x_35, e_x_35, hp⟩ := bind_inv hp
       refine SC.pre (pre_ix (i := 0) (iv := x_14) (sz := 3) (R := R_T_wirelesslaw39_Step) (l := l_2) (by kernel_rfl) rfl e_x_34) ?_
       refine SC.pre (pre_ix (i := 0) (iv := x_14) (sz := 3) (R := R_T_wirelesslaw39_Step) (l := l_2) (by kernel_rfl) rfl e_x_35) ?_
       refine SC.draw MO (bm 10 1023) (by kernel_rfl) fun kap_36 D_37 => ?_
       refine SD.takes tk D_37 [] kn0 [0, 1, 2, 3, 4, 5, 6, 7, 8, 9, 10] [.el 6, .el 8] [x_14, x_14] (bm 19 2047) [(1, vs 0), (7, vp 1 0), (9, vs 5), (10, vi .i64 x_14), (46, .g (C_api_Store c_12 (.s 2) (.s 3) (.s 4))), (51, vi .u16 x_34.Key), (56, vs 9)] rfl (by kernel_rfl) (by kernel_rfl) (by kernel_rfl) ?_
       obtain ⟨x_918, e_x_918, hp⟩ := bind_inv hp
       obtain ⟨x_998, e_x_998, hp⟩ := bind_inv hp
       refine SD.lay 0 (bm 19 524287) [(1, vs 0), (7, vp 1 0), (9, vs 5), (10, vi .i64 x_14), (11, vp 14 0), (12, vi .i64 x_998.2)] [.rd 3 R_T_wirelesslaw39_Step l_2, .blk 40 (C_api_Store c_12 (.s 2) (.s 3) (.s 4)), .rd 1 R8 c_12.Flash.Banks.1, .rd 1 R8 c_12.Flash.Banks.2, .rd 2 R_T_api_Item c_12.Items, .rd 2 R_T_api_Item l_13, .elt (some (0, x_14)) false (C_wirelesslaw39_Step x_34 (.s 7)), .rd 1 R8 x_34.Value, .elt (some (0, x_14)) false (C_wirelesslaw39_Step x_35 (.s 9)), .rd 1 R8 x_35.Value, .gone, .rd 1 R8 x_998.1.Flash.Banks.1, .rd 1 R8 x_998.1.Flash.Banks.2, .rd 2 R_T_api_Item x_998.1.Items, .blk 40 (C_api_Store x_998.1 (.s 11) (.s 12) (.s 13))] ?_ (fun c_37_0 => ?_)
       · refine SD.done (by kernel_rfl) fun a w h => ?_
         exact ⟨x_998.1, x_998.2, hp, h.at (js := [.g 0, .g 1, .g 2, .g 3, .g 4, .g 5, .g 14, .g 11, .g 12, .g 13]) (by kernel_rfl)⟩
       refine SD.lay 2 (bm 19 131071) [(1, vs 0), (7, vp 1 0), (9, vs 5), (10, vi .i64 x_14), (11, vp 14 0), (59, .g (C_api_Store x_998.1 (.s 11) (.s 12) (.s 13))), (60, vi .i64 x_998.2)] [.rd 3 R_T_wirelesslaw39_Step l_2, .blk 40 (C_api_Store c_12 (.s 2) (.s 3) (.s 4)), .rd 1 R8 c_12.Flash.Banks.1, .rd 1 R8 c_12.Flash.Banks.2, .rd 2 R_T_api_Item c_12.Items, .rd 2 R_T_api_Item l_13, .elt (some (0, x_14)) false (C_wirelesslaw39_Step x_34 (.s 7)), .rd 1 R8 x_34.Value, .elt (some (0, x_14)) false (C_wirelesslaw39_Step x_35 (.s 9)), .rd 1 R8 x_35.Value, .gone, .rd 1 R8 x_998.1.Flash.Banks.1, .rd 1 R8 x_998.1.Flash.Banks.2, .rd 2 R_T_api_Item x_998.1.Items, .blk 40 [nl, nl, ci .i64 0, ci .i64 0, ci .i64 0, nl]] ?_ (fun c_37_1 => ?_)
       · refine SD.all1 (i := 17) (by kernel_rfl) ?_
         refine SW.store D_37 tk (i := 17) (q := 14) (T := 40) (cs := (C_api_Store x_998.1 (.s 11) (.s 12) (.s 13))) (bs' := (bm 19 262143)) rfl (by kernel_rfl) rfl rfl (by kernel_rfl) ?_
         refine SD.takes tk D_37 [] kn0 [18] [] [] (bm 19 524287) [(1, vs 0), (7, vp 1 0), (9, vs 5), (10, vi .i64 x_14), (11, vp 14 0), (12, vi .i64 x_998.2)] rfl (by kernel_rfl) (by kernel_rfl) (by kernel_rfl) ?_
         exact SD.vie D_37 [.g 0, .g 1, .g 2, .g 3, .g 4, .g 5, .g 6, .g 7, .g 8, .g 9, .n, .g 11, .g 12, .g 13, .g 14] c_37_0 (by kernel_rfl)
       refine SD.lay 3 (bm 19 65535) [(1, vs 0), (7, vp 1 0), (9, vs 5), (10, vi .i64 x_14), (59, .g (C_api_Store x_998.1 (.s 11) (.s 12) (.s 13))), (60, vi .i64 x_998.2)] [.rd 3 R_T_wirelesslaw39_Step l_2, .blk 40 (C_api_Store c_12 (.s 2) (.s 3) (.s 4)), .rd 1 R8 c_12.Flash.Banks.1, .rd 1 R8 c_12.Flash.Banks.2, .rd 2 R_T_api_Item c_12.Items, .rd 2 R_T_api_Item l_13, .elt (some (0, x_14)) false (C_wirelesslaw39_Step x_34 (.s 7)), .rd 1 R8 x_34.Value, .elt (some (0, x_14)) false (C_wirelesslaw39_Step x_35 (.s 9)), .rd 1 R8 x_35.Value, .gone, .rd 1 R8 x_998.1.Flash.Banks.1, .rd 1 R8 x_998.1.Flash.Banks.2, .rd 2 R_T_api_Item x_998.1.Items] ?_ (fun c_37_2 => ?_)
       · refine SD.all1 (i := 16) (by kernel_rfl) ?_
         refine SW.eff D_37 (i := 16) (bs' := (bm 19 131071)) rfl (.inl rfl) rfl (e_alloc (E := 40) tk [nl, nl, ci .i64 0, ci .i64 0, ci .i64 0, nl] (by kernel_rfl)) (by kernel_rfl) rfl (by kernel_rfl) ?_
         exact SD.vie D_37 [.g 0, .g 1, .g 2, .g 3, .g 4, .g 5, .g 6, .g 7, .g 8, .g 9, .n, .g 11, .g 12, .g 13, .g 14] c_37_1 (by kernel_rfl)
       refine SD.lay 6 (bm 19 69631) [(1, vs 0), (7, vp 1 0), (9, vs 5), (10, vi .i64 x_14), (11, vp 11 0), (46, .g (C_api_Store c_12 (.s 2) (.s 3) (.s 4))), (51, vi .u16 x_34.Key), (57, vs 10)] [.rd 3 R_T_wirelesslaw39_Step l_2, .blk 40 (C_api_Store c_12 (.s 2) (.s 3) (.s 4)), .rd 1 R8 c_12.Flash.Banks.1, .rd 1 R8 c_12.Flash.Banks.2, .rd 2 R_T_api_Item c_12.Items, .rd 2 R_T_api_Item l_13, .elt (some (0, x_14)) false (C_wirelesslaw39_Step x_34 (.s 7)), .rd 1 R8 x_34.Value, .elt (some (0, x_14)) false (C_wirelesslaw39_Step x_35 (.s 9)), .rd 1 R8 x_35.Value, .rd 1 R8 x_918, .blk 40 [nl, nl, ci .i64 0, ci .i64 0, ci .i64 0, nl]] ?_ (fun c_37_3 => ?_)
       · refine SD.all1 (i := 12) (by kernel_rfl) ?_
         refine SW.eff D_37 (i := 12) (bs' := (bm 19 73727)) rfl (.inl rfl) rfl (e_c Tryd.call25 (ok_flash_Put F c_12 x_34.Key x_918 _ e_x_998) [.g 2, .g 3, .g 4, .g 10] [.g (C_api_Store c_12 (.s 2) (.s 3) (.s 4)), vi .u16 x_34.Key, vs 10] (.u [.inr (C_api_Store x_998.1 (.s 12) (.s 13) (.s 14)), .inl (ci .i64 x_998.2)]) (by kernel_rfl) (.inl rfl)) (by kernel_rfl) rfl (by kernel_rfl) ?_
         refine SD.takes tk D_37 [] kn0 [13, 14, 15] [] [] (bm 19 131071) [(1, vs 0), (7, vp 1 0), (9, vs 5), (10, vi .i64 x_14), (11, vp 11 0), (59, .g (C_api_Store x_998.1 (.s 12) (.s 13) (.s 14))), (60, vi .i64 x_998.2)] rfl (by kernel_rfl) (by kernel_rfl) (by kernel_rfl) ?_
         exact SD.vie D_37 [.g 0, .g 1, .g 2, .g 3, .g 4, .g 5, .g 6, .g 7, .g 8, .g 9, .n, .g 12, .g 13, .g 14, .g 11] c_37_1 (by kernel_rfl)
       refine SD.lay 7 (bm 19 4095) [(1, vs 0), (7, vp 1 0), (9, vs 5), (10, vi .i64 x_14), (46, .g (C_api_Store c_12 (.s 2) (.s 3) (.s 4))), (51, vi .u16 x_34.Key), (57, vs 10)] [.rd 3 R_T_wirelesslaw39_Step l_2, .blk 40 (C_api_Store c_12 (.s 2) (.s 3) (.s 4)), .rd 1 R8 c_12.Flash.Banks.1, .rd 1 R8 c_12.Flash.Banks.2, .rd 2 R_T_api_Item c_12.Items, .rd 2 R_T_api_Item l_13, .elt (some (0, x_14)) false (C_wirelesslaw39_Step x_34 (.s 7)), .rd 1 R8 x_34.Value, .elt (some (0, x_14)) false (C_wirelesslaw39_Step x_35 (.s 9)), .rd 1 R8 x_35.Value, .rd 1 R8 x_918] ?_ (fun c_37_4 => ?_)
       · refine SD.all2 (i := 12) (j := 16) (by kernel_rfl) ?_ ?_
         · refine SW.eff D_37 (i := 12) (bs' := (bm 19 8191)) rfl (.inl rfl) rfl (e_c Tryd.call25 (ok_flash_Put F c_12 x_34.Key x_918 _ e_x_998) [.g 2, .g 3, .g 4, .g 10] [.g (C_api_Store c_12 (.s 2) (.s 3) (.s 4)), vi .u16 x_34.Key, vs 10] (.u [.inr (C_api_Store x_998.1 (.s 11) (.s 12) (.s 13)), .inl (ci .i64 x_998.2)]) (by kernel_rfl) (.inl rfl)) (by kernel_rfl) rfl (by kernel_rfl) ?_
           refine SD.takes tk D_37 [] kn0 [13, 14, 15] [] [] (bm 19 65535) [(1, vs 0), (7, vp 1 0), (9, vs 5), (10, vi .i64 x_14), (59, .g (C_api_Store x_998.1 (.s 11) (.s 12) (.s 13))), (60, vi .i64 x_998.2)] rfl (by kernel_rfl) (by kernel_rfl) (by kernel_rfl) ?_
           exact SD.vie D_37 [.g 0, .g 1, .g 2, .g 3, .g 4, .g 5, .g 6, .g 7, .g 8, .g 9, .n, .g 11, .g 12, .g 13] c_37_2 (by kernel_rfl)
         refine SW.eff D_37 (i := 16) (bs' := (bm 19 69631)) rfl (.inl rfl) rfl (e_alloc (E := 40) tk [nl, nl, ci .i64 0, ci .i64 0, ci .i64 0, nl] (by kernel_rfl)) (by kernel_rfl) rfl (by kernel_rfl) ?_
         exact SD.vie D_37 [.g 0, .g 1, .g 2, .g 3, .g 4, .g 5, .g 6, .g 7, .g 8, .g 9, .g 10, .g 11] c_37_3 (by kernel_rfl)
       refine SD.lay 7 (bm 19 67583) [(1, vs 0), (7, vp 1 0), (9, vs 5), (10, vi .i64 x_14), (11, vp 10 0), (46, .g (C_api_Store c_12 (.s 2) (.s 3) (.s 4))), (51, vi .u16 x_34.Key), (56, vs 9)] [.rd 3 R_T_wirelesslaw39_Step l_2, .blk 40 (C_api_Store c_12 (.s 2) (.s 3) (.s 4)), .rd 1 R8 c_12.Flash.Banks.1, .rd 1 R8 c_12.Flash.Banks.2, .rd 2 R_T_api_Item c_12.Items, .rd 2 R_T_api_Item l_13, .elt (some (0, x_14)) false (C_wirelesslaw39_Step x_34 (.s 7)), .rd 1 R8 x_34.Value, .elt (some (0, x_14)) false (C_wirelesslaw39_Step x_35 (.s 9)), .rd 1 R8 x_35.Value, .blk 40 [nl, nl, ci .i64 0, ci .i64 0, ci .i64 0, nl]] ?_ (fun c_37_5 => ?_)
       · refine SD.all1 (i := 11) (by kernel_rfl) ?_
         refine SW.eff D_37 (i := 11) (bs' := (bm 19 69631)) rfl (.inl rfl) rfl (e_c Tryd.call11 (ok_wirelesslaw39_copied F x_35.Value _ e_x_918) [.g 9] [vs 9] (vs 11) (by kernel_rfl) (.inl rfl)) (by kernel_rfl) rfl (by kernel_rfl) ?_
         exact SD.vie D_37 [.g 0, .g 1, .g 2, .g 3, .g 4, .g 5, .g 6, .g 7, .g 8, .g 9, .g 11, .g 10] c_37_3 (by kernel_rfl)
       refine SD.all2 (i := 11) (j := 16) (by kernel_rfl) ?_ ?_
       · refine SW.eff D_37 (i := 11) (bs' := (bm 19 4095)) rfl (.inl rfl) rfl (e_c Tryd.call11 (ok_wirelesslaw39_copied F x_35.Value _ e_x_918) [.g 9] [vs 9] (vs 10) (by kernel_rfl) (.inl rfl)) (by kernel_rfl) rfl (by kernel_rfl) ?_
         exact SD.vie D_37 [.g 0, .g 1, .g 2, .g 3, .g 4, .g 5, .g 6, .g 7, .g 8, .g 9, .g 10] c_37_4 (by kernel_rfl)
       refine SW.eff D_37 (i := 16) (bs' := (bm 19 67583)) rfl (.inl rfl) rfl (e_alloc (E := 40) tk [nl, nl, ci .i64 0, ci .i64 0, ci .i64 0, nl] (by kernel_rfl)) (by kernel_rfl) rfl (by kernel_rfl) ?_
       exact SD.vie D_37 [.g 0, .g 1, .g 2, .g 3, .g 4, .g 5, .g 6, .g 7, .g 8, .g 9, .g 10] c_37_5 (by kernel_rfl)
     rintro a w ⟨c_21, x_22, hp, h⟩
     refine h.go ?_
     refine SC.cut (fun a w => ∃ (l_23 : (List T_api_Item)), wirelesslaw39_FlashKeeps_j3 F x_14 c_21 l_23 = some q1 ∧ A 100 1 fx [(1, vs 0), (7, vp 1 0), (9, vs 5), (10, vi .i64 x_14), (11, vp 6 0)] [.rd 3 R_T_wirelesslaw39_Step l_2, .blk 40 (C_api_Store c_12 (.s 2) (.s 3) (.s 4)), .rd 1 R8 c_12.Flash.Banks.1, .rd 1 R8 c_12.Flash.Banks.2, .rd 2 R_T_api_Item c_12.Items, .rd 2 R_T_api_Item l_23, .blk 40 (C_api_Store c_21 (.s 7) (.s 8) (.s 9)), .rd 1 R8 c_21.Flash.Banks.1, .rd 1 R8 c_21.Flash.Banks.2, .rd 2 R_T_api_Item c_21.Items] a w) ?_ ?_
     · refine SC.r tk [(1, vs 0), (7, vp 1 0), (9, vs 5), (10, vi .i64 x_14), (11, vp 6 0), (12, vi .i64 x_22), (62, vb (x_22 == 0))] [] [] [] (by kernel_rfl) ?_
       refine SC.if' rfl hp (fun hp => ?_) (fun hp => ?_)
       · refine SC.reg ?_
         obtain ⟨x_31, e_x_31, hp⟩ := bind_inv hp
         refine SL.pre (pre_ix (i := 0) (iv := x_14) (sz := 3) (R := R_T_wirelesslaw39_Step) (l := l_2) (by kernel_rfl) rfl e_x_31) ?_
         refine SL.sim tk 5 [(1, vs 0), (7, vp 1 0), (9, vs 5), (10, vi .i64 x_14), (11, vp 6 0), (63, vs 5), (67, .g (C_wirelesslaw39_Step x_31 (.s 11)))] [] [.el 10] [x_14] (by kernel_rfl) ?_
         obtain ⟨x_32, e_x_32, hp⟩ := bind_inv hp
         refine SL.eff (e_c Tryd.call29 (ok_wirelesslaw39_after F l_13 x_31 _ e_x_32) [.g 5, .g 11] [vs 5, .g (C_wirelesslaw39_Step x_31 (.s 11))] (vs 12) (by kernel_rfl) (.inl rfl)) rfl (by kernel_rfl) ?_
         refine SL.sim tk 1 [(1, vs 0), (7, vp 1 0), (9, vs 12), (10, vi .i64 x_14), (11, vp 6 0)] [] [] [] (by kernel_rfl) ?_
         refine SL.nilJ fun a w h => ?_
         exact ⟨x_32, hp, h.at (js := [.g 0, .g 1, .g 2, .g 3, .g 4, .g 12, .g 6, .g 7, .g 8, .g 9]) (by kernel_rfl)⟩
       refine SC.seq ?_
       refine SC.reg ?_
       refine SL.sim tk 2 [(1, vs 0), (7, vp 1 0), (9, vs 5), (10, vi .i64 x_14), (11, vp 6 0), (12, vi .i64 x_22), (69, .g (C_api_Store c_12 (.s 2) (.s 3) (.s 4))), (70, .g (C_api_Store c_21 (.s 7) (.s 8) (.s 9)))] [] [] [] (by kernel_rfl) ?_
       obtain ⟨x_33, e_x_33, hp⟩ := bind_inv hp
       refine SL.eff (e_c Tryd.call18 (ok_wirelessref39_Same F c_12 c_21 _ e_x_33) [.g 2, .g 3, .g 4, .g 7, .g 8, .g 9] [.g (C_api_Store c_12 (.s 2) (.s 3) (.s 4)), .g (C_api_Store c_21 (.s 7) (.s 8) (.s 9))] (vb x_33) (by kernel_rfl) (.inl rfl)) rfl (by kernel_rfl) ?_
       refine SL.sim tk 9 [(1, vs 0), (7, vp 1 0), (9, vs 5), (10, vi .i64 x_14), (11, vp 6 0), (80, vb ((!x_33) || ((x_22 != 8) && (x_22 != 4))))] [] [] [] (by kernel_rfl) ?_
       refine SL.nilThen ?_
       refine SC.if' rfl hp (fun hp => ?_) (fun hp => ?_)
       · refine SC.r tk [(4, vb false)] [] [] [] (by kernel_rfl) ?_
         have ho := done_inv hp hs1
         replace hp := ho1
         try rw [ho] at hp
         obtain rfl := some_inv' hp
         exact SC.re (js := [.g 0]) tk (by kernel_rfl)
       refine SC.skipJ fun a w h => ?_
       exact ⟨l_13, hp, h.at (js := [.g 0, .g 1, .g 2, .g 3, .g 4, .g 5, .g 6, .g 7, .g 8, .g 9]) (by kernel_rfl)⟩
     rintro a w ⟨l_23, hp, h⟩
     refine h.go ?_
     refine SC.r tk [(1, vs 0), (7, vp 1 0), (9, vs 5), (10, vi .i64 x_14)] [(1, 40, (C_api_Store c_21 (.s 7) (.s 8) (.s 9)))] [] [] (by kernel_rfl) ?_
     refine SC.seq ?_
     refine SC.reg ?_
     refine SL.sim tk 2 [(1, vs 0), (7, vp 1 0), (9, vs 5), (10, vi .i64 x_14), (84, .g [.s 7, .s 8])] [] [] [] (by kernel_rfl) ?_
     obtain ⟨x_24, e_x_24, hp⟩ := bind_inv hp
     refine SL.eff (e_c Tryd.call14 (ok_wirelessref39_Copy F c_21.Flash _ e_x_24) [.g 7, .g 8] [.g [.s 7, .s 8]] (.g [.s 10, .s 11]) (by kernel_rfl) (.inl rfl)) rfl (by kernel_rfl) ?_
     obtain ⟨x_25, e_x_25, hp⟩ := bind_inv hp
     refine SL.eff (e_c Tryd.call16 (ok_flash_Mount F x_24 _ e_x_25) [.g 10, .g 11] [.g [.s 10, .s 11]] (.u [.inr (C_api_Store x_25.1 (.s 12) (.s 13) (.s 14)), .inl (ci .i64 x_25.2)]) (by kernel_rfl) (.inl rfl)) rfl (by kernel_rfl) ?_
     refine SL.norm (itsN := [.rd 3 R_T_wirelesslaw39_Step l_2, .blk 40 (C_api_Store c_21 (.s 7) (.s 8) (.s 9)), .rd 1 R8 c_12.Flash.Banks.1, .rd 1 R8 c_12.Flash.Banks.2, .rd 2 R_T_api_Item c_12.Items, .rd 2 R_T_api_Item l_23, .blk 40 (C_api_Store c_21 (.s 7) (.s 8) (.s 9)), .rd 1 R8 c_21.Flash.Banks.1, .rd 1 R8 c_21.Flash.Banks.2, .rd 2 R_T_api_Item c_21.Items, .rd 1 R8 x_24.Banks.1, .rd 1 R8 x_24.Banks.2, .rd 1 R8 x_25.1.Flash.Banks.1, .rd 1 R8 x_25.1.Flash.Banks.2, .rd 2 R_T_api_Item x_25.1.Items]) (by kernel_rfl) ?_
     refine SL.sim tk 3 [(1, vs 0), (7, vp 1 0), (9, vs 5), (10, vi .i64 x_14), (87, .g (C_api_Store x_25.1 (.s 12) (.s 13) (.s 14))), (88, vi .i64 x_25.2)] [] [] [] (by kernel_rfl) ?_
     refine SL.eff (e_alloc (E := 40) tk [nl, nl, ci .i64 0, ci .i64 0, ci .i64 0, nl] (by kernel_rfl)) rfl (by kernel_rfl) ?_
     refine SL.sim tk 2 [(1, vs 0), (7, vp 1 0), (9, vs 5), (10, vi .i64 x_14), (13, vp 15 0)] [(15, 40, (C_api_Store x_25.1 (.s 12) (.s 13) (.s 14)))] [] [] (by kernel_rfl) ?_
     refine SL.nilThen ?_
     refine SC.seq ?_
     refine SC.reg ?_
     refine SL.sim tk 3 [(1, vs 0), (7, vp 1 0), (9, vs 5), (10, vi .i64 x_14), (13, vp 15 0), (90, vs 9), (91, vs 5)] [] [] [] (by kernel_rfl) ?_
     obtain ⟨x_26, e_x_26, hp⟩ := bind_inv hp
     refine SL.eff (e_c Tryd.call27 (ok_wirelessref39_SameItems F c_21.Items l_23 _ e_x_26) [.g 9, .g 5] [vs 9, vs 5] (vb x_26) (by kernel_rfl) (.inl rfl)) rfl (by kernel_rfl) ?_
     refine SL.norm (itsN := [.rd 3 R_T_wirelesslaw39_Step l_2, .blk 40 (C_api_Store c_21 (.s 7) (.s 8) (.s 9)), .rd 1 R8 c_12.Flash.Banks.1, .rd 1 R8 c_12.Flash.Banks.2, .rd 2 R_T_api_Item c_12.Items, .rd 2 R_T_api_Item l_23, .blk 40 (C_api_Store c_21 (.s 7) (.s 8) (.s 9)), .rd 1 R8 c_21.Flash.Banks.1, .rd 1 R8 c_21.Flash.Banks.2, .rd 2 R_T_api_Item c_21.Items, .rd 1 R8 x_24.Banks.1, .rd 1 R8 x_24.Banks.2, .rd 1 R8 x_25.1.Flash.Banks.1, .rd 1 R8 x_25.1.Flash.Banks.2, .rd 2 R_T_api_Item x_25.1.Items, .blk 40 (C_api_Store x_25.1 (.s 12) (.s 13) (.s 14))]) (by kernel_rfl) ?_
     refine SL.sim tk 2 [(1, vs 0), (7, vp 1 0), (9, vs 5), (10, vi .i64 x_14), (13, vp 15 0), (94, vb (!x_26))] [] [] [] (by kernel_rfl) ?_
     obtain ⟨z_28, hz, hpr⟩ := bind_inv hp
     clear hp
     refine SL.cutAt 5 (fun a w => A 100 1 fx [(1, vs 0), (7, vp 1 0), (9, vs 5), (10, vi .i64 x_14), (99, vb z_28)] [.rd 3 R_T_wirelesslaw39_Step l_2, .blk 40 (C_api_Store c_21 (.s 2) (.s 3) (.s 4)), .rd 1 R8 c_21.Flash.Banks.1, .rd 1 R8 c_21.Flash.Banks.2, .rd 2 R_T_api_Item c_21.Items, .rd 2 R_T_api_Item l_23] a w) ?_ ?_
     · have hp := hz
       rcases Bool.eq_false_or_eq_true ((!x_26)) with hg_27 | hg_27
       · replace hp := if_t hp hg_27
         refine SL.no rfl rfl hg_27 rfl ?_
         refine SL.no rfl rfl hg_27 rfl ?_
         refine SL.no rfl rfl hg_27 rfl ?_
         refine SL.no rfl rfl hg_27 rfl ?_
         refine SL.pickt rfl hg_27 rfl rfl ?_
         refine SL.nilJ fun a w h => ?_
         obtain rfl := some_inv' hp
         exact h.at (js := [.g 0, .g 1, .g 7, .g 8, .g 9, .g 5]) (by kernel_rfl)
       replace hp := if_f hp hg_27
       refine SL.yes rfl rfl hg_27 ?_
       refine SL.sim tk 1 [(1, vs 0), (7, vp 1 0), (9, vs 5), (10, vi .i64 x_14), (13, vp 15 0), (94, vb (!x_26)), (95, .g (C_api_Store c_21 (.s 7) (.s 8) (.s 9)))] [] [] [] (by kernel_rfl) ?_
       refine SL.yes rfl rfl hg_27 ?_
       refine SL.sim tk 1 [(1, vs 0), (7, vp 1 0), (9, vs 5), (10, vi .i64 x_14), (94, vb (!x_26)), (95, .g (C_api_Store c_21 (.s 7) (.s 8) (.s 9))), (96, .g (C_api_Store x_25.1 (.s 12) (.s 13) (.s 14)))] [] [] [] (by kernel_rfl) ?_
       refine SL.yes rfl rfl hg_27 ?_
       obtain ⟨x_30, e_x_30, hp⟩ := bind_inv hp
       refine SL.eff (e_c Tryd.call18 (ok_wirelessref39_Same F c_21 x_25.1 _ e_x_30) [.g 7, .g 8, .g 9, .g 12, .g 13, .g 14] [.g (C_api_Store c_21 (.s 7) (.s 8) (.s 9)), .g (C_api_Store x_25.1 (.s 12) (.s 13) (.s 14))] (vb x_30) (by kernel_rfl) (.inl rfl)) rfl (by kernel_rfl) ?_
       refine SL.yes rfl rfl hg_27 ?_
       refine SL.sim tk 1 [(1, vs 0), (7, vp 1 0), (9, vs 5), (10, vi .i64 x_14), (94, vb (!x_26)), (95, .g (C_api_Store c_21 (.s 7) (.s 8) (.s 9))), (96, .g (C_api_Store x_25.1 (.s 12) (.s 13) (.s 14))), (97, vb x_30), (98, vb (!x_30))] [] [] [] (by kernel_rfl) ?_
       refine SL.pickf rfl hg_27 rfl rfl ?_
       refine SL.nilJ fun a w h => ?_
       obtain rfl := some_inv' hp
       exact h.at (js := [.g 0, .g 1, .g 7, .g 8, .g 9, .g 5]) (by kernel_rfl)
     intro a w h
     have hp := hpr; clear hpr hz
     refine h.goL ?_
     refine SL.nilThen ?_
     refine SC.if' rfl hp (fun hp => ?_) (fun hp => ?_)
     · refine SC.r tk [(4, vb false)] [] [] [] (by kernel_rfl) ?_
       have ho := done_inv hp hs1
       replace hp := ho1
       try rw [ho] at hp
       obtain rfl := some_inv' hp
       exact SC.re (js := [.g 0]) tk (by kernel_rfl)
     refine SC.skipThen ?_
     refine SC.reg ?_
     refine SL.sim tk 3 [(1, vs 0), (7, vp 1 0), (9, vs 5), (10, vi .i64 (w64 (x_14 + 1)))] [] [] [] (by kernel_rfl) ?_
     refine SL.nilJ fun a w h => ?_
     exact ⟨n1, Nat.lt_succ_self _, c_21, l_23, w64 (x_14 + 1), next_inv hp hs1, h.at (js := [.g 0, .g 1, .g 2, .g 3, .g 4, .g 5]) (by kernel_rfl)⟩
   refine SC.exitJ rfl fun a w h => ?_
   have ho := done_inv hp hs1
   replace hp := ho1
   try rw [ho] at hp
   exact ⟨hp, h.at (js := [.g 0]) (by kernel_rfl)⟩
 rintro a w ⟨hp, h⟩
 refine h.go ?_
 refine SC.r tk [(4, vb true)] [] [] [] (by kernel_rfl) ?_
 obtain rfl := some_inv' hp
 exact SC.re (js := [.g 0]) tk (by kernel_rfl)
end V
end Go.Proofs.YtojcklkcjnnkaaaDoor
