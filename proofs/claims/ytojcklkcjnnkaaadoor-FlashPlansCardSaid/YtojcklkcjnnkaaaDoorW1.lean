/-
  Walks, written by program: each Go function returns what its pure twin says.
-/
import Derived.Test.YtojcklkcjnnkaaaDoorW0
namespace Go.Proofs.YtojcklkcjnnkaaaDoor
namespace V
theorem ok_flash_Apply (F : Nat) (f_1 : T_api_Flash) (w_2 : T_api_Write) (n_3 : Int) (r : T_api_Flash) (hp : flash_Apply F f_1 w_2 n_3 = some r) : Spec Tryd.prog 13 [.g [.s 0, .s 1], .g (C_api_Write w_2 (.s 2)), vi .i64 n_3] [.rd 1 R8 f_1.Banks.1, .rd 1 R8 f_1.Banks.2, .rd 1 R8 w_2.Bytes] (.g [.s 3, .s 4]) [.gone, .gone, .gone, .rd 1 R8 r.Banks.1, .rd 1 R8 r.Banks.2] := by
 refine Spec.enter Tryd.func13 rfl Tryd.ntmps13 rfl rfl fun fx => ?_
 refine SC.seq ?_
 refine SC.reg ?_
 refine SL.eff (e_box (E := 25) [.s 0, .s 1] (by kernel_rfl)) rfl (by kernel_rfl) ?_
 refine SL.eff (e_box (E := 27) (C_api_Write w_2 (.s 2)) (by kernel_rfl)) rfl (by kernel_rfl) ?_
 refine SL.eff (e_alloc (E := 25) tk [nl, nl] (by kernel_rfl)) rfl (by kernel_rfl) ?_
 refine SL.nilThen ?_
 refine SC.seq ?_
 refine SC.reg ?_
 refine SL.sim tk 1 [(2, vi .i64 n_3), (3, vp 3 0), (4, vp 4 0), (6, vp 5 0), (10, .g [.s 0, .s 1])] [] [] [] (by kernel_rfl) ?_
 obtain ⟨x_4, e_x_4, hp⟩ := bind_inv hp
 refine SL.eff (e_c Tryd.call33 (ok_flash_copied F f_1 _ e_x_4) [.g 0, .g 1] [.g [.s 0, .s 1]] (.g [.s 6, .s 7]) (by kernel_rfl) (.inl rfl)) rfl (by kernel_rfl) ?_
 refine SL.norm (itsN := [.rd 1 R8 f_1.Banks.1, .rd 1 R8 f_1.Banks.2, .rd 1 R8 w_2.Bytes, .blk 25 [.s 0, .s 1], .blk 27 (C_api_Write w_2 (.s 2)), .blk 25 [nl, nl], .own 1 5 R8 x_4.Banks.1, .own 1 5 R8 x_4.Banks.2]) (by kernel_rfl) ?_
 refine SL.sim tk 1 [(2, vi .i64 n_3), (3, vp 3 0), (4, vp 4 0), (6, vp 5 0)] [(3, 25, [.s 6, .s 7])] [] [] (by kernel_rfl) ?_
 refine SL.nilThen ?_
 refine SC.seq ?_
 refine SC.r tk [(2, vi .i64 n_3), (3, vp 3 0), (4, vp 4 0), (6, vp 5 0), (19, vb ((w_2.Bank != 0) && (w_2.Bank != 1)))] [] [] [] (by kernel_rfl) ?_
 refine SC.if' rfl hp (fun hp => ?_) (fun hp => ?_)
 · refine SC.r tk [(6, vp 5 0)] [(5, 25, [.s 6, .s 7])] [] [] (by kernel_rfl) ?_
   obtain rfl := some_inv' hp
   exact SC.re (js := [.g 0, .g 1, .g 2, .z 6, .z 7]) tk (by kernel_rfl)
 refine SC.skipThen ?_
 refine SC.seq ?_
 refine SC.reg ?_
 refine SL.sim tk 3 [(2, vi .i64 n_3), (3, vp 3 0), (4, vp 4 0), (6, vp 5 0), (22, vi .i64 w_2.Bank), (23, vp 3 0)] [] [] [] (by kernel_rfl) ?_
 rcases Bool.eq_false_or_eq_true (w_2.Bank == 0) with he_5 | he_5
 · replace hp := if_t hp he_5
   refine SL.eff (e_ixn (n := 0) (off := 0) (T := 25) (cs := [.s 6, .s 7]) tk (eq_of_beq he_5) rfl rfl (by kernel_rfl) (by kernel_rfl)) rfl (by kernel_rfl) ?_
   refine SL.sim tk 2 [(2, vi .i64 n_3), (3, vp 3 0), (4, vp 4 0), (6, vp 5 0), (7, vs 6)] [] [] [] (by kernel_rfl) ?_
   refine SL.nilThen ?_
   refine SC.r tk [(2, vi .i64 n_3), (3, vp 3 0), (4, vp 4 0), (6, vp 5 0), (7, vs 6), (8, vi .i64 (len w_2.Bytes))] [] [] [] (by kernel_rfl) ?_
   refine SC.cut (fun a w => ∃ (x_6 : Int), flash_Apply_j1 F w_2 n_3 x_4 x_6 = some r ∧ A 89 3 fx [(2, vi .i64 n_3), (3, vp 3 0), (4, vp 6 0), (6, vp 7 0), (7, vs 4), (8, vi .i64 x_6)] [.gone, .gone, .rd 1 R8 w_2.Bytes, .blk 25 [.s 4, .s 5], .own 1 5 R8 x_4.Banks.1, .own 1 5 R8 x_4.Banks.2, .blk 27 (C_api_Write w_2 (.s 2)), .blk 25 [nl, nl]] a w) ?_ ?_
   · refine SC.r tk [(2, vi .i64 n_3), (3, vp 3 0), (4, vp 4 0), (6, vp 5 0), (7, vs 6), (8, vi .i64 (len w_2.Bytes)), (30, vb w_2.Erase)] [] [] [] (by kernel_rfl) ?_
     refine SC.if' rfl hp (fun hp => ?_) (fun hp => ?_)
     · refine SC.reg ?_
       refine SL.sim tk 3 [(2, vi .i64 n_3), (3, vp 3 0), (4, vp 4 0), (6, vp 5 0), (7, vs 6), (8, vi .i64 (len x_4.Banks.1))] [] [] [] (by kernel_rfl) ?_
       refine SL.nilJ fun a w h => ?_
       exact ⟨len x_4.Banks.1, hp, h.at (js := [.g 0, .g 1, .g 2, .g 3, .g 6, .g 7, .g 4, .g 5]) (by kernel_rfl)⟩
     refine SC.skipJ fun a w h => ?_
     exact ⟨len w_2.Bytes, hp, h.at (js := [.g 0, .g 1, .g 2, .g 3, .g 6, .g 7, .g 4, .g 5]) (by kernel_rfl)⟩
   rintro a w ⟨x_6, hp, h⟩
   refine h.go ?_
   refine SC.cut (fun a w => ∃ (x_7 : Int), flash_Apply_j2 F w_2 x_4 x_7 = some r ∧ A 89 3 fx [(2, vi .i64 x_7), (3, vp 3 0), (4, vp 6 0), (6, vp 7 0), (7, vs 4)] [.gone, .gone, .rd 1 R8 w_2.Bytes, .blk 25 [.s 4, .s 5], .own 1 5 R8 x_4.Banks.1, .own 1 5 R8 x_4.Banks.2, .blk 27 (C_api_Write w_2 (.s 2)), .blk 25 [nl, nl]] a w) ?_ ?_
   · refine SC.r tk [(2, vi .i64 n_3), (3, vp 3 0), (4, vp 6 0), (6, vp 7 0), (7, vs 4), (8, vi .i64 x_6), (39, vb ((decide (n_3 < 0)) || (decide (n_3 > x_6))))] [] [] [] (by kernel_rfl) ?_
     refine SC.if' rfl hp (fun hp => ?_) (fun hp => ?_)
     · refine SC.reg ?_
       refine SL.sim tk 2 [(2, vi .i64 x_6), (3, vp 3 0), (4, vp 6 0), (6, vp 7 0), (7, vs 4)] [] [] [] (by kernel_rfl) ?_
       refine SL.nilJ fun a w h => ?_
       exact ⟨x_6, hp, h.at (js := [.g 0, .g 1, .g 2, .g 3, .g 4, .g 5, .g 6, .g 7]) (by kernel_rfl)⟩
     refine SC.skipJ fun a w h => ?_
     exact ⟨n_3, hp, h.at (js := [.g 0, .g 1, .g 2, .g 3, .g 4, .g 5, .g 6, .g 7]) (by kernel_rfl)⟩
   rintro a w ⟨x_7, hp, h⟩
   refine h.go ?_
   refine SC.cut (fun a w => ∃ (l_8 : (List Int)), flash_Apply_j3 F x_4 l_8 = some r ∧ A 89 3 fx [(3, vp 3 0), (6, vp 6 0)] [.gone, .gone, .gone, .blk 25 [.s 4, .s 5], .own 1 5 R8 l_8, .own 1 5 R8 x_4.Banks.2, .blk 25 [nl, nl]] a w) ?_ ?_
   · refine SC.r tk [(3, vp 3 0), (4, vp 6 0), (6, vp 7 0), (7, vs 4), (41, vi .i64 x_7), (42, vi .i64 0)] [] [] [] (by kernel_rfl) ?_
     refine SC.block ?_
     obtain ⟨o1, hi1, ho1⟩ := bind_inv hp
     clear hp
     refine SC.loop (fun n a w => ∃ (l_9 : (List Int)) (x_10 : Int), iter (fun s => flash_Apply_l1 F w_2 x_7 s.1 s.2) n (l_9, x_10) = some o1 ∧ A 89 3 fx [(3, vp 3 0), (4, vp 6 0), (6, vp 7 0), (7, vs 4), (41, vi .i64 x_7), (42, vi .i64 x_10)] [.gone, .gone, .rd 1 R8 w_2.Bytes, .blk 25 [.s 4, .s 5], .own 1 5 R8 l_9, .own 1 5 R8 x_4.Banks.2, .blk 27 (C_api_Write w_2 (.s 2)), .blk 25 [nl, nl]] a w) F (fun a w h => ⟨x_4.Banks.1, 0, hi1, h.at (js := [.g 0, .g 1, .g 2, .g 3, .g 4, .g 5, .g 6, .g 7]) (by kernel_rfl)⟩) ?_
     rintro n1 a w ⟨l_9, x_10, hi1, h⟩
     obtain ⟨n1, q1, rfl, hp, hs1⟩ := iter_inv hi1
     replace hp : flash_Apply_l1 F w_2 x_7 l_9 x_10 = some q1 := hp
     clear hi1
     refine h.go ?_
     refine SC.r tk [(3, vp 3 0), (4, vp 6 0), (6, vp 7 0), (7, vs 4), (41, vi .i64 x_7), (42, vi .i64 x_10), (43, vb (decide (x_10 < x_7)))] [] [] [] (by kernel_rfl) ?_
     refine SC.seq ?_
     refine SC.if' rfl hp (fun hp => ?_) (fun hp => ?_)
     · refine SC.skipThen ?_
       refine SC.cut (fun a w => ∃ (l_11 : (List Int)), flash_Apply_j4 F x_10 l_11 = some q1 ∧ A 89 3 fx [(3, vp 3 0), (4, vp 6 0), (6, vp 7 0), (7, vs 4), (41, vi .i64 x_7), (42, vi .i64 x_10)] [.gone, .gone, .rd 1 R8 w_2.Bytes, .blk 25 [.s 4, .s 5], .own 1 5 R8 l_11, .own 1 5 R8 x_4.Banks.2, .blk 27 (C_api_Write w_2 (.s 2)), .blk 25 [nl, nl]] a w) ?_ ?_
       · refine SC.block ?_
         refine SC.r tk [(3, vp 3 0), (4, vp 6 0), (6, vp 7 0), (7, vs 4), (9, vi .i64 x_10), (41, vi .i64 x_7), (42, vi .i64 x_10)] [] [] [] (by kernel_rfl) ?_
         refine SC.block ?_
         refine SC.r tk [(3, vp 3 0), (4, vp 6 0), (6, vp 7 0), (7, vs 4), (9, vi .i64 x_10), (41, vi .i64 x_7), (42, vi .i64 x_10), (45, vb w_2.Erase)] [] [] [] (by kernel_rfl) ?_
         refine SC.if' rfl hp (fun hp => ?_) (fun hp => ?_)
         · refine SC.reg ?_
           obtain ⟨x_12, e_x_12, hp⟩ := bind_inv hp
           refine SL.pre (pre_ixo (i := 4) (iv := x_10) (sz := 1) (E := 5) (R := R8) (l := l_9) (by kernel_rfl) rfl e_x_12) ?_
           refine SL.sim tk 3 [(3, vp 3 0), (4, vp 6 0), (6, vp 7 0), (7, vs 4), (41, vi .i64 x_7), (42, vi .i64 x_10), (50, vp 8 0)] [] [.el 8] [x_10] (by kernel_rfl) ?_
           obtain ⟨l_13, e_l_13, hp⟩ := bind_inv hp
           refine SL.eff0 (e_updf (sz := 1) (R := R8) (i := 4) (iv := x_10) (cs1 := [ci .u8 255]) (e := 255) tk rfl rfl rfl (by kernel_rfl) rfl rfl rfl Clo.int (by kernel_rfl) (by kernel_rfl) e_l_13) ?_
           refine SL.nilJ fun a w h => ?_
           exact ⟨l_13, hp, h.at (js := [.g 0, .g 1, .g 2, .g 3, .g 4, .g 5, .g 6, .g 7]) (by kernel_rfl)⟩
         refine SC.r tk [(3, vp 3 0), (4, vp 6 0), (6, vp 7 0), (7, vs 4), (9, vi .i64 x_10), (41, vi .i64 x_7), (42, vi .i64 x_10), (51, vb (((decide (w_2.Offset < (len l_9))) && (decide ((w64 (w_2.Offset + x_10)) ≥ 0))) && (decide ((w64 (w_2.Offset + x_10)) < (len l_9)))))] [] [] [] (by kernel_rfl) ?_
         refine SC.if' rfl hp (fun hp => ?_) (fun hp => ?_)
         · obtain ⟨x_14, e_x_14, hp⟩ := bind_inv hp
           refine SC.pre (pre_ix (i := 2) (iv := x_10) (sz := 1) (R := R8) (l := w_2.Bytes) (by kernel_rfl) rfl e_x_14) ?_
           refine SC.draw MO (bm 9 484) (by kernel_rfl) fun kap_15 D_16 => ?_
           refine SD.takes tk D_16 [] kn0 [0, 1, 2, 3, 4, 7, 8, 9, 10, 11] [.el 8] [x_10] (bm 15 3999) [(3, vp 3 0), (4, vp 6 0), (6, vp 7 0), (7, vs 4), (41, vi .i64 x_7), (42, vi .i64 x_10), (73, vs 4), (77, vi .i64 (w64 (w_2.Offset + x_10))), (84, vi .u8 x_14)] rfl (by kernel_rfl) (by kernel_rfl) (by kernel_rfl) ?_
           obtain ⟨x_17, e_x_17, hp⟩ := bind_inv hp
           refine SD.all1 (i := 5) (by kernel_rfl) ?_
           refine SW.eff D_16 (i := 5) (bs' := (bm 15 4031)) rfl (.inl rfl) rfl (e_ixp (sz := 1) (E := 5) (R := R8) (by_ := 1) (l := l_9) tk rfl rfl rfl e_x_17 (by kernel_rfl)) (by kernel_rfl) rfl (by kernel_rfl) ?_
           obtain ⟨x_18, e_x_18, hp⟩ := bind_inv hp
           refine SD.all1 (i := 6) (by kernel_rfl) ?_
           refine SW.eff D_16 (i := 6) (bs' := (bm 15 4095)) rfl (.inl rfl) rfl (e_ldp1 (E := 5) (R := R8) (i := 4) (iv := w64 (w_2.Offset + x_10)) (l := l_9) tk rfl rfl e_x_18 rfl (by kernel_rfl) (by kernel_rfl) rfl) (by kernel_rfl) rfl (by kernel_rfl) ?_
           refine SD.norm (itsN := [.gone, .gone, .rd 1 R8 w_2.Bytes, .blk 25 [.s 4, .s 5], .own 1 5 R8 l_9, .own 1 5 R8 x_4.Banks.2, .blk 27 (C_api_Write w_2 (.s 2)), .blk 25 [nl, nl], .elt (some (2, x_10)) false [ci .u8 x_14], .gone]) (by kernel_rfl) ?_
           refine SD.takes tk D_16 [] kn0 [12] [] [] (bm 15 8191) [(3, vp 3 0), (4, vp 6 0), (6, vp 7 0), (7, vs 4), (41, vi .i64 x_7), (42, vi .i64 x_10), (73, vs 4), (77, vi .i64 (w64 (w_2.Offset + x_10))), (85, vi .u8 (iand .u8 x_18 x_14))] rfl (by kernel_rfl) (by kernel_rfl) (by kernel_rfl) ?_
           obtain ⟨x_19, e_x_19, hp⟩ := bind_inv hp
           refine SD.all1 (i := 13) (by kernel_rfl) ?_
           refine SW.eff D_16 (i := 13) (bs' := (bm 15 16383)) rfl (.inl rfl) rfl (e_ixp (sz := 1) (E := 5) (R := R8) (by_ := 1) (l := l_9) tk rfl rfl rfl e_x_19 (by kernel_rfl)) (by kernel_rfl) rfl (by kernel_rfl) ?_
           obtain ⟨l_20, e_l_20, hp⟩ := bind_inv hp
           refine SD.all1 (i := 14) (by kernel_rfl) ?_
           refine SW.effS D_16 (i := 14) (bs' := (bm 15 32767)) rfl (e_stp (sz := 1) (E := 5) (R := R8) (i := 4) (iv := w64 (w_2.Offset + x_10)) (l := l_9) (e := iand .u8 x_18 x_14) tk rfl rfl rfl rfl Clo.int (by kernel_rfl) (by kernel_rfl) e_l_20) rfl (by kernel_rfl) ?_
           refine SD.norm (itsN := [.gone, .gone, .rd 1 R8 w_2.Bytes, .blk 25 [.s 4, .s 5], .own 1 5 R8 l_20, .own 1 5 R8 x_4.Banks.2, .blk 27 (C_api_Write w_2 (.s 2)), .blk 25 [nl, nl], .elt (some (2, x_10)) false [ci .u8 x_14], .gone]) (by kernel_rfl) ?_
           refine SD.done (by kernel_rfl) fun a w h => ?_
           exact ⟨l_20, hp, h.at (js := [.g 0, .g 1, .g 2, .g 3, .g 4, .g 5, .g 6, .g 7]) (by kernel_rfl)⟩
         refine SC.skipJ fun a w h => ?_
         exact ⟨l_9, hp, h.at (js := [.g 0, .g 1, .g 2, .g 3, .g 4, .g 5, .g 6, .g 7]) (by kernel_rfl)⟩
       rintro a w ⟨l_11, hp, h⟩
       refine h.go ?_
       refine SC.reg ?_
       refine SL.sim tk 2 [(3, vp 3 0), (4, vp 6 0), (6, vp 7 0), (7, vs 4), (41, vi .i64 x_7), (42, vi .i64 (w64 (x_10 + 1)))] [] [] [] (by kernel_rfl) ?_
       refine SL.nilJ fun a w h => ?_
       exact ⟨n1, Nat.lt_succ_self _, l_11, w64 (x_10 + 1), next_inv hp hs1, h.at (js := [.g 0, .g 1, .g 2, .g 3, .g 4, .g 5, .g 6, .g 7]) (by kernel_rfl)⟩
     refine SC.exitJ rfl fun a w h => ?_
     have ho := done_inv hp hs1
     replace hp := ho1
     try rw [ho] at hp
     exact ⟨l_9, hp, h.at (js := [.g 0, .g 1, .g 2, .g 3, .g 4, .g 5, .g 7]) (by kernel_rfl)⟩
   rintro a w ⟨l_8, hp, h⟩
   refine h.go ?_
   refine SC.r tk [(6, vp 6 0)] [(6, 25, [.s 4, .s 5])] [] [] (by kernel_rfl) ?_
   obtain rfl := some_inv' hp
   exact SC.re (js := [.g 0, .g 1, .g 2, .z 4, .z 5]) tk (by kernel_rfl)
 replace hp := if_f hp he_5
 rcases Bool.eq_false_or_eq_true (w_2.Bank == 1) with he_21 | he_21
 · replace hp := if_t hp he_21
   refine SL.eff (e_ixn (n := 1) (off := 1) (T := 25) (cs := [.s 6, .s 7]) tk (eq_of_beq he_21) rfl rfl (by kernel_rfl) (by kernel_rfl)) rfl (by kernel_rfl) ?_
   refine SL.sim tk 2 [(2, vi .i64 n_3), (3, vp 3 0), (4, vp 4 0), (6, vp 5 0), (7, vs 7)] [] [] [] (by kernel_rfl) ?_
   refine SL.nilThen ?_
   refine SC.r tk [(2, vi .i64 n_3), (3, vp 3 0), (4, vp 4 0), (6, vp 5 0), (7, vs 7), (8, vi .i64 (len w_2.Bytes))] [] [] [] (by kernel_rfl) ?_
   refine SC.cut (fun a w => ∃ (x_22 : Int), flash_Apply_j5 F w_2 n_3 x_4 x_22 = some r ∧ A 89 3 fx [(2, vi .i64 n_3), (3, vp 3 0), (4, vp 6 0), (6, vp 7 0), (7, vs 5), (8, vi .i64 x_22)] [.gone, .gone, .rd 1 R8 w_2.Bytes, .blk 25 [.s 4, .s 5], .own 1 5 R8 x_4.Banks.1, .own 1 5 R8 x_4.Banks.2, .blk 27 (C_api_Write w_2 (.s 2)), .blk 25 [nl, nl]] a w) ?_ ?_
   · refine SC.r tk [(2, vi .i64 n_3), (3, vp 3 0), (4, vp 4 0), (6, vp 5 0), (7, vs 7), (8, vi .i64 (len w_2.Bytes)), (30, vb w_2.Erase)] [] [] [] (by kernel_rfl) ?_
     refine SC.if' rfl hp (fun hp => ?_) (fun hp => ?_)
     · refine SC.reg ?_
       refine SL.sim tk 3 [(2, vi .i64 n_3), (3, vp 3 0), (4, vp 4 0), (6, vp 5 0), (7, vs 7), (8, vi .i64 (len x_4.Banks.2))] [] [] [] (by kernel_rfl) ?_
       refine SL.nilJ fun a w h => ?_
       exact ⟨len x_4.Banks.2, hp, h.at (js := [.g 0, .g 1, .g 2, .g 3, .g 6, .g 7, .g 4, .g 5]) (by kernel_rfl)⟩
     refine SC.skipJ fun a w h => ?_
     exact ⟨len w_2.Bytes, hp, h.at (js := [.g 0, .g 1, .g 2, .g 3, .g 6, .g 7, .g 4, .g 5]) (by kernel_rfl)⟩
   rintro a w ⟨x_22, hp, h⟩
   refine h.go ?_
   refine SC.cut (fun a w => ∃ (x_23 : Int), flash_Apply_j6 F w_2 x_4 x_23 = some r ∧ A 89 3 fx [(2, vi .i64 x_23), (3, vp 3 0), (4, vp 6 0), (6, vp 7 0), (7, vs 5)] [.gone, .gone, .rd 1 R8 w_2.Bytes, .blk 25 [.s 4, .s 5], .own 1 5 R8 x_4.Banks.1, .own 1 5 R8 x_4.Banks.2, .blk 27 (C_api_Write w_2 (.s 2)), .blk 25 [nl, nl]] a w) ?_ ?_
   · refine SC.r tk [(2, vi .i64 n_3), (3, vp 3 0), (4, vp 6 0), (6, vp 7 0), (7, vs 5), (8, vi .i64 x_22), (39, vb ((decide (n_3 < 0)) || (decide (n_3 > x_22))))] [] [] [] (by kernel_rfl) ?_
     refine SC.if' rfl hp (fun hp => ?_) (fun hp => ?_)
     · refine SC.reg ?_
       refine SL.sim tk 2 [(2, vi .i64 x_22), (3, vp 3 0), (4, vp 6 0), (6, vp 7 0), (7, vs 5)] [] [] [] (by kernel_rfl) ?_
       refine SL.nilJ fun a w h => ?_
       exact ⟨x_22, hp, h.at (js := [.g 0, .g 1, .g 2, .g 3, .g 4, .g 5, .g 6, .g 7]) (by kernel_rfl)⟩
     refine SC.skipJ fun a w h => ?_
     exact ⟨n_3, hp, h.at (js := [.g 0, .g 1, .g 2, .g 3, .g 4, .g 5, .g 6, .g 7]) (by kernel_rfl)⟩
   rintro a w ⟨x_23, hp, h⟩
   refine h.go ?_
   refine SC.cut (fun a w => ∃ (l_24 : (List Int)), flash_Apply_j7 F x_4 l_24 = some r ∧ A 89 3 fx [(3, vp 3 0), (6, vp 6 0)] [.gone, .gone, .gone, .blk 25 [.s 4, .s 5], .own 1 5 R8 x_4.Banks.1, .own 1 5 R8 l_24, .blk 25 [nl, nl]] a w) ?_ ?_
   · refine SC.r tk [(3, vp 3 0), (4, vp 6 0), (6, vp 7 0), (7, vs 5), (41, vi .i64 x_23), (42, vi .i64 0)] [] [] [] (by kernel_rfl) ?_
     refine SC.block ?_
     obtain ⟨o2, hi2, ho2⟩ := bind_inv hp
     clear hp
     refine SC.loop (fun n a w => ∃ (l_25 : (List Int)) (x_26 : Int), iter (fun s => flash_Apply_l2 F w_2 x_23 s.1 s.2) n (l_25, x_26) = some o2 ∧ A 89 3 fx [(3, vp 3 0), (4, vp 6 0), (6, vp 7 0), (7, vs 5), (41, vi .i64 x_23), (42, vi .i64 x_26)] [.gone, .gone, .rd 1 R8 w_2.Bytes, .blk 25 [.s 4, .s 5], .own 1 5 R8 x_4.Banks.1, .own 1 5 R8 l_25, .blk 27 (C_api_Write w_2 (.s 2)), .blk 25 [nl, nl]] a w) F (fun a w h => ⟨x_4.Banks.2, 0, hi2, h.at (js := [.g 0, .g 1, .g 2, .g 3, .g 4, .g 5, .g 6, .g 7]) (by kernel_rfl)⟩) ?_
     rintro n2 a w ⟨l_25, x_26, hi2, h⟩
     obtain ⟨n2, q2, rfl, hp, hs2⟩ := iter_inv hi2
     replace hp : flash_Apply_l2 F w_2 x_23 l_25 x_26 = some q2 := hp
     clear hi2
     refine h.go ?_
     refine SC.r tk [(3, vp 3 0), (4, vp 6 0), (6, vp 7 0), (7, vs 5), (41, vi .i64 x_23), (42, vi .i64 x_26), (43, vb (decide (x_26 < x_23)))] [] [] [] (by kernel_rfl) ?_
     refine SC.seq ?_
     refine SC.if' rfl hp (fun hp => ?_) (fun hp => ?_)
     · refine SC.skipThen ?_
       refine SC.cut (fun a w => ∃ (l_27 : (List Int)), flash_Apply_j8 F x_26 l_27 = some q2 ∧ A 89 3 fx [(3, vp 3 0), (4, vp 6 0), (6, vp 7 0), (7, vs 5), (41, vi .i64 x_23), (42, vi .i64 x_26)] [.gone, .gone, .rd 1 R8 w_2.Bytes, .blk 25 [.s 4, .s 5], .own 1 5 R8 x_4.Banks.1, .own 1 5 R8 l_27, .blk 27 (C_api_Write w_2 (.s 2)), .blk 25 [nl, nl]] a w) ?_ ?_
       · refine SC.block ?_
         refine SC.r tk [(3, vp 3 0), (4, vp 6 0), (6, vp 7 0), (7, vs 5), (9, vi .i64 x_26), (41, vi .i64 x_23), (42, vi .i64 x_26)] [] [] [] (by kernel_rfl) ?_
         refine SC.block ?_
         refine SC.r tk [(3, vp 3 0), (4, vp 6 0), (6, vp 7 0), (7, vs 5), (9, vi .i64 x_26), (41, vi .i64 x_23), (42, vi .i64 x_26), (45, vb w_2.Erase)] [] [] [] (by kernel_rfl) ?_
         refine SC.if' rfl hp (fun hp => ?_) (fun hp => ?_)
         · refine SC.reg ?_
           obtain ⟨x_28, e_x_28, hp⟩ := bind_inv hp
           refine SL.pre (pre_ixo (i := 5) (iv := x_26) (sz := 1) (E := 5) (R := R8) (l := l_25) (by kernel_rfl) rfl e_x_28) ?_
           refine SL.sim tk 3 [(3, vp 3 0), (4, vp 6 0), (6, vp 7 0), (7, vs 5), (41, vi .i64 x_23), (42, vi .i64 x_26), (50, vp 8 0)] [] [.el 8] [x_26] (by kernel_rfl) ?_
           obtain ⟨l_29, e_l_29, hp⟩ := bind_inv hp
           refine SL.eff0 (e_updf (sz := 1) (R := R8) (i := 5) (iv := x_26) (cs1 := [ci .u8 255]) (e := 255) tk rfl rfl rfl (by kernel_rfl) rfl rfl rfl Clo.int (by kernel_rfl) (by kernel_rfl) e_l_29) ?_
           refine SL.nilJ fun a w h => ?_
           exact ⟨l_29, hp, h.at (js := [.g 0, .g 1, .g 2, .g 3, .g 4, .g 5, .g 6, .g 7]) (by kernel_rfl)⟩
         refine SC.r tk [(3, vp 3 0), (4, vp 6 0), (6, vp 7 0), (7, vs 5), (9, vi .i64 x_26), (41, vi .i64 x_23), (42, vi .i64 x_26), (51, vb (((decide (w_2.Offset < (len l_25))) && (decide ((w64 (w_2.Offset + x_26)) ≥ 0))) && (decide ((w64 (w_2.Offset + x_26)) < (len l_25)))))] [] [] [] (by kernel_rfl) ?_
         refine SC.if' rfl hp (fun hp => ?_) (fun hp => ?_)
         · obtain ⟨x_30, e_x_30, hp⟩ := bind_inv hp
           refine SC.pre (pre_ix (i := 2) (iv := x_26) (sz := 1) (R := R8) (l := w_2.Bytes) (by kernel_rfl) rfl e_x_30) ?_
           refine SC.draw MO (bm 9 468) (by kernel_rfl) fun kap_31 D_32 => ?_
           refine SD.takes tk D_32 [] kn0 [0, 1, 2, 3, 4, 7, 8, 9, 10, 11] [.el 8] [x_26] (bm 15 3999) [(3, vp 3 0), (4, vp 6 0), (6, vp 7 0), (7, vs 5), (41, vi .i64 x_23), (42, vi .i64 x_26), (73, vs 5), (77, vi .i64 (w64 (w_2.Offset + x_26))), (84, vi .u8 x_30)] rfl (by kernel_rfl) (by kernel_rfl) (by kernel_rfl) ?_
           obtain ⟨x_33, e_x_33, hp⟩ := bind_inv hp
           refine SD.all1 (i := 5) (by kernel_rfl) ?_
           refine SW.eff D_32 (i := 5) (bs' := (bm 15 4031)) rfl (.inl rfl) rfl (e_ixp (sz := 1) (E := 5) (R := R8) (by_ := 1) (l := l_25) tk rfl rfl rfl e_x_33 (by kernel_rfl)) (by kernel_rfl) rfl (by kernel_rfl) ?_
           obtain ⟨x_34, e_x_34, hp⟩ := bind_inv hp
           refine SD.all1 (i := 6) (by kernel_rfl) ?_
           refine SW.eff D_32 (i := 6) (bs' := (bm 15 4095)) rfl (.inl rfl) rfl (e_ldp1 (E := 5) (R := R8) (i := 5) (iv := w64 (w_2.Offset + x_26)) (l := l_25) tk rfl rfl e_x_34 rfl (by kernel_rfl) (by kernel_rfl) rfl) (by kernel_rfl) rfl (by kernel_rfl) ?_
           refine SD.norm (itsN := [.gone, .gone, .rd 1 R8 w_2.Bytes, .blk 25 [.s 4, .s 5], .own 1 5 R8 x_4.Banks.1, .own 1 5 R8 l_25, .blk 27 (C_api_Write w_2 (.s 2)), .blk 25 [nl, nl], .elt (some (2, x_26)) false [ci .u8 x_30], .gone]) (by kernel_rfl) ?_
           refine SD.takes tk D_32 [] kn0 [12] [] [] (bm 15 8191) [(3, vp 3 0), (4, vp 6 0), (6, vp 7 0), (7, vs 5), (41, vi .i64 x_23), (42, vi .i64 x_26), (73, vs 5), (77, vi .i64 (w64 (w_2.Offset + x_26))), (85, vi .u8 (iand .u8 x_34 x_30))] rfl (by kernel_rfl) (by kernel_rfl) (by kernel_rfl) ?_
           obtain ⟨x_35, e_x_35, hp⟩ := bind_inv hp
           refine SD.all1 (i := 13) (by kernel_rfl) ?_
           refine SW.eff D_32 (i := 13) (bs' := (bm 15 16383)) rfl (.inl rfl) rfl (e_ixp (sz := 1) (E := 5) (R := R8) (by_ := 1) (l := l_25) tk rfl rfl rfl e_x_35 (by kernel_rfl)) (by kernel_rfl) rfl (by kernel_rfl) ?_
           obtain ⟨l_36, e_l_36, hp⟩ := bind_inv hp
           refine SD.all1 (i := 14) (by kernel_rfl) ?_
           refine SW.effS D_32 (i := 14) (bs' := (bm 15 32767)) rfl (e_stp (sz := 1) (E := 5) (R := R8) (i := 5) (iv := w64 (w_2.Offset + x_26)) (l := l_25) (e := iand .u8 x_34 x_30) tk rfl rfl rfl rfl Clo.int (by kernel_rfl) (by kernel_rfl) e_l_36) rfl (by kernel_rfl) ?_
           refine SD.norm (itsN := [.gone, .gone, .rd 1 R8 w_2.Bytes, .blk 25 [.s 4, .s 5], .own 1 5 R8 x_4.Banks.1, .own 1 5 R8 l_36, .blk 27 (C_api_Write w_2 (.s 2)), .blk 25 [nl, nl], .elt (some (2, x_26)) false [ci .u8 x_30], .gone]) (by kernel_rfl) ?_
           refine SD.done (by kernel_rfl) fun a w h => ?_
           exact ⟨l_36, hp, h.at (js := [.g 0, .g 1, .g 2, .g 3, .g 4, .g 5, .g 6, .g 7]) (by kernel_rfl)⟩
         refine SC.skipJ fun a w h => ?_
         exact ⟨l_25, hp, h.at (js := [.g 0, .g 1, .g 2, .g 3, .g 4, .g 5, .g 6, .g 7]) (by kernel_rfl)⟩
       rintro a w ⟨l_27, hp, h⟩
       refine h.go ?_
       refine SC.reg ?_
       refine SL.sim tk 2 [(3, vp 3 0), (4, vp 6 0), (6, vp 7 0), (7, vs 5), (41, vi .i64 x_23), (42, vi .i64 (w64 (x_26 + 1)))] [] [] [] (by kernel_rfl) ?_
       refine SL.nilJ fun a w h => ?_
       exact ⟨n2, Nat.lt_succ_self _, l_27, w64 (x_26 + 1), next_inv hp hs2, h.at (js := [.g 0, .g 1, .g 2, .g 3, .g 4, .g 5, .g 6, .g 7]) (by kernel_rfl)⟩
     refine SC.exitJ rfl fun a w h => ?_
     have ho := done_inv hp hs2
     replace hp := ho2
     try rw [ho] at hp
     exact ⟨l_25, hp, h.at (js := [.g 0, .g 1, .g 2, .g 3, .g 4, .g 5, .g 7]) (by kernel_rfl)⟩
   rintro a w ⟨l_24, hp, h⟩
   refine h.go ?_
   refine SC.r tk [(6, vp 6 0)] [(6, 25, [.s 4, .s 5])] [] [] (by kernel_rfl) ?_
   obtain rfl := some_inv' hp
   exact SC.re (js := [.g 0, .g 1, .g 2, .z 4, .z 5]) tk (by kernel_rfl)
 replace hp := if_f hp he_21
 cases hp

theorem ok_flash_Put (F : Nat) (s_1 : T_api_Store) (key_2 : Int) (value_3 : (List Int)) (r : T_api_Store × Int) (hp : flash_Put F s_1 key_2 value_3 = some r) : Spec Tryd.prog 25 [.g (C_api_Store s_1 (.s 0) (.s 1) (.s 2)), vi .u16 key_2, vs 3] [.rd 1 R8 s_1.Flash.Banks.1, .rd 1 R8 s_1.Flash.Banks.2, .rd 2 R_T_api_Item s_1.Items, .rd 1 R8 value_3] (.u [.inr [.s 4, .s 5, ci .i64 r.1.Bank, ci .i64 r.1.Count, ci .i64 r.1.End, .s 6], .inl (ci .i64 r.2)]) [.gone, .gone, .gone, .gone, .rd 1 R8 r.1.Flash.Banks.1, .rd 1 R8 r.1.Flash.Banks.2, .rd 2 R_T_api_Item r.1.Items] := by
 refine Spec.enter Tryd.func25 rfl Tryd.ntmps25 rfl rfl fun fx => ?_
 refine SC.seq ?_
 refine SC.reg ?_
 refine SL.eff (e_box (E := 40) (C_api_Store s_1 (.s 0) (.s 1) (.s 2)) (by kernel_rfl)) rfl (by kernel_rfl) ?_
 refine SL.eff (e_alloc (E := 40) tk [nl, nl, ci .i64 0, ci .i64 0, ci .i64 0, nl] (by kernel_rfl)) rfl (by kernel_rfl) ?_
 refine SL.sim tk 1 [(1, vi .u16 key_2), (2, vs 3), (3, vp 4 0), (6, vp 5 0)] [] [] [] (by kernel_rfl) ?_
 refine SL.nilThen ?_
 refine SC.seq ?_
 refine SC.reg ?_
 refine SL.sim tk 3 [(3, vp 4 0), (6, vp 5 0), (14, .g (C_api_Store s_1 (.s 0) (.s 1) (.s 2))), (15, vi .u16 key_2), (16, vs 3)] [] [] [] (by kernel_rfl) ?_
 obtain ⟨x_4, e_x_4, hp⟩ := bind_inv hp
 refine SL.eff (e_c Tryd.call22 (ok_flash_Plan F s_1 key_2 value_3 _ e_x_4) [.g 0, .g 1, .g 2, .g 3] [.g (C_api_Store s_1 (.s 0) (.s 1) (.s 2)), vi .u16 key_2, vs 3] (.u [.inl (.s 6), .inl (ci .i64 x_4.2)]) (by kernel_rfl) (.inl rfl)) rfl (by kernel_rfl) ?_
 refine SL.norm (itsN := [.rd 1 R8 s_1.Flash.Banks.1, .rd 1 R8 s_1.Flash.Banks.2, .rd 2 R_T_api_Item s_1.Items, .rd 1 R8 value_3, .blk 40 (C_api_Store s_1 (.s 0) (.s 1) (.s 2)), .blk 40 [nl, nl, ci .i64 0, ci .i64 0, ci .i64 0, nl], .rd 4 R_T_api_Write x_4.1]) (by kernel_rfl) ?_
 refine SL.sim tk 5 [(3, vp 4 0), (6, vp 5 0), (8, vs 6), (9, vi .i64 x_4.2)] [] [] [] (by kernel_rfl) ?_
 refine SL.nilThen ?_
 refine SC.seq ?_
 refine SC.r tk [(3, vp 4 0), (6, vp 5 0), (8, vs 6), (9, vi .i64 x_4.2), (26, vb ((x_4.2 != 0) || ((len x_4.1) == 0)))] [] [] [] (by kernel_rfl) ?_
 refine SC.if' rfl hp (fun hp => ?_) (fun hp => ?_)
 · refine SC.seq ?_
   refine SC.reg ?_
   refine SL.sim tk 1 [(6, vp 5 0), (9, vi .i64 x_4.2), (27, .g (C_api_Store s_1 (.s 0) (.s 1) (.s 2)))] [] [] [] (by kernel_rfl) ?_
   obtain ⟨x_5, e_x_5, hp⟩ := bind_inv hp
   refine SL.eff (e_c Tryd.call49 (ok_flash_kept F s_1 _ e_x_5) [.g 0, .g 1, .g 2] [.g (C_api_Store s_1 (.s 0) (.s 1) (.s 2))] (.g (C_api_Store x_5 (.s 7) (.s 8) (.s 9))) (by kernel_rfl) (.inl rfl)) rfl (by kernel_rfl) ?_
   refine SL.sim tk 3 [(6, vp 5 0), (7, vi .i64 x_4.2)] [(5, 40, (C_api_Store x_5 (.s 7) (.s 8) (.s 9)))] [] [] (by kernel_rfl) ?_
   refine SL.nilThen ?_
   obtain rfl := some_inv' hp
   exact SC.re (js := [.g 0, .g 1, .g 2, .g 3, .g 7, .g 8, .g 9]) tk (by kernel_rfl)
 refine SC.skipThen ?_
 refine SC.seq ?_
 refine SC.reg ?_
 refine SL.sim tk 2 [(6, vp 5 0), (8, vs 6), (31, .g [.s 0, .s 1])] [] [] [] (by kernel_rfl) ?_
 refine SL.eff (e_alloc (E := 25) tk [nl, nl] (by kernel_rfl)) rfl (by kernel_rfl) ?_
 refine SL.sim tk 1 [(6, vp 5 0), (8, vs 6), (10, vp 7 0)] [(7, 25, [.s 0, .s 1])] [] [] (by kernel_rfl) ?_
 refine SL.nilThen ?_
 refine SC.cut (fun a w => ∃ (c_8 : T_api_Flash), flash_Put_j1 F c_8 = some r ∧ A 46 4 fx [(6, vp 4 0), (10, vp 5 0)] [.gone, .gone, .gone, .gone, .blk 40 [nl, nl, ci .i64 0, ci .i64 0, ci .i64 0, nl], .blk 25 [.s 6, .s 7], .rd 1 R8 c_8.Banks.1, .rd 1 R8 c_8.Banks.2] a w) ?_ ?_
 · refine SC.r tk [(6, vp 5 0), (10, vp 7 0), (32, vs 6), (33, vi .i64 (len x_4.1)), (34, vi .i64 0)] [] [] [] (by kernel_rfl) ?_
   refine SC.block ?_
   obtain ⟨o1, hi1, ho1⟩ := bind_inv hp
   clear hp
   refine SC.loop (fun n a w => ∃ (c_12 : T_api_Flash) (x_13 : Int), iter (fun s => flash_Put_l1 F x_4 s.1 s.2) n (c_12, x_13) = some o1 ∧ A 46 4 fx [(6, vp 4 0), (10, vp 5 0), (32, vs 8), (33, vi .i64 (len x_4.1)), (34, vi .i64 x_13)] [.gone, .gone, .gone, .gone, .blk 40 [nl, nl, ci .i64 0, ci .i64 0, ci .i64 0, nl], .blk 25 [.s 6, .s 7], .rd 1 R8 c_12.Banks.1, .rd 1 R8 c_12.Banks.2, .rd 4 R_T_api_Write x_4.1] a w) F (fun a w h => ⟨s_1.Flash, 0, hi1, h.at (js := [.g 0, .g 1, .g 2, .g 3, .g 5, .g 7, .g 0, .g 1, .g 6]) (by kernel_rfl)⟩) ?_
   rintro n1 a w ⟨c_12, x_13, hi1, h⟩
   obtain ⟨n1, q1, rfl, hp, hs1⟩ := iter_inv hi1
   replace hp : flash_Put_l1 F x_4 c_12 x_13 = some q1 := hp
   clear hi1
   refine h.go ?_
   refine SC.r tk [(6, vp 4 0), (10, vp 5 0), (32, vs 8), (33, vi .i64 (len x_4.1)), (34, vi .i64 x_13), (35, vb (decide (x_13 < (len x_4.1))))] [] [] [] (by kernel_rfl) ?_
   refine SC.seq ?_
   refine SC.if' rfl hp (fun hp => ?_) (fun hp => ?_)
   · refine SC.skipThen ?_
     refine SC.seq ?_
     refine SC.block ?_
     refine SC.seq ?_
     refine SC.reg ?_
     obtain ⟨x_14, e_x_14, hp⟩ := bind_inv hp
     refine SL.pre (pre_ix (i := 8) (iv := x_13) (sz := 4) (R := R_T_api_Write) (l := x_4.1) (by kernel_rfl) rfl e_x_14) ?_
     refine SL.sim tk 2 [(6, vp 4 0), (10, vp 5 0), (32, vs 8), (33, vi .i64 (len x_4.1)), (34, vi .i64 x_13), (37, .g (C_api_Write x_14 (.s 10)))] [] [.el 9] [x_13] (by kernel_rfl) ?_
     refine SL.eff (e_alloc (E := 27) tk [ci .i64 0, cb false, ci .i64 0, nl] (by kernel_rfl)) rfl (by kernel_rfl) ?_
     refine SL.sim tk 1 [(6, vp 4 0), (10, vp 5 0), (12, vp 11 0), (32, vs 8), (33, vi .i64 (len x_4.1)), (34, vi .i64 x_13)] [(11, 27, (C_api_Write x_14 (.s 10)))] [] [] (by kernel_rfl) ?_
     refine SL.nilThen ?_
     refine SC.reg ?_
     refine SL.sim tk 2 [(6, vp 4 0), (10, vp 5 0), (32, vs 8), (33, vi .i64 (len x_4.1)), (34, vi .i64 x_13), (38, .g [.s 6, .s 7]), (39, .g (C_api_Write x_14 (.s 10)))] [] [] [] (by kernel_rfl) ?_
     obtain ⟨x_15, e_x_15, hp⟩ := bind_inv hp
     refine SL.eff (e_c Tryd.call13 (ok_flash_Apply F c_12 x_14 (-1) _ e_x_15) [.g 6, .g 7, .g 10] [.g [.s 6, .s 7], .g (C_api_Write x_14 (.s 10)), vi .i64 (-1)] (.g [.s 12, .s 13]) (by kernel_rfl) (.inl rfl)) rfl (by kernel_rfl) ?_
     refine SL.norm (itsN := [.gone, .gone, .gone, .gone, .blk 40 [nl, nl, ci .i64 0, ci .i64 0, ci .i64 0, nl], .blk 25 [.s 6, .s 7], .rd 1 R8 c_12.Banks.1, .rd 1 R8 c_12.Banks.2, .rd 4 R_T_api_Write x_4.1, .elt (some (8, x_13)) false (C_api_Write x_14 (.s 10)), .rd 1 R8 x_14.Bytes, .blk 27 (C_api_Write x_14 (.s 10)), .rd 1 R8 x_15.Banks.1, .rd 1 R8 x_15.Banks.2]) (by kernel_rfl) ?_
     refine SL.sim tk 1 [(6, vp 4 0), (10, vp 5 0), (32, vs 8), (33, vi .i64 (len x_4.1)), (34, vi .i64 x_13)] [(5, 25, [.s 12, .s 13])] [] [] (by kernel_rfl) ?_
     refine SL.nilThen ?_
     refine SC.reg ?_
     refine SL.sim tk 2 [(6, vp 4 0), (10, vp 5 0), (32, vs 8), (33, vi .i64 (len x_4.1)), (34, vi .i64 (w64 (x_13 + 1)))] [] [] [] (by kernel_rfl) ?_
     refine SL.nilJ fun a w h => ?_
     exact ⟨n1, Nat.lt_succ_self _, x_15, w64 (x_13 + 1), next_inv hp hs1, h.at (js := [.g 0, .g 1, .g 2, .g 3, .g 4, .g 5, .g 12, .g 13, .g 8]) (by kernel_rfl)⟩
   refine SC.exitJ rfl fun a w h => ?_
   have ho := done_inv hp hs1
   replace hp := ho1
   try rw [ho] at hp
   exact ⟨c_12, hp, h.at (js := [.g 0, .g 1, .g 2, .g 3, .g 4, .g 5, .g 6, .g 7]) (by kernel_rfl)⟩
 rintro a w ⟨c_8, hp, h⟩
 refine h.go ?_
 refine SC.seq ?_
 refine SC.reg ?_
 refine SL.sim tk 1 [(6, vp 4 0), (42, .g [.s 6, .s 7])] [] [] [] (by kernel_rfl) ?_
 obtain ⟨x_9, e_x_9, hp⟩ := bind_inv hp
 refine SL.eff (e_c Tryd.call16 (ok_flash_Mount F c_8 _ e_x_9) [.g 6, .g 7] [.g [.s 6, .s 7]] (.u [.inr (C_api_Store x_9.1 (.s 8) (.s 9) (.s 10)), .inl (ci .i64 x_9.2)]) (by kernel_rfl) (.inl rfl)) rfl (by kernel_rfl) ?_
 refine SL.sim tk 4 [(6, vp 4 0), (7, vi .i64 x_9.2)] [(4, 40, (C_api_Store x_9.1 (.s 8) (.s 9) (.s 10)))] [] [] (by kernel_rfl) ?_
 refine SL.nilThen ?_
 obtain rfl := some_inv' hp
 exact SC.re (js := [.g 0, .g 1, .g 2, .g 3, .g 8, .g 9, .g 10]) tk (by kernel_rfl)

theorem ok_wirelesslaw39_lives (F : Nat) (r : Bool) (hp : wirelesslaw39_lives F = some r) : Spec Tryd.prog 8 [] [] (vb r) [] := by
 refine Spec.enter Tryd.func8 rfl Tryd.ntmps8 rfl rfl fun fx => ?_
 refine SC.r tk [] [] [] [] (by kernel_rfl) ?_
 refine SC.seq ?_
 refine SC.reg ?_
 obtain ⟨x_1, e_x_1, hp⟩ := bind_inv hp
 refine SL.eff (e_c Tryd.call9 (ok_flash_Blank F 64 _ e_x_1) [] [vi .i64 64] (.u [.inr [.s 0, .s 1], .inl (ci .i64 x_1.2)]) (by kernel_rfl) (.inl rfl)) rfl (by kernel_rfl) ?_
 refine SL.sim tk 3 [(13, .g [.s 0, .s 1]), (14, vi .i64 x_1.2)] [] [] [] (by kernel_rfl) ?_
 refine SL.eff (e_alloc (E := 25) tk [nl, nl] (by kernel_rfl)) rfl (by kernel_rfl) ?_
 refine SL.sim tk 2 [(1, vp 2 0), (2, vi .i64 x_1.2)] [(2, 25, [.s 0, .s 1])] [] [] (by kernel_rfl) ?_
 refine SL.nilThen ?_
 refine SC.seq ?_
 refine SC.reg ?_
 refine SL.sim tk 1 [(2, vi .i64 x_1.2), (16, .g [.s 0, .s 1])] [] [] [] (by kernel_rfl) ?_
 obtain ⟨x_2, e_x_2, hp⟩ := bind_inv hp
 refine SL.eff (e_c Tryd.call16 (ok_flash_Mount F x_1.1 _ e_x_2) [.g 0, .g 1] [.g [.s 0, .s 1]] (.u [.inr (C_api_Store x_2.1 (.s 3) (.s 4) (.s 5)), .inl (ci .i64 x_2.2)]) (by kernel_rfl) (.inl rfl)) rfl (by kernel_rfl) ?_
 refine SL.norm (itsN := [.rd 1 R8 x_1.1.Banks.1, .rd 1 R8 x_1.1.Banks.2, .blk 25 [.s 0, .s 1], .rd 1 R8 x_2.1.Flash.Banks.1, .rd 1 R8 x_2.1.Flash.Banks.2, .rd 2 R_T_api_Item x_2.1.Items]) (by kernel_rfl) ?_
 refine SL.sim tk 3 [(2, vi .i64 x_1.2), (18, .g (C_api_Store x_2.1 (.s 3) (.s 4) (.s 5))), (19, vi .i64 x_2.2)] [] [] [] (by kernel_rfl) ?_
 refine SL.eff (e_alloc (E := 40) tk [nl, nl, ci .i64 0, ci .i64 0, ci .i64 0, nl] (by kernel_rfl)) rfl (by kernel_rfl) ?_
 refine SL.sim tk 2 [(2, vi .i64 x_1.2), (3, vp 6 0), (4, vi .i64 x_2.2)] [(6, 40, (C_api_Store x_2.1 (.s 3) (.s 4) (.s 5)))] [] [] (by kernel_rfl) ?_
 refine SL.nilThen ?_
 refine SC.seq ?_
 refine SC.reg ?_
 refine SL.sim tk 1 [(2, vi .i64 x_1.2), (3, vp 6 0), (4, vi .i64 x_2.2), (21, .g (C_api_Store x_2.1 (.s 3) (.s 4) (.s 5)))] [] [] [] (by kernel_rfl) ?_
 refine SL.eff (e_lit (sz := 1) (E := 5) (R := R8) (by_ := 1) tk [[ci .u8 7]] [7] (by kernel_rfl) ⟨Clo.int, trivial⟩ rfl (by kernel_rfl) (by kernel_rfl)) rfl (by kernel_rfl) ?_
 obtain ⟨x_3, e_x_3, hp⟩ := bind_inv hp
 refine SL.pre (pre_frz (i := 7) (sz := 1) (E := 5) (R := R8) (l := [7]) (by kernel_rfl)) ?_
 refine SL.eff (e_c Tryd.call25 (ok_flash_Put F x_2.1 5 [7] _ e_x_3) [.g 3, .g 4, .g 5, .g 7] [.g (C_api_Store x_2.1 (.s 3) (.s 4) (.s 5)), vi .u16 5, vs 7] (.u [.inr (C_api_Store x_3.1 (.s 8) (.s 9) (.s 10)), .inl (ci .i64 x_3.2)]) (by kernel_rfl) (.inl rfl)) rfl (by kernel_rfl) ?_
 refine SL.norm (itsN := [.rd 1 R8 x_1.1.Banks.1, .rd 1 R8 x_1.1.Banks.2, .blk 25 [.s 0, .s 1], .rd 1 R8 x_2.1.Flash.Banks.1, .rd 1 R8 x_2.1.Flash.Banks.2, .rd 2 R_T_api_Item x_2.1.Items, .blk 40 (C_api_Store x_2.1 (.s 3) (.s 4) (.s 5)), .rd 1 R8 [7], .rd 1 R8 x_3.1.Flash.Banks.1, .rd 1 R8 x_3.1.Flash.Banks.2, .rd 2 R_T_api_Item x_3.1.Items]) (by kernel_rfl) ?_
 refine SL.sim tk 3 [(2, vi .i64 x_1.2), (3, vp 6 0), (4, vi .i64 x_2.2), (24, .g (C_api_Store x_3.1 (.s 8) (.s 9) (.s 10))), (25, vi .i64 x_3.2)] [] [] [] (by kernel_rfl) ?_
 refine SL.eff (e_alloc (E := 40) tk [nl, nl, ci .i64 0, ci .i64 0, ci .i64 0, nl] (by kernel_rfl)) rfl (by kernel_rfl) ?_
 refine SL.sim tk 2 [(2, vi .i64 x_1.2), (3, vp 6 0), (4, vi .i64 x_2.2), (5, vp 11 0), (6, vi .i64 x_3.2)] [(11, 40, (C_api_Store x_3.1 (.s 8) (.s 9) (.s 10)))] [] [] (by kernel_rfl) ?_
 refine SL.nilThen ?_
 refine SC.seq ?_
 refine SC.reg ?_
 refine SL.sim tk 1 [(2, vi .i64 x_1.2), (3, vp 6 0), (4, vi .i64 x_2.2), (5, vp 11 0), (6, vi .i64 x_3.2), (27, .g (C_api_Store x_3.1 (.s 8) (.s 9) (.s 10)))] [] [] [] (by kernel_rfl) ?_
 obtain ⟨x_4, e_x_4, hp⟩ := bind_inv hp
 refine SL.eff (e_c Tryd.call19 (ok_flash_Get F x_3.1 5 _ e_x_4) [.g 8, .g 9, .g 10] [.g (C_api_Store x_3.1 (.s 8) (.s 9) (.s 10)), vi .u16 5] (.u [.inl (.s 12), .inl (cb x_4.2)]) (by kernel_rfl) (.inl rfl)) rfl (by kernel_rfl) ?_
 refine SL.norm (itsN := [.rd 1 R8 x_1.1.Banks.1, .rd 1 R8 x_1.1.Banks.2, .blk 25 [.s 0, .s 1], .rd 1 R8 x_2.1.Flash.Banks.1, .rd 1 R8 x_2.1.Flash.Banks.2, .rd 2 R_T_api_Item x_2.1.Items, .blk 40 (C_api_Store x_2.1 (.s 3) (.s 4) (.s 5)), .rd 1 R8 [7], .rd 1 R8 x_3.1.Flash.Banks.1, .rd 1 R8 x_3.1.Flash.Banks.2, .rd 2 R_T_api_Item x_3.1.Items, .blk 40 (C_api_Store x_3.1 (.s 8) (.s 9) (.s 10)), .rd 1 R8 x_4.1]) (by kernel_rfl) ?_
 refine SL.sim tk 5 [(2, vi .i64 x_1.2), (3, vp 6 0), (4, vi .i64 x_2.2), (5, vp 11 0), (6, vi .i64 x_3.2), (7, vs 12), (8, vb x_4.2)] [] [] [] (by kernel_rfl) ?_
 refine SL.nilThen ?_
 refine SC.seq ?_
 refine SC.reg ?_
 obtain ⟨x_5, e_x_5, hp⟩ := bind_inv hp
 refine SL.eff (e_c Tryd.call9 (ok_flash_Blank F 63 _ e_x_5) [] [vi .i64 63] (.u [.inr [.s 13, .s 14], .inl (ci .i64 x_5.2)]) (by kernel_rfl) (.inl rfl)) rfl (by kernel_rfl) ?_
 refine SL.sim tk 3 [(2, vi .i64 x_1.2), (3, vp 6 0), (4, vi .i64 x_2.2), (5, vp 11 0), (6, vi .i64 x_3.2), (7, vs 12), (8, vb x_4.2), (33, .g [.s 13, .s 14]), (34, vi .i64 x_5.2)] [] [] [] (by kernel_rfl) ?_
 refine SL.eff (e_alloc (E := 25) tk [nl, nl] (by kernel_rfl)) rfl (by kernel_rfl) ?_
 refine SL.sim tk 2 [(2, vi .i64 x_1.2), (3, vp 6 0), (4, vi .i64 x_2.2), (5, vp 11 0), (6, vi .i64 x_3.2), (7, vs 12), (8, vb x_4.2), (10, vi .i64 x_5.2)] [(15, 25, [.s 13, .s 14])] [] [] (by kernel_rfl) ?_
 refine SL.nilThen ?_
 refine SC.seq ?_
 refine SC.reg ?_
 refine SL.sim tk 34 [(5, vp 11 0), (7, vs 12), (10, vi .i64 x_5.2), (68, vb ((((((((x_1.2 == 0) && (x_2.2 == 0)) && (x_2.1.End == 64)) && (x_3.2 == 0)) && (x_3.1.Bank == 1)) && (x_3.1.Count == 1)) && (x_3.1.End == 19)) && x_4.2))] [] [] [] (by kernel_rfl) ?_
 obtain ⟨z_7, hz, hpr⟩ := bind_inv hp
 clear hp
 refine SL.cutAt 4 (fun a w => A 82 0 fx [(5, vp 0 0), (10, vi .i64 x_5.2), (72, vb z_7)] [.blk 40 (C_api_Store x_3.1 (.s 1) (.s 2) (.s 3)), .rd 1 R8 x_3.1.Flash.Banks.1, .rd 1 R8 x_3.1.Flash.Banks.2, .rd 2 R_T_api_Item x_3.1.Items] a w) ?_ ?_
 · have hp := hz
   rcases Bool.eq_false_or_eq_true (((((((((x_1.2 == 0) && (x_2.2 == 0)) && (x_2.1.End == 64)) && (x_3.2 == 0)) && (x_3.1.Bank == 1)) && (x_3.1.Count == 1)) && (x_3.1.End == 19)) && x_4.2)) with hg_6 | hg_6
   · replace hp := if_t hp hg_6
     refine SL.yes rfl rfl hg_6 ?_
     refine SL.sim tk 1 [(5, vp 11 0), (10, vi .i64 x_5.2), (68, vb ((((((((x_1.2 == 0) && (x_2.2 == 0)) && (x_2.1.End == 64)) && (x_3.2 == 0)) && (x_3.1.Bank == 1)) && (x_3.1.Count == 1)) && (x_3.1.End == 19)) && x_4.2)), (69, vs 12)] [] [] [] (by kernel_rfl) ?_
     refine SL.yes rfl rfl hg_6 ?_
     refine SL.eff (e_b2s (l := x_4.1) tk rfl (.r (by kernel_rfl)) (by kernel_rfl)) rfl (by kernel_rfl) ?_
     refine SL.norm (itsN := [.rd 1 R8 x_1.1.Banks.1, .rd 1 R8 x_1.1.Banks.2, .blk 25 [.s 0, .s 1], .rd 1 R8 x_2.1.Flash.Banks.1, .rd 1 R8 x_2.1.Flash.Banks.2, .rd 2 R_T_api_Item x_2.1.Items, .blk 40 (C_api_Store x_2.1 (.s 3) (.s 4) (.s 5)), .rd 1 R8 [7], .rd 1 R8 x_3.1.Flash.Banks.1, .rd 1 R8 x_3.1.Flash.Banks.2, .rd 2 R_T_api_Item x_3.1.Items, .blk 40 (C_api_Store x_3.1 (.s 8) (.s 9) (.s 10)), .rd 1 R8 x_4.1, .rd 1 R8 x_5.1.Banks.1, .rd 1 R8 x_5.1.Banks.2, .blk 25 [.s 13, .s 14], .str (str x_4.1)]) (by kernel_rfl) ?_
     refine SL.yes rfl rfl hg_6 ?_
     refine SL.sim tk 1 [(5, vp 11 0), (10, vi .i64 x_5.2), (68, vb ((((((((x_1.2 == 0) && (x_2.2 == 0)) && (x_2.1.End == 64)) && (x_3.2 == 0)) && (x_3.1.Bank == 1)) && (x_3.1.Count == 1)) && (x_3.1.End == 19)) && x_4.2)), (71, vb ((str x_4.1) == [7]))] [] [] [] (by kernel_rfl) ?_
     refine SL.pickt rfl hg_6 rfl rfl ?_
     refine SL.nilJ fun a w h => ?_
     obtain rfl := some_inv' hp
     exact h.at (js := [.g 11, .g 8, .g 9, .g 10]) (by kernel_rfl)
   replace hp := if_f hp hg_6
   refine SL.no rfl rfl hg_6 rfl ?_
   refine SL.no rfl rfl hg_6 rfl ?_
   refine SL.no rfl rfl hg_6 rfl ?_
   refine SL.pickf rfl hg_6 rfl rfl ?_
   refine SL.nilJ fun a w h => ?_
   obtain rfl := some_inv' hp
   exact h.at (js := [.g 11, .g 8, .g 9, .g 10]) (by kernel_rfl)
 intro a w h
 have hp := hpr; clear hpr hz
 refine h.goL ?_
 refine SL.sim tk 1 [(5, vp 0 0), (10, vi .i64 x_5.2), (73, vb z_7)] [] [] [] (by kernel_rfl) ?_
 obtain ⟨z_9, hz, hpr⟩ := bind_inv hp
 clear hp
 refine SL.cutAt 4 (fun a w => A 82 0 fx [(10, vi .i64 x_5.2), (77, vb z_9)] [] a w) ?_ ?_
 · have hp := hz
   rcases Bool.eq_false_or_eq_true (z_7) with hg_8 | hg_8
   · replace hp := if_t hp hg_8
     refine SL.yes rfl rfl hg_8 ?_
     refine SL.sim tk 1 [(10, vi .i64 x_5.2), (73, vb z_7), (74, .g (C_api_Store x_3.1 (.s 1) (.s 2) (.s 3)))] [] [] [] (by kernel_rfl) ?_
     refine SL.yes rfl rfl hg_8 ?_
     obtain ⟨x_11, e_x_11, hp⟩ := bind_inv hp
     refine SL.eff (e_c Tryd.call21 (ok_flash_Free F x_3.1 _ e_x_11) [.g 1, .g 2, .g 3] [.g (C_api_Store x_3.1 (.s 1) (.s 2) (.s 3))] (vi .i64 x_11) (by kernel_rfl) (.inl rfl)) rfl (by kernel_rfl) ?_
     refine SL.yes rfl rfl hg_8 ?_
     refine SL.sim tk 1 [(10, vi .i64 x_5.2), (73, vb z_7), (76, vb (x_11 == 45))] [] [] [] (by kernel_rfl) ?_
     refine SL.pickt rfl hg_8 rfl rfl ?_
     refine SL.nilJ fun a w h => ?_
     obtain rfl := some_inv' hp
     exact h.at (js := []) (by kernel_rfl)
   replace hp := if_f hp hg_8
   refine SL.no rfl rfl hg_8 rfl ?_
   refine SL.no rfl rfl hg_8 rfl ?_
   refine SL.no rfl rfl hg_8 rfl ?_
   refine SL.pickf rfl hg_8 rfl rfl ?_
   refine SL.nilJ fun a w h => ?_
   obtain rfl := some_inv' hp
   exact h.at (js := []) (by kernel_rfl)
 intro a w h
 have hp := hpr; clear hpr hz
 refine h.goL ?_
 refine SL.sim tk 5 [(0, vb (z_9 && (x_5.2 == 5)))] [] [] [] (by kernel_rfl) ?_
 refine SL.nilThen ?_
 obtain rfl := some_inv' hp
 exact SC.re (js := []) tk (by kernel_rfl)

theorem ok_wirelessref39_Copy (F : Nat) (f_1 : T_api_Flash) (r : T_api_Flash) (hp : wirelessref39_Copy F f_1 = some r) : Spec Tryd.prog 14 [.g [.s 0, .s 1]] [.rd 1 R8 f_1.Banks.1, .rd 1 R8 f_1.Banks.2] (.g [.s 2, .s 3]) [.gone, .gone, .own 1 5 R8 r.Banks.1, .own 1 5 R8 r.Banks.2] := by
 refine Spec.enter Tryd.func14 rfl Tryd.ntmps14 rfl rfl fun fx => ?_
 refine SC.seq ?_
 refine SC.reg ?_
 refine SL.eff (e_box (E := 25) [.s 0, .s 1] (by kernel_rfl)) rfl (by kernel_rfl) ?_
 refine SL.eff (e_alloc (E := 25) tk [nl, nl] (by kernel_rfl)) rfl (by kernel_rfl) ?_
 refine SL.nilThen ?_
 refine SC.cut (fun a w => ∃ (c_4 : T_api_Flash), wirelessref39_Copy_j1 F c_4 = some r ∧ A 15 2 fx [(2, vp 2 0)] [.gone, .gone, .blk 25 [.s 3, .s 4], .own 1 5 R8 c_4.Banks.1, .own 1 5 R8 c_4.Banks.2] a w) ?_ ?_
 · refine SC.draw MO [true, true, true, false] (by kernel_rfl) fun kap_5 D_6 => ?_
   refine SD.takes tk D_6 [] kn0 [1, 6] [] [] (bm 13 66) [(2, vp 3 0), (4, vp 2 0), (9, vp 2 0)] rfl (by kernel_rfl) (by kernel_rfl) (by kernel_rfl) ?_
   obtain ⟨l_327, e_l_327, hp⟩ := bind_inv hp
   obtain ⟨l_727, e_l_727, hp⟩ := bind_inv hp
   refine SD.lay 0 (bm 13 8191) [(2, vp 3 0)] [.rd 1 R8 f_1.Banks.1, .rd 1 R8 f_1.Banks.2, .blk 25 [.s 0, .s 1], .blk 25 [.s 5, .s 7], .gone, .own 1 5 R8 l_327, .gone, .own 1 5 R8 l_727] ?_ (fun c_6_0 => ?_)
   · refine SD.done (by kernel_rfl) fun a w h => ?_
     exact ⟨(T_api_Flash.mk (l_327, l_727)), hp, h.at (js := [.g 0, .g 1, .g 3, .g 5, .g 7]) (by kernel_rfl)⟩
   refine SD.lay 1 (bm 13 4095) [(2, vp 3 0), (14, .g [.s 5, .s 7])] [.rd 1 R8 f_1.Banks.1, .rd 1 R8 f_1.Banks.2, .blk 25 [.s 0, .s 1], .blk 25 [nl, nl], .gone, .own 1 5 R8 l_327, .gone, .own 1 5 R8 l_727] ?_ (fun c_6_1 => ?_)
   · refine SD.all1 (i := 12) (by kernel_rfl) ?_
     refine SW.store D_6 tk (i := 12) (q := 3) (T := 25) (cs := [.s 5, .s 7]) (bs' := (bm 13 8191)) rfl (by kernel_rfl) rfl rfl (by kernel_rfl) ?_
     exact SD.vie D_6 [.g 0, .g 1, .g 2, .g 3, .n, .g 5, .n, .g 7] c_6_0 (by kernel_rfl)
   refine SD.lay 2 (bm 13 2047) [(2, vp 3 0), (13, .g [.s 5, .s 7])] [.rd 1 R8 f_1.Banks.1, .rd 1 R8 f_1.Banks.2, .blk 25 [.s 0, .s 1], .blk 25 [nl, nl], .gone, .own 1 5 R8 l_327, .gone, .own 1 5 R8 l_727] ?_ (fun c_6_2 => ?_)
   · refine SD.all1 (i := 11) (by kernel_rfl) ?_
     refine SW.eff D_6 (i := 11) (v := .g [.s 5, .s 7]) (bs' := (bm 13 4095)) rfl (.inl rfl) rfl (e_val tk (by kernel_rfl)) (by kernel_rfl) rfl (by kernel_rfl) ?_
     exact SD.vie D_6 [.g 0, .g 1, .g 2, .g 3, .n, .g 5, .n, .g 7] c_6_1 (by kernel_rfl)
   refine SD.lay 3 (bm 13 1023) [(2, vp 3 0), (7, vs 5), (12, vs 7)] [.rd 1 R8 f_1.Banks.1, .rd 1 R8 f_1.Banks.2, .blk 25 [.s 0, .s 1], .blk 25 [nl, nl], .gone, .own 1 5 R8 l_327, .gone, .own 1 5 R8 l_727] ?_ (fun c_6_3 => ?_)
   · refine SD.all1 (i := 10) (by kernel_rfl) ?_
     refine SW.eff D_6 (i := 10) (v := .g [.s 5, .s 7]) (bs' := (bm 13 2047)) rfl (.inl rfl) rfl (e_val tk (by kernel_rfl)) (by kernel_rfl) rfl (by kernel_rfl) ?_
     exact SD.vie D_6 [.g 0, .g 1, .g 2, .g 3, .n, .g 5, .n, .g 7] c_6_2 (by kernel_rfl)
   refine SD.lay 4 (bm 13 511) [(2, vp 3 0), (7, vs 5), (8, vs 6), (11, vs 1)] [.rd 1 R8 f_1.Banks.1, .rd 1 R8 f_1.Banks.2, .blk 25 [.s 0, .s 1], .blk 25 [nl, nl], .gone, .own 1 5 R8 l_327, .own 1 5 R8 ([] : (List Int))] ?_ (fun c_6_4 => ?_)
   · refine SD.all1 (i := 9) (by kernel_rfl) ?_
     refine SW.eff D_6 (i := 9) (bs' := (bm 13 1023)) rfl (.inl rfl) rfl (e_app (i := 6) (l := ([] : (List Int))) (sz := 1) (E := 5) (R := R8) (by_ := 1) (m := f_1.Banks.2) tk rfl (by kernel_rfl) rfl (.r (by kernel_rfl)) e_l_727 (by kernel_rfl)) (by kernel_rfl) rfl (by kernel_rfl) ?_
     exact SD.vie D_6 [.g 0, .g 1, .g 2, .g 3, .n, .g 5, .n, .g 7] c_6_3 (by kernel_rfl)
   refine SD.lay 6 (bm 13 127) [(2, vp 3 0), (7, vs 5), (8, vs 6), (9, vp 2 0)] [.rd 1 R8 f_1.Banks.1, .rd 1 R8 f_1.Banks.2, .blk 25 [.s 0, .s 1], .blk 25 [nl, nl], .gone, .own 1 5 R8 l_327, .own 1 5 R8 ([] : (List Int))] ?_ (fun c_6_5 => ?_)
   · refine SD.all1 (i := 7) (by kernel_rfl) ?_
     refine SW.eff D_6 (i := 7) (bs' := (bm 13 255)) rfl (.inl rfl) rfl (e_ixa (off := 1) (T := 25) (cs := [.s 0, .s 1]) tk rfl rfl (by kernel_rfl) (by kernel_rfl)) (by kernel_rfl) rfl (by kernel_rfl) ?_
     refine SD.takes tk D_6 [] kn0 [8] [] [] (bm 13 511) [(2, vp 3 0), (7, vs 5), (8, vs 6), (11, vs 1)] rfl (by kernel_rfl) (by kernel_rfl) (by kernel_rfl) ?_
     exact SD.vie D_6 [.g 0, .g 1, .g 2, .g 3, .n, .g 5, .g 6] c_6_4 (by kernel_rfl)
   refine SD.lay 5 (bm 13 479) [(2, vp 3 0), (7, vs 5), (11, vs 1)] [.rd 1 R8 f_1.Banks.1, .rd 1 R8 f_1.Banks.2, .blk 25 [.s 0, .s 1], .blk 25 [nl, nl], .gone, .own 1 5 R8 l_327] ?_ (fun c_6_6 => ?_)
   · refine SD.all1 (i := 5) (by kernel_rfl) ?_
     refine SW.eff D_6 (i := 5) (bs' := (bm 13 511)) rfl (.inl rfl) rfl (e_lit (sz := 1) (E := 5) (R := R8) (by_ := 1) tk [] ([] : (List Int)) (by kernel_rfl) trivial rfl (by kernel_rfl) (by kernel_rfl)) (by kernel_rfl) rfl (by kernel_rfl) ?_
     exact SD.vie D_6 [.g 0, .g 1, .g 2, .g 3, .n, .g 5, .g 6] c_6_4 (by kernel_rfl)
   refine SD.lay 7 (bm 13 95) [(2, vp 3 0), (7, vs 5), (9, vp 2 0)] [.rd 1 R8 f_1.Banks.1, .rd 1 R8 f_1.Banks.2, .blk 25 [.s 0, .s 1], .blk 25 [nl, nl], .gone, .own 1 5 R8 l_327] ?_ (fun c_6_7 => ?_)
   · refine SD.all2 (i := 5) (j := 7) (by kernel_rfl) ?_ ?_
     · refine SW.eff D_6 (i := 5) (bs' := (bm 13 127)) rfl (.inl rfl) rfl (e_lit (sz := 1) (E := 5) (R := R8) (by_ := 1) tk [] ([] : (List Int)) (by kernel_rfl) trivial rfl (by kernel_rfl) (by kernel_rfl)) (by kernel_rfl) rfl (by kernel_rfl) ?_
       exact SD.vie D_6 [.g 0, .g 1, .g 2, .g 3, .n, .g 5, .g 6] c_6_5 (by kernel_rfl)
     refine SW.eff D_6 (i := 7) (bs' := (bm 13 223)) rfl (.inl rfl) rfl (e_ixa (off := 1) (T := 25) (cs := [.s 0, .s 1]) tk rfl rfl (by kernel_rfl) (by kernel_rfl)) (by kernel_rfl) rfl (by kernel_rfl) ?_
     refine SD.takes tk D_6 [] kn0 [8] [] [] (bm 13 479) [(2, vp 3 0), (7, vs 5), (11, vs 1)] rfl (by kernel_rfl) (by kernel_rfl) (by kernel_rfl) ?_
     exact SD.vie D_6 [.g 0, .g 1, .g 2, .g 3, .n, .g 5] c_6_6 (by kernel_rfl)
   refine SD.lay 5 (bm 13 495) [(2, vp 3 0), (3, vs 4), (6, vs 0), (8, vs 5), (11, vs 1)] [.rd 1 R8 f_1.Banks.1, .rd 1 R8 f_1.Banks.2, .blk 25 [.s 0, .s 1], .blk 25 [nl, nl], .own 1 5 R8 ([] : (List Int)), .own 1 5 R8 ([] : (List Int))] ?_ (fun c_6_8 => ?_)
   · refine SD.all1 (i := 4) (by kernel_rfl) ?_
     refine SW.eff D_6 (i := 4) (bs' := (bm 13 511)) rfl (.inl rfl) rfl (e_app (i := 4) (l := ([] : (List Int))) (sz := 1) (E := 5) (R := R8) (by_ := 1) (m := f_1.Banks.1) tk rfl (by kernel_rfl) rfl (.r (by kernel_rfl)) e_l_327 (by kernel_rfl)) (by kernel_rfl) rfl (by kernel_rfl) ?_
     exact SD.vie D_6 [.g 0, .g 1, .g 2, .g 3, .n, .g 6, .g 5] c_6_4 (by kernel_rfl)
   refine SD.lay 7 (bm 13 111) [(2, vp 3 0), (3, vs 4), (6, vs 0), (8, vs 5), (9, vp 2 0)] [.rd 1 R8 f_1.Banks.1, .rd 1 R8 f_1.Banks.2, .blk 25 [.s 0, .s 1], .blk 25 [nl, nl], .own 1 5 R8 ([] : (List Int)), .own 1 5 R8 ([] : (List Int))] ?_ (fun c_6_9 => ?_)
   · refine SD.all2 (i := 4) (j := 7) (by kernel_rfl) ?_ ?_
     · refine SW.eff D_6 (i := 4) (bs' := (bm 13 127)) rfl (.inl rfl) rfl (e_app (i := 4) (l := ([] : (List Int))) (sz := 1) (E := 5) (R := R8) (by_ := 1) (m := f_1.Banks.1) tk rfl (by kernel_rfl) rfl (.r (by kernel_rfl)) e_l_327 (by kernel_rfl)) (by kernel_rfl) rfl (by kernel_rfl) ?_
       exact SD.vie D_6 [.g 0, .g 1, .g 2, .g 3, .n, .g 6, .g 5] c_6_5 (by kernel_rfl)
     refine SW.eff D_6 (i := 7) (bs' := (bm 13 239)) rfl (.inl rfl) rfl (e_ixa (off := 1) (T := 25) (cs := [.s 0, .s 1]) tk rfl rfl (by kernel_rfl) (by kernel_rfl)) (by kernel_rfl) rfl (by kernel_rfl) ?_
     refine SD.takes tk D_6 [] kn0 [8] [] [] (bm 13 495) [(2, vp 3 0), (3, vs 4), (6, vs 0), (8, vs 5), (11, vs 1)] rfl (by kernel_rfl) (by kernel_rfl) (by kernel_rfl) ?_
     exact SD.vie D_6 [.g 0, .g 1, .g 2, .g 3, .g 4, .g 5] c_6_8 (by kernel_rfl)
   refine SD.lay 6 (bm 13 463) [(2, vp 3 0), (3, vs 4), (6, vs 0), (11, vs 1)] [.rd 1 R8 f_1.Banks.1, .rd 1 R8 f_1.Banks.2, .blk 25 [.s 0, .s 1], .blk 25 [nl, nl], .own 1 5 R8 ([] : (List Int))] ?_ (fun c_6_10 => ?_)
   · refine SD.all2 (i := 4) (j := 5) (by kernel_rfl) ?_ ?_
     · refine SW.eff D_6 (i := 4) (bs' := (bm 13 479)) rfl (.inl rfl) rfl (e_app (i := 4) (l := ([] : (List Int))) (sz := 1) (E := 5) (R := R8) (by_ := 1) (m := f_1.Banks.1) tk rfl (by kernel_rfl) rfl (.r (by kernel_rfl)) e_l_327 (by kernel_rfl)) (by kernel_rfl) rfl (by kernel_rfl) ?_
       exact SD.vie D_6 [.g 0, .g 1, .g 2, .g 3, .n, .g 5] c_6_6 (by kernel_rfl)
     refine SW.eff D_6 (i := 5) (bs' := (bm 13 495)) rfl (.inl rfl) rfl (e_lit (sz := 1) (E := 5) (R := R8) (by_ := 1) tk [] ([] : (List Int)) (by kernel_rfl) trivial rfl (by kernel_rfl) (by kernel_rfl)) (by kernel_rfl) rfl (by kernel_rfl) ?_
     exact SD.vie D_6 [.g 0, .g 1, .g 2, .g 3, .g 4, .g 5] c_6_8 (by kernel_rfl)
   refine SD.lay 8 (bm 13 79) [(2, vp 3 0), (3, vs 4), (6, vs 0), (9, vp 2 0)] [.rd 1 R8 f_1.Banks.1, .rd 1 R8 f_1.Banks.2, .blk 25 [.s 0, .s 1], .blk 25 [nl, nl], .own 1 5 R8 ([] : (List Int))] ?_ (fun c_6_11 => ?_)
   · refine SD.all3 (i := 4) (j := 5) (k := 7) (by kernel_rfl) ?_ ?_ ?_
     · refine SW.eff D_6 (i := 4) (bs' := (bm 13 95)) rfl (.inl rfl) rfl (e_app (i := 4) (l := ([] : (List Int))) (sz := 1) (E := 5) (R := R8) (by_ := 1) (m := f_1.Banks.1) tk rfl (by kernel_rfl) rfl (.r (by kernel_rfl)) e_l_327 (by kernel_rfl)) (by kernel_rfl) rfl (by kernel_rfl) ?_
       exact SD.vie D_6 [.g 0, .g 1, .g 2, .g 3, .n, .g 5] c_6_7 (by kernel_rfl)
     · refine SW.eff D_6 (i := 5) (bs' := (bm 13 111)) rfl (.inl rfl) rfl (e_lit (sz := 1) (E := 5) (R := R8) (by_ := 1) tk [] ([] : (List Int)) (by kernel_rfl) trivial rfl (by kernel_rfl) (by kernel_rfl)) (by kernel_rfl) rfl (by kernel_rfl) ?_
       exact SD.vie D_6 [.g 0, .g 1, .g 2, .g 3, .g 4, .g 5] c_6_9 (by kernel_rfl)
     refine SW.eff D_6 (i := 7) (bs' := (bm 13 207)) rfl (.inl rfl) rfl (e_ixa (off := 1) (T := 25) (cs := [.s 0, .s 1]) tk rfl rfl (by kernel_rfl) (by kernel_rfl)) (by kernel_rfl) rfl (by kernel_rfl) ?_
     refine SD.takes tk D_6 [] kn0 [8] [] [] (bm 13 463) [(2, vp 3 0), (3, vs 4), (6, vs 0), (11, vs 1)] rfl (by kernel_rfl) (by kernel_rfl) (by kernel_rfl) ?_
     exact SD.vie D_6 [.g 0, .g 1, .g 2, .g 3, .g 4] c_6_10 (by kernel_rfl)
   refine SD.lay 7 (bm 13 483) [(2, vp 3 0), (3, vs 4), (4, vp 2 0), (8, vs 5), (11, vs 1)] [.rd 1 R8 f_1.Banks.1, .rd 1 R8 f_1.Banks.2, .blk 25 [.s 0, .s 1], .blk 25 [nl, nl], .own 1 5 R8 ([] : (List Int)), .own 1 5 R8 ([] : (List Int))] ?_ (fun c_6_12 => ?_)
   · refine SD.all1 (i := 2) (by kernel_rfl) ?_
     refine SW.eff D_6 (i := 2) (bs' := (bm 13 487)) rfl (.inl rfl) rfl (e_ixa (off := 0) (T := 25) (cs := [.s 0, .s 1]) tk rfl rfl (by kernel_rfl) (by kernel_rfl)) (by kernel_rfl) rfl (by kernel_rfl) ?_
     refine SD.takes tk D_6 [] kn0 [3] [] [] (bm 13 495) [(2, vp 3 0), (3, vs 4), (6, vs 0), (8, vs 5), (11, vs 1)] rfl (by kernel_rfl) (by kernel_rfl) (by kernel_rfl) ?_
     exact SD.vie D_6 [.g 0, .g 1, .g 2, .g 3, .g 4, .g 5] c_6_8 (by kernel_rfl)
   refine SD.lay 9 (bm 13 99) [(2, vp 3 0), (3, vs 4), (4, vp 2 0), (8, vs 5), (9, vp 2 0)] [.rd 1 R8 f_1.Banks.1, .rd 1 R8 f_1.Banks.2, .blk 25 [.s 0, .s 1], .blk 25 [nl, nl], .own 1 5 R8 ([] : (List Int)), .own 1 5 R8 ([] : (List Int))] ?_ (fun c_6_13 => ?_)
   · refine SD.all2 (i := 2) (j := 7) (by kernel_rfl) ?_ ?_
     · refine SW.eff D_6 (i := 2) (bs' := (bm 13 103)) rfl (.inl rfl) rfl (e_ixa (off := 0) (T := 25) (cs := [.s 0, .s 1]) tk rfl rfl (by kernel_rfl) (by kernel_rfl)) (by kernel_rfl) rfl (by kernel_rfl) ?_
       refine SD.takes tk D_6 [] kn0 [3] [] [] (bm 13 111) [(2, vp 3 0), (3, vs 4), (6, vs 0), (8, vs 5), (9, vp 2 0)] rfl (by kernel_rfl) (by kernel_rfl) (by kernel_rfl) ?_
       exact SD.vie D_6 [.g 0, .g 1, .g 2, .g 3, .g 4, .g 5] c_6_9 (by kernel_rfl)
     refine SW.eff D_6 (i := 7) (bs' := (bm 13 227)) rfl (.inl rfl) rfl (e_ixa (off := 1) (T := 25) (cs := [.s 0, .s 1]) tk rfl rfl (by kernel_rfl) (by kernel_rfl)) (by kernel_rfl) rfl (by kernel_rfl) ?_
     refine SD.takes tk D_6 [] kn0 [8] [] [] (bm 13 483) [(2, vp 3 0), (3, vs 4), (4, vp 2 0), (8, vs 5), (11, vs 1)] rfl (by kernel_rfl) (by kernel_rfl) (by kernel_rfl) ?_
     exact SD.vie D_6 [.g 0, .g 1, .g 2, .g 3, .g 4, .g 5] c_6_12 (by kernel_rfl)
   refine SD.lay 8 (bm 13 451) [(2, vp 3 0), (3, vs 4), (4, vp 2 0), (11, vs 1)] [.rd 1 R8 f_1.Banks.1, .rd 1 R8 f_1.Banks.2, .blk 25 [.s 0, .s 1], .blk 25 [nl, nl], .own 1 5 R8 ([] : (List Int))] ?_ (fun c_6_14 => ?_)
   · refine SD.all2 (i := 2) (j := 5) (by kernel_rfl) ?_ ?_
     · refine SW.eff D_6 (i := 2) (bs' := (bm 13 455)) rfl (.inl rfl) rfl (e_ixa (off := 0) (T := 25) (cs := [.s 0, .s 1]) tk rfl rfl (by kernel_rfl) (by kernel_rfl)) (by kernel_rfl) rfl (by kernel_rfl) ?_
       refine SD.takes tk D_6 [] kn0 [3] [] [] (bm 13 463) [(2, vp 3 0), (3, vs 4), (6, vs 0), (11, vs 1)] rfl (by kernel_rfl) (by kernel_rfl) (by kernel_rfl) ?_
       exact SD.vie D_6 [.g 0, .g 1, .g 2, .g 3, .g 4] c_6_10 (by kernel_rfl)
     refine SW.eff D_6 (i := 5) (bs' := (bm 13 483)) rfl (.inl rfl) rfl (e_lit (sz := 1) (E := 5) (R := R8) (by_ := 1) tk [] ([] : (List Int)) (by kernel_rfl) trivial rfl (by kernel_rfl) (by kernel_rfl)) (by kernel_rfl) rfl (by kernel_rfl) ?_
     exact SD.vie D_6 [.g 0, .g 1, .g 2, .g 3, .g 4, .g 5] c_6_12 (by kernel_rfl)
   refine SD.lay 10 (bm 13 67) [(2, vp 3 0), (3, vs 4), (4, vp 2 0), (9, vp 2 0)] [.rd 1 R8 f_1.Banks.1, .rd 1 R8 f_1.Banks.2, .blk 25 [.s 0, .s 1], .blk 25 [nl, nl], .own 1 5 R8 ([] : (List Int))] ?_ (fun c_6_15 => ?_)
   · refine SD.all3 (i := 2) (j := 5) (k := 7) (by kernel_rfl) ?_ ?_ ?_
     · refine SW.eff D_6 (i := 2) (bs' := (bm 13 71)) rfl (.inl rfl) rfl (e_ixa (off := 0) (T := 25) (cs := [.s 0, .s 1]) tk rfl rfl (by kernel_rfl) (by kernel_rfl)) (by kernel_rfl) rfl (by kernel_rfl) ?_
       refine SD.takes tk D_6 [] kn0 [3] [] [] (bm 13 79) [(2, vp 3 0), (3, vs 4), (6, vs 0), (9, vp 2 0)] rfl (by kernel_rfl) (by kernel_rfl) (by kernel_rfl) ?_
       exact SD.vie D_6 [.g 0, .g 1, .g 2, .g 3, .g 4] c_6_11 (by kernel_rfl)
     · refine SW.eff D_6 (i := 5) (bs' := (bm 13 99)) rfl (.inl rfl) rfl (e_lit (sz := 1) (E := 5) (R := R8) (by_ := 1) tk [] ([] : (List Int)) (by kernel_rfl) trivial rfl (by kernel_rfl) (by kernel_rfl)) (by kernel_rfl) rfl (by kernel_rfl) ?_
       exact SD.vie D_6 [.g 0, .g 1, .g 2, .g 3, .g 4, .g 5] c_6_13 (by kernel_rfl)
     refine SW.eff D_6 (i := 7) (bs' := (bm 13 195)) rfl (.inl rfl) rfl (e_ixa (off := 1) (T := 25) (cs := [.s 0, .s 1]) tk rfl rfl (by kernel_rfl) (by kernel_rfl)) (by kernel_rfl) rfl (by kernel_rfl) ?_
     refine SD.takes tk D_6 [] kn0 [8] [] [] (bm 13 451) [(2, vp 3 0), (3, vs 4), (4, vp 2 0), (11, vs 1)] rfl (by kernel_rfl) (by kernel_rfl) (by kernel_rfl) ?_
     exact SD.vie D_6 [.g 0, .g 1, .g 2, .g 3, .g 4] c_6_14 (by kernel_rfl)
   refine SD.lay 6 (bm 13 494) [(2, vp 3 0), (6, vs 0), (8, vs 4), (11, vs 1)] [.rd 1 R8 f_1.Banks.1, .rd 1 R8 f_1.Banks.2, .blk 25 [.s 0, .s 1], .blk 25 [nl, nl], .own 1 5 R8 ([] : (List Int))] ?_ (fun c_6_16 => ?_)
   · refine SD.all1 (i := 0) (by kernel_rfl) ?_
     refine SW.eff D_6 (i := 0) (bs' := (bm 13 495)) rfl (.inl rfl) rfl (e_lit (sz := 1) (E := 5) (R := R8) (by_ := 1) tk [] ([] : (List Int)) (by kernel_rfl) trivial rfl (by kernel_rfl) (by kernel_rfl)) (by kernel_rfl) rfl (by kernel_rfl) ?_
     exact SD.vie D_6 [.g 0, .g 1, .g 2, .g 3, .g 5, .g 4] c_6_8 (by kernel_rfl)
   refine SD.lay 8 (bm 13 110) [(2, vp 3 0), (6, vs 0), (8, vs 4), (9, vp 2 0)] [.rd 1 R8 f_1.Banks.1, .rd 1 R8 f_1.Banks.2, .blk 25 [.s 0, .s 1], .blk 25 [nl, nl], .own 1 5 R8 ([] : (List Int))] ?_ (fun c_6_17 => ?_)
   · refine SD.all2 (i := 0) (j := 7) (by kernel_rfl) ?_ ?_
     · refine SW.eff D_6 (i := 0) (bs' := (bm 13 111)) rfl (.inl rfl) rfl (e_lit (sz := 1) (E := 5) (R := R8) (by_ := 1) tk [] ([] : (List Int)) (by kernel_rfl) trivial rfl (by kernel_rfl) (by kernel_rfl)) (by kernel_rfl) rfl (by kernel_rfl) ?_
       exact SD.vie D_6 [.g 0, .g 1, .g 2, .g 3, .g 5, .g 4] c_6_9 (by kernel_rfl)
     refine SW.eff D_6 (i := 7) (bs' := (bm 13 238)) rfl (.inl rfl) rfl (e_ixa (off := 1) (T := 25) (cs := [.s 0, .s 1]) tk rfl rfl (by kernel_rfl) (by kernel_rfl)) (by kernel_rfl) rfl (by kernel_rfl) ?_
     refine SD.takes tk D_6 [] kn0 [8] [] [] (bm 13 494) [(2, vp 3 0), (6, vs 0), (8, vs 4), (11, vs 1)] rfl (by kernel_rfl) (by kernel_rfl) (by kernel_rfl) ?_
     exact SD.vie D_6 [.g 0, .g 1, .g 2, .g 3, .g 4] c_6_16 (by kernel_rfl)
   refine SD.lay 7 (bm 13 462) [(2, vp 3 0), (6, vs 0), (11, vs 1)] [.rd 1 R8 f_1.Banks.1, .rd 1 R8 f_1.Banks.2, .blk 25 [.s 0, .s 1], .blk 25 [nl, nl]] ?_ (fun c_6_18 => ?_)
   · refine SD.all2 (i := 0) (j := 5) (by kernel_rfl) ?_ ?_
     · refine SW.eff D_6 (i := 0) (bs' := (bm 13 463)) rfl (.inl rfl) rfl (e_lit (sz := 1) (E := 5) (R := R8) (by_ := 1) tk [] ([] : (List Int)) (by kernel_rfl) trivial rfl (by kernel_rfl) (by kernel_rfl)) (by kernel_rfl) rfl (by kernel_rfl) ?_
       exact SD.vie D_6 [.g 0, .g 1, .g 2, .g 3, .g 4] c_6_10 (by kernel_rfl)
     refine SW.eff D_6 (i := 5) (bs' := (bm 13 494)) rfl (.inl rfl) rfl (e_lit (sz := 1) (E := 5) (R := R8) (by_ := 1) tk [] ([] : (List Int)) (by kernel_rfl) trivial rfl (by kernel_rfl) (by kernel_rfl)) (by kernel_rfl) rfl (by kernel_rfl) ?_
     exact SD.vie D_6 [.g 0, .g 1, .g 2, .g 3, .g 4] c_6_16 (by kernel_rfl)
   refine SD.lay 9 (bm 13 78) [(2, vp 3 0), (6, vs 0), (9, vp 2 0)] [.rd 1 R8 f_1.Banks.1, .rd 1 R8 f_1.Banks.2, .blk 25 [.s 0, .s 1], .blk 25 [nl, nl]] ?_ (fun c_6_19 => ?_)
   · refine SD.all3 (i := 0) (j := 5) (k := 7) (by kernel_rfl) ?_ ?_ ?_
     · refine SW.eff D_6 (i := 0) (bs' := (bm 13 79)) rfl (.inl rfl) rfl (e_lit (sz := 1) (E := 5) (R := R8) (by_ := 1) tk [] ([] : (List Int)) (by kernel_rfl) trivial rfl (by kernel_rfl) (by kernel_rfl)) (by kernel_rfl) rfl (by kernel_rfl) ?_
       exact SD.vie D_6 [.g 0, .g 1, .g 2, .g 3, .g 4] c_6_11 (by kernel_rfl)
     · refine SW.eff D_6 (i := 5) (bs' := (bm 13 110)) rfl (.inl rfl) rfl (e_lit (sz := 1) (E := 5) (R := R8) (by_ := 1) tk [] ([] : (List Int)) (by kernel_rfl) trivial rfl (by kernel_rfl) (by kernel_rfl)) (by kernel_rfl) rfl (by kernel_rfl) ?_
       exact SD.vie D_6 [.g 0, .g 1, .g 2, .g 3, .g 4] c_6_17 (by kernel_rfl)
     refine SW.eff D_6 (i := 7) (bs' := (bm 13 206)) rfl (.inl rfl) rfl (e_ixa (off := 1) (T := 25) (cs := [.s 0, .s 1]) tk rfl rfl (by kernel_rfl) (by kernel_rfl)) (by kernel_rfl) rfl (by kernel_rfl) ?_
     refine SD.takes tk D_6 [] kn0 [8] [] [] (bm 13 462) [(2, vp 3 0), (6, vs 0), (11, vs 1)] rfl (by kernel_rfl) (by kernel_rfl) (by kernel_rfl) ?_
     exact SD.vie D_6 [.g 0, .g 1, .g 2, .g 3] c_6_18 (by kernel_rfl)
   refine SD.lay 8 (bm 13 482) [(2, vp 3 0), (4, vp 2 0), (8, vs 4), (11, vs 1)] [.rd 1 R8 f_1.Banks.1, .rd 1 R8 f_1.Banks.2, .blk 25 [.s 0, .s 1], .blk 25 [nl, nl], .own 1 5 R8 ([] : (List Int))] ?_ (fun c_6_20 => ?_)
   · refine SD.all2 (i := 0) (j := 2) (by kernel_rfl) ?_ ?_
     · refine SW.eff D_6 (i := 0) (bs' := (bm 13 483)) rfl (.inl rfl) rfl (e_lit (sz := 1) (E := 5) (R := R8) (by_ := 1) tk [] ([] : (List Int)) (by kernel_rfl) trivial rfl (by kernel_rfl) (by kernel_rfl)) (by kernel_rfl) rfl (by kernel_rfl) ?_
       exact SD.vie D_6 [.g 0, .g 1, .g 2, .g 3, .g 5, .g 4] c_6_12 (by kernel_rfl)
     refine SW.eff D_6 (i := 2) (bs' := (bm 13 486)) rfl (.inl rfl) rfl (e_ixa (off := 0) (T := 25) (cs := [.s 0, .s 1]) tk rfl rfl (by kernel_rfl) (by kernel_rfl)) (by kernel_rfl) rfl (by kernel_rfl) ?_
     refine SD.takes tk D_6 [] kn0 [3] [] [] (bm 13 494) [(2, vp 3 0), (6, vs 0), (8, vs 4), (11, vs 1)] rfl (by kernel_rfl) (by kernel_rfl) (by kernel_rfl) ?_
     exact SD.vie D_6 [.g 0, .g 1, .g 2, .g 3, .g 4] c_6_16 (by kernel_rfl)
   refine SD.lay 10 (bm 13 98) [(2, vp 3 0), (4, vp 2 0), (8, vs 4), (9, vp 2 0)] [.rd 1 R8 f_1.Banks.1, .rd 1 R8 f_1.Banks.2, .blk 25 [.s 0, .s 1], .blk 25 [nl, nl], .own 1 5 R8 ([] : (List Int))] ?_ (fun c_6_21 => ?_)
   · refine SD.all3 (i := 0) (j := 2) (k := 7) (by kernel_rfl) ?_ ?_ ?_
     · refine SW.eff D_6 (i := 0) (bs' := (bm 13 99)) rfl (.inl rfl) rfl (e_lit (sz := 1) (E := 5) (R := R8) (by_ := 1) tk [] ([] : (List Int)) (by kernel_rfl) trivial rfl (by kernel_rfl) (by kernel_rfl)) (by kernel_rfl) rfl (by kernel_rfl) ?_
       exact SD.vie D_6 [.g 0, .g 1, .g 2, .g 3, .g 5, .g 4] c_6_13 (by kernel_rfl)
     · refine SW.eff D_6 (i := 2) (bs' := (bm 13 102)) rfl (.inl rfl) rfl (e_ixa (off := 0) (T := 25) (cs := [.s 0, .s 1]) tk rfl rfl (by kernel_rfl) (by kernel_rfl)) (by kernel_rfl) rfl (by kernel_rfl) ?_
       refine SD.takes tk D_6 [] kn0 [3] [] [] (bm 13 110) [(2, vp 3 0), (6, vs 0), (8, vs 4), (9, vp 2 0)] rfl (by kernel_rfl) (by kernel_rfl) (by kernel_rfl) ?_
       exact SD.vie D_6 [.g 0, .g 1, .g 2, .g 3, .g 4] c_6_17 (by kernel_rfl)
     refine SW.eff D_6 (i := 7) (bs' := (bm 13 226)) rfl (.inl rfl) rfl (e_ixa (off := 1) (T := 25) (cs := [.s 0, .s 1]) tk rfl rfl (by kernel_rfl) (by kernel_rfl)) (by kernel_rfl) rfl (by kernel_rfl) ?_
     refine SD.takes tk D_6 [] kn0 [8] [] [] (bm 13 482) [(2, vp 3 0), (4, vp 2 0), (8, vs 4), (11, vs 1)] rfl (by kernel_rfl) (by kernel_rfl) (by kernel_rfl) ?_
     exact SD.vie D_6 [.g 0, .g 1, .g 2, .g 3, .g 4] c_6_20 (by kernel_rfl)
   refine SD.lay 9 (bm 13 450) [(2, vp 3 0), (4, vp 2 0), (11, vs 1)] [.rd 1 R8 f_1.Banks.1, .rd 1 R8 f_1.Banks.2, .blk 25 [.s 0, .s 1], .blk 25 [nl, nl]] ?_ (fun c_6_22 => ?_)
   · refine SD.all3 (i := 0) (j := 2) (k := 5) (by kernel_rfl) ?_ ?_ ?_
     · refine SW.eff D_6 (i := 0) (bs' := (bm 13 451)) rfl (.inl rfl) rfl (e_lit (sz := 1) (E := 5) (R := R8) (by_ := 1) tk [] ([] : (List Int)) (by kernel_rfl) trivial rfl (by kernel_rfl) (by kernel_rfl)) (by kernel_rfl) rfl (by kernel_rfl) ?_
       exact SD.vie D_6 [.g 0, .g 1, .g 2, .g 3, .g 4] c_6_14 (by kernel_rfl)
     · refine SW.eff D_6 (i := 2) (bs' := (bm 13 454)) rfl (.inl rfl) rfl (e_ixa (off := 0) (T := 25) (cs := [.s 0, .s 1]) tk rfl rfl (by kernel_rfl) (by kernel_rfl)) (by kernel_rfl) rfl (by kernel_rfl) ?_
       refine SD.takes tk D_6 [] kn0 [3] [] [] (bm 13 462) [(2, vp 3 0), (6, vs 0), (11, vs 1)] rfl (by kernel_rfl) (by kernel_rfl) (by kernel_rfl) ?_
       exact SD.vie D_6 [.g 0, .g 1, .g 2, .g 3] c_6_18 (by kernel_rfl)
     refine SW.eff D_6 (i := 5) (bs' := (bm 13 482)) rfl (.inl rfl) rfl (e_lit (sz := 1) (E := 5) (R := R8) (by_ := 1) tk [] ([] : (List Int)) (by kernel_rfl) trivial rfl (by kernel_rfl) (by kernel_rfl)) (by kernel_rfl) rfl (by kernel_rfl) ?_
     exact SD.vie D_6 [.g 0, .g 1, .g 2, .g 3, .g 4] c_6_20 (by kernel_rfl)
   refine SD.all4 (i := 0) (j := 2) (k := 5) (m := 7) (by kernel_rfl) ?_ ?_ ?_ ?_
   · refine SW.eff D_6 (i := 0) (bs' := (bm 13 67)) rfl (.inl rfl) rfl (e_lit (sz := 1) (E := 5) (R := R8) (by_ := 1) tk [] ([] : (List Int)) (by kernel_rfl) trivial rfl (by kernel_rfl) (by kernel_rfl)) (by kernel_rfl) rfl (by kernel_rfl) ?_
     refine SD.norm (itsN := [.rd 1 R8 f_1.Banks.1, .rd 1 R8 f_1.Banks.2, .blk 25 [.s 0, .s 1], .blk 25 [nl, nl], .own 1 5 R8 ([] : (List Int))]) (by kernel_rfl) ?_
     exact SD.vie D_6 [.g 0, .g 1, .g 2, .g 3, .g 4] c_6_15 (by kernel_rfl)
   · refine SW.eff D_6 (i := 2) (bs' := (bm 13 70)) rfl (.inl rfl) rfl (e_ixa (off := 0) (T := 25) (cs := [.s 0, .s 1]) tk rfl rfl (by kernel_rfl) (by kernel_rfl)) (by kernel_rfl) rfl (by kernel_rfl) ?_
     refine SD.norm (itsN := [.rd 1 R8 f_1.Banks.1, .rd 1 R8 f_1.Banks.2, .blk 25 [.s 0, .s 1], .blk 25 [nl, nl]]) (by kernel_rfl) ?_
     refine SD.takes tk D_6 [] kn0 [3] [] [] (bm 13 78) [(2, vp 3 0), (6, vs 0), (9, vp 2 0)] rfl (by kernel_rfl) (by kernel_rfl) (by kernel_rfl) ?_
     exact SD.vie D_6 [.g 0, .g 1, .g 2, .g 3] c_6_19 (by kernel_rfl)
   · refine SW.eff D_6 (i := 5) (bs' := (bm 13 98)) rfl (.inl rfl) rfl (e_lit (sz := 1) (E := 5) (R := R8) (by_ := 1) tk [] ([] : (List Int)) (by kernel_rfl) trivial rfl (by kernel_rfl) (by kernel_rfl)) (by kernel_rfl) rfl (by kernel_rfl) ?_
     refine SD.norm (itsN := [.rd 1 R8 f_1.Banks.1, .rd 1 R8 f_1.Banks.2, .blk 25 [.s 0, .s 1], .blk 25 [nl, nl], .own 1 5 R8 ([] : (List Int))]) (by kernel_rfl) ?_
     exact SD.vie D_6 [.g 0, .g 1, .g 2, .g 3, .g 4] c_6_21 (by kernel_rfl)
   refine SW.eff D_6 (i := 7) (bs' := (bm 13 194)) rfl (.inl rfl) rfl (e_ixa (off := 1) (T := 25) (cs := [.s 0, .s 1]) tk rfl rfl (by kernel_rfl) (by kernel_rfl)) (by kernel_rfl) rfl (by kernel_rfl) ?_
   refine SD.norm (itsN := [.rd 1 R8 f_1.Banks.1, .rd 1 R8 f_1.Banks.2, .blk 25 [.s 0, .s 1], .blk 25 [nl, nl]]) (by kernel_rfl) ?_
   refine SD.takes tk D_6 [] kn0 [8] [] [] (bm 13 450) [(2, vp 3 0), (4, vp 2 0), (11, vs 1)] rfl (by kernel_rfl) (by kernel_rfl) (by kernel_rfl) ?_
   exact SD.vie D_6 [.g 0, .g 1, .g 2, .g 3] c_6_22 (by kernel_rfl)
 rintro a w ⟨c_4, hp, h⟩
 refine h.go ?_
 obtain rfl := some_inv' hp
 exact SC.re (js := [.g 0, .g 1, .g 3, .g 4]) tk (by kernel_rfl)

theorem ok_wirelessref02_Value (F : Nat) (b_1 : (List Int)) (r : Int) (hp : wirelessref02_Value F b_1 = some r) : Spec Tryd.prog 54 [vs 0] [.rd 1 R8 b_1] (vi .u64 r) [.gone] := by
 refine Spec.enter Tryd.func54 rfl Tryd.ntmps54 rfl rfl fun fx => ?_
 refine SC.r tk [(0, vs 0)] [] [] [] (by kernel_rfl) ?_
 refine SC.r tk [(0, vs 0), (3, vi .u64 0)] [] [] [] (by kernel_rfl) ?_
 refine SC.cut (fun a w => ∃ (x_2 : Int), wirelessref02_Value_j1 F x_2 = some r ∧ A 21 1 fx [(3, vi .u64 x_2)] [.gone] a w) ?_ ?_
 · refine SC.r tk [(0, vs 0), (3, vi .u64 0), (4, vi .i64 (w64 ((len b_1) - 1)))] [] [] [] (by kernel_rfl) ?_
   refine SC.block ?_
   obtain ⟨o1, hi1, ho1⟩ := bind_inv hp
   clear hp
   refine SC.loop (fun n a w => ∃ (x_3 : Int) (x_4 : Int), iter (fun s => wirelessref02_Value_l1 F b_1 s.1 s.2) n (x_3, x_4) = some o1 ∧ A 21 1 fx [(0, vs 0), (3, vi .u64 x_3), (4, vi .i64 x_4)] [.rd 1 R8 b_1] a w) F (fun a w h => ⟨0, w64 ((len b_1) - 1), hi1, h.at (js := [.g 0]) (by kernel_rfl)⟩) ?_
   rintro n1 a w ⟨x_3, x_4, hi1, h⟩
   obtain ⟨n1, q1, rfl, hp, hs1⟩ := iter_inv hi1
   replace hp : wirelessref02_Value_l1 F b_1 x_3 x_4 = some q1 := hp
   clear hi1
   refine h.go ?_
   refine SC.seq ?_
   refine SC.r tk [(0, vs 0), (3, vi .u64 x_3), (4, vi .i64 x_4), (9, vb (decide (x_4 ≥ 0)))] [] [] [] (by kernel_rfl) ?_
   refine SC.if' rfl hp (fun hp => ?_) (fun hp => ?_)
   · refine SC.skipThen ?_
     refine SC.seq ?_
     refine SC.block ?_
     refine SC.reg ?_
     obtain ⟨x_5, e_x_5, hp⟩ := bind_inv hp
     refine SL.pre (pre_ix (i := 0) (iv := x_4) (sz := 1) (R := R8) (l := b_1) (by kernel_rfl) rfl e_x_5) ?_
     refine SL.sim tk 9 [(0, vs 0), (3, vi .u64 (wu64 ((wu64 (x_3 * 256)) + (wu64 x_5)))), (4, vi .i64 x_4)] [] [.el 1] [x_4] (by kernel_rfl) ?_
     refine SL.nilThen ?_
     refine SC.reg ?_
     refine SL.sim tk 3 [(0, vs 0), (3, vi .u64 (wu64 ((wu64 (x_3 * 256)) + (wu64 x_5)))), (4, vi .i64 (w64 (x_4 - 1)))] [] [] [] (by kernel_rfl) ?_
     refine SL.nilJ fun a w h => ?_
     exact ⟨n1, Nat.lt_succ_self _, wu64 ((wu64 (x_3 * 256)) + (wu64 x_5)), w64 (x_4 - 1), next_inv hp hs1, h.at (js := [.g 0]) (by kernel_rfl)⟩
   refine SC.exitJ rfl fun a w h => ?_
   have ho := done_inv hp hs1
   replace hp := ho1
   try rw [ho] at hp
   exact ⟨x_3, hp, h.at (js := [.g 0]) (by kernel_rfl)⟩
 rintro a w ⟨x_2, hp, h⟩
 refine h.go ?_
 refine SC.r tk [(2, vi .u64 x_2)] [] [] [] (by kernel_rfl) ?_
 obtain rfl := some_inv' hp
 exact SC.re (js := [.g 0]) tk (by kernel_rfl)

theorem ok_wirelessref02_Num (F : Nat) (size_1 : Int) (v_2 : Int) (r : (List Int)) (hp : wirelessref02_Num F size_1 v_2 = some r) : Spec Tryd.prog 62 [vi .i64 size_1, vi .u64 v_2] [] (vs 0) [.own 1 5 R8 r] := by
 refine Spec.enter Tryd.func62 rfl Tryd.ntmps62 rfl rfl fun fx => ?_
 refine SC.r tk [(0, vi .i64 size_1), (1, vi .u64 v_2)] [] [] [] (by kernel_rfl) ?_
 refine SC.seq ?_
 refine SC.reg ?_
 refine SL.eff (e_lit (sz := 1) (E := 5) (R := R8) (by_ := 1) tk [] ([] : (List Int)) (by kernel_rfl) trivial rfl (by kernel_rfl) (by kernel_rfl)) rfl (by kernel_rfl) ?_
 refine SL.sim tk 1 [(0, vi .i64 size_1), (1, vi .u64 v_2), (5, vs 0)] [] [] [] (by kernel_rfl) ?_
 refine SL.nilThen ?_
 refine SC.cut (fun a w => ∃ (l_3 : (List Int)), wirelessref02_Num_j1 F l_3 = some r ∧ A 22 0 fx [(5, vs 0)] [.own 1 5 R8 l_3] a w) ?_ ?_
 · refine SC.r tk [(0, vi .i64 size_1), (1, vi .u64 v_2), (5, vs 0), (6, vi .i64 0)] [] [] [] (by kernel_rfl) ?_
   refine SC.block ?_
   obtain ⟨o1, hi1, ho1⟩ := bind_inv hp
   clear hp
   refine SC.loop (fun n a w => ∃ (x_4 : Int) (l_5 : (List Int)) (x_6 : Int), iter (fun s => wirelessref02_Num_l1 F size_1 s.1 s.2.1 s.2.2) n (x_4, l_5, x_6) = some o1 ∧ A 22 0 fx [(0, vi .i64 size_1), (1, vi .u64 x_4), (5, vs 0), (6, vi .i64 x_6)] [.own 1 5 R8 l_5] a w) F (fun a w h => ⟨v_2, ([] : (List Int)), 0, hi1, h.at (js := [.g 0]) (by kernel_rfl)⟩) ?_
   rintro n1 a w ⟨x_4, l_5, x_6, hi1, h⟩
   obtain ⟨n1, q1, rfl, hp, hs1⟩ := iter_inv hi1
   replace hp : wirelessref02_Num_l1 F size_1 x_4 l_5 x_6 = some q1 := hp
   clear hi1
   refine h.go ?_
   refine SC.seq ?_
   refine SC.r tk [(0, vi .i64 size_1), (1, vi .u64 x_4), (5, vs 0), (6, vi .i64 x_6), (10, vb (decide (x_6 < size_1)))] [] [] [] (by kernel_rfl) ?_
   refine SC.if' rfl hp (fun hp => ?_) (fun hp => ?_)
   · refine SC.skipThen ?_
     refine SC.seq ?_
     refine SC.block ?_
     refine SC.seq ?_
     refine SC.reg ?_
     refine SL.sim tk 4 [(0, vi .i64 size_1), (1, vi .u64 x_4), (5, vs 0), (6, vi .i64 x_6), (13, vs 0), (16, vi .u8 (wu8 (remp x_4 256)))] [] [.bin .rem .u64 x_4 256 (remp x_4 256) (by kernel_rfl)] [x_4, 256] (by kernel_rfl) ?_
     refine SL.eff (e_lit (sz := 1) (E := 5) (R := R8) (by_ := 1) tk [[ci .u8 (wu8 (remp x_4 256))]] [wu8 (remp x_4 256)] (by kernel_rfl) ⟨Clo.int, trivial⟩ rfl (by kernel_rfl) (by kernel_rfl)) rfl (by kernel_rfl) ?_
     obtain ⟨l_7, e_l_7, hp⟩ := bind_inv hp
     refine SL.eff (e_app (i := 0) (l := l_5) (sz := 1) (E := 5) (R := R8) (by_ := 1) (m := [wu8 (remp x_4 256)]) tk rfl (by kernel_rfl) rfl (.o 5 (by kernel_rfl)) e_l_7 (by kernel_rfl)) rfl (by kernel_rfl) ?_
     refine SL.sim tk 1 [(0, vi .i64 size_1), (1, vi .u64 x_4), (5, vs 2), (6, vi .i64 x_6)] [] [] [] (by kernel_rfl) ?_
     refine SL.nilThen ?_
     refine SC.reg ?_
     refine SL.sim tk 3 [(0, vi .i64 size_1), (1, vi .u64 (quop .u64 x_4 256)), (5, vs 2), (6, vi .i64 x_6)] [] [.bin .quo .u64 x_4 256 (quop .u64 x_4 256) (by kernel_rfl)] [x_4, 256] (by kernel_rfl) ?_
     refine SL.nilThen ?_
     refine SC.reg ?_
     refine SL.sim tk 3 [(0, vi .i64 size_1), (1, vi .u64 (quop .u64 x_4 256)), (5, vs 2), (6, vi .i64 (w64 (x_6 + 1)))] [] [] [] (by kernel_rfl) ?_
     refine SL.nilJ fun a w h => ?_
     exact ⟨n1, Nat.lt_succ_self _, (quop .u64 x_4 256), l_7, w64 (x_6 + 1), next_inv hp hs1, h.at (js := [.g 2]) (by kernel_rfl)⟩
   refine SC.exitJ rfl fun a w h => ?_
   have ho := done_inv hp hs1
   replace hp := ho1
   try rw [ho] at hp
   exact ⟨l_5, hp, h.at (js := [.g 0]) (by kernel_rfl)⟩
 rintro a w ⟨l_3, hp, h⟩
 refine h.go ?_
 refine SC.r tk [(4, vs 0)] [] [] [] (by kernel_rfl) ?_
 obtain rfl := some_inv' hp
 exact SC.re (js := [.g 0]) tk (by kernel_rfl)

theorem ok_wirelessref03_feed (F : Nat) (register_1 : Int) (bit_2 : Int) (r : Int) (hp : wirelessref03_feed F register_1 bit_2 = some r) : Spec Tryd.prog 70 [vi .u32 register_1, vi .u32 bit_2] [] (vi .u32 r) [] := by
 refine Spec.enter Tryd.func70 rfl Tryd.ntmps70 rfl rfl fun fx => ?_
 refine SC.r tk [(0, vi .u32 register_1), (1, vi .u32 bit_2)] [] [] [] (by kernel_rfl) ?_
 refine SC.r tk [(0, vi .u32 register_1), (5, vi .u32 (ixor .u32 (remp register_1 2) bit_2))] [] [.bin .rem .u32 register_1 2 (remp register_1 2) (by kernel_rfl)] [register_1, 2] (by kernel_rfl) ?_
 refine SC.r tk [(0, vi .u32 (quop .u32 register_1 2)), (5, vi .u32 (ixor .u32 (remp register_1 2) bit_2))] [] [.bin .quo .u32 register_1 2 (quop .u32 register_1 2) (by kernel_rfl)] [register_1, 2] (by kernel_rfl) ?_
 refine SC.cut (fun a w => ∃ (x_3 : Int), wirelessref03_feed_j1 F x_3 = some r ∧ A 17 0 fx [(0, vi .u32 x_3)] [] a w) ?_ ?_
 · refine SC.r tk [(0, vi .u32 (quop .u32 register_1 2)), (13, vb ((ixor .u32 (remp register_1 2) bit_2) == 1))] [] [] [] (by kernel_rfl) ?_
   refine SC.if' rfl hp (fun hp => ?_) (fun hp => ?_)
   · refine SC.reg ?_
     refine SL.sim tk 3 [(0, vi .u32 (ixor .u32 (quop .u32 register_1 2) 14311424))] [] [] [] (by kernel_rfl) ?_
     refine SL.nilJ fun a w h => ?_
     exact ⟨ixor .u32 (quop .u32 register_1 2) 14311424, hp, h.at (js := []) (by kernel_rfl)⟩
   refine SC.skipJ fun a w h => ?_
   exact ⟨(quop .u32 register_1 2), hp, h.at (js := []) (by kernel_rfl)⟩
 rintro a w ⟨x_3, hp, h⟩
 refine h.go ?_
 refine SC.r tk [(4, vi .u32 x_3)] [] [] [] (by kernel_rfl) ?_
 obtain rfl := some_inv' hp
 exact SC.re (js := []) tk (by kernel_rfl)

theorem ok_wirelessref03_Sum (F : Nat) (init_1 : Int) (b_2 : (List Int)) (r : Int) (hp : wirelessref03_Sum F init_1 b_2 = some r) : Spec Tryd.prog 63 [vi .u32 init_1, vs 0] [.rd 1 R8 b_2] (vi .u32 r) [.gone] := by
 refine Spec.enter Tryd.func63 rfl Tryd.ntmps63 rfl rfl fun fx => ?_
 refine SC.r tk [(0, vi .u32 init_1), (1, vs 0)] [] [] [] (by kernel_rfl) ?_
 refine SC.r tk [(1, vs 0), (5, vi .u32 (remp init_1 16777216))] [] [.bin .rem .u32 init_1 16777216 (remp init_1 16777216) (by kernel_rfl)] [init_1, 16777216] (by kernel_rfl) ?_
 refine SC.cut (fun a w => ∃ (x_3 : Int), wirelessref03_Sum_j1 F x_3 = some r ∧ A 33 1 fx [(5, vi .u32 x_3)] [.gone] a w) ?_ ?_
 · refine SC.r tk [(1, vs 0), (5, vi .u32 (remp init_1 16777216)), (6, vi .i64 0)] [] [] [] (by kernel_rfl) ?_
   refine SC.block ?_
   obtain ⟨o1, hi1, ho1⟩ := bind_inv hp
   clear hp
   refine SC.loop (fun n a w => ∃ (x_4 : Int) (x_5 : Int), iter (fun s => wirelessref03_Sum_l1 F b_2 s.1 s.2) n (x_4, x_5) = some o1 ∧ A 33 1 fx [(1, vs 0), (5, vi .u32 x_4), (6, vi .i64 x_5)] [.rd 1 R8 b_2] a w) F (fun a w h => ⟨(remp init_1 16777216), 0, hi1, h.at (js := [.g 0]) (by kernel_rfl)⟩) ?_
   rintro n1 a w ⟨x_4, x_5, hi1, h⟩
   obtain ⟨n1, q1, rfl, hp, hs1⟩ := iter_inv hi1
   replace hp : wirelessref03_Sum_l1 F b_2 x_4 x_5 = some q1 := hp
   clear hi1
   refine h.go ?_
   refine SC.seq ?_
   refine SC.r tk [(1, vs 0), (5, vi .u32 x_4), (6, vi .i64 x_5), (14, vb (decide (x_5 < (len b_2))))] [] [] [] (by kernel_rfl) ?_
   refine SC.if' rfl hp (fun hp => ?_) (fun hp => ?_)
   · refine SC.skipThen ?_
     refine SC.cut (fun a w => ∃ (x_6 : Int), wirelessref03_Sum_j2 F x_5 x_6 = some q1 ∧ A 33 1 fx [(1, vs 0), (5, vi .u32 x_6), (6, vi .i64 x_5)] [.rd 1 R8 b_2] a w) ?_ ?_
     · refine SC.block ?_
       obtain ⟨x_7, e_x_7, hp⟩ := bind_inv hp
       refine SC.pre (pre_ix (i := 0) (iv := x_5) (sz := 1) (R := R8) (l := b_2) (by kernel_rfl) rfl e_x_7) ?_
       refine SC.r tk [(1, vs 0), (5, vi .u32 x_4), (6, vi .i64 x_5), (7, vi .u32 (wu32 x_7))] [] [.el 1] [x_5] (by kernel_rfl) ?_
       refine SC.r tk [(1, vs 0), (5, vi .u32 x_4), (6, vi .i64 x_5), (7, vi .u32 (wu32 x_7)), (8, vi .i64 0)] [] [] [] (by kernel_rfl) ?_
       refine SC.block ?_
       obtain ⟨o2, hi2, ho2⟩ := bind_inv hp
       clear hp
       refine SC.loop (fun n a w => ∃ (x_8 : Int) (x_9 : Int) (x_10 : Int), iter (fun s => wirelessref03_Sum_l2 F s.1 s.2.1 s.2.2) n (x_8, x_9, x_10) = some o2 ∧ A 33 1 fx [(1, vs 0), (5, vi .u32 x_8), (6, vi .i64 x_5), (7, vi .u32 x_9), (8, vi .i64 x_10)] [.rd 1 R8 b_2] a w) F (fun a w h => ⟨x_4, wu32 x_7, 0, hi2, h.at (js := [.g 0]) (by kernel_rfl)⟩) ?_
       rintro n2 a w ⟨x_8, x_9, x_10, hi2, h⟩
       obtain ⟨n2, q2, rfl, hp, hs2⟩ := iter_inv hi2
       replace hp : wirelessref03_Sum_l2 F x_8 x_9 x_10 = some q2 := hp
       clear hi2
       refine h.go ?_
       refine SC.seq ?_
       refine SC.r tk [(1, vs 0), (5, vi .u32 x_8), (6, vi .i64 x_5), (7, vi .u32 x_9), (8, vi .i64 x_10), (23, vb (decide (x_10 < 8)))] [] [] [] (by kernel_rfl) ?_
       refine SC.if' rfl hp (fun hp => ?_) (fun hp => ?_)
       · refine SC.skipThen ?_
         refine SC.seq ?_
         refine SC.block ?_
         refine SC.seq ?_
         refine SC.reg ?_
         refine SL.sim tk 3 [(1, vs 0), (5, vi .u32 x_8), (6, vi .i64 x_5), (7, vi .u32 x_9), (8, vi .i64 x_10), (26, vi .u32 x_8), (28, vi .u32 (remp x_9 2))] [] [.bin .rem .u32 x_9 2 (remp x_9 2) (by kernel_rfl)] [x_9, 2] (by kernel_rfl) ?_
         obtain ⟨x_11, e_x_11, hp⟩ := bind_inv hp
         refine SL.eff (e_c Tryd.call70 (ok_wirelessref03_feed F x_8 (remp x_9 2) _ e_x_11) [] [vi .u32 x_8, vi .u32 (remp x_9 2)] (vi .u32 x_11) (by kernel_rfl) (.inl rfl)) rfl (by kernel_rfl) ?_
         refine SL.sim tk 1 [(1, vs 0), (5, vi .u32 x_11), (6, vi .i64 x_5), (7, vi .u32 x_9), (8, vi .i64 x_10)] [] [] [] (by kernel_rfl) ?_
         refine SL.nilThen ?_
         refine SC.reg ?_
         refine SL.sim tk 3 [(1, vs 0), (5, vi .u32 x_11), (6, vi .i64 x_5), (7, vi .u32 (quop .u32 x_9 2)), (8, vi .i64 x_10)] [] [.bin .quo .u32 x_9 2 (quop .u32 x_9 2) (by kernel_rfl)] [x_9, 2] (by kernel_rfl) ?_
         refine SL.nilThen ?_
         refine SC.reg ?_
         refine SL.sim tk 3 [(1, vs 0), (5, vi .u32 x_11), (6, vi .i64 x_5), (7, vi .u32 (quop .u32 x_9 2)), (8, vi .i64 (w64 (x_10 + 1)))] [] [] [] (by kernel_rfl) ?_
         refine SL.nilJ fun a w h => ?_
         exact ⟨n2, Nat.lt_succ_self _, x_11, (quop .u32 x_9 2), w64 (x_10 + 1), next_inv hp hs2, h.at (js := [.g 0]) (by kernel_rfl)⟩
       refine SC.exitJ rfl fun a w h => ?_
       have ho := done_inv hp hs2
       replace hp := ho2
       try rw [ho] at hp
       exact ⟨x_8, hp, h.at (js := [.g 0]) (by kernel_rfl)⟩
     rintro a w ⟨x_6, hp, h⟩
     refine h.go ?_
     refine SC.reg ?_
     refine SL.sim tk 3 [(1, vs 0), (5, vi .u32 x_6), (6, vi .i64 (w64 (x_5 + 1)))] [] [] [] (by kernel_rfl) ?_
     refine SL.nilJ fun a w h => ?_
     exact ⟨n1, Nat.lt_succ_self _, x_6, w64 (x_5 + 1), next_inv hp hs1, h.at (js := [.g 0]) (by kernel_rfl)⟩
   refine SC.exitJ rfl fun a w h => ?_
   have ho := done_inv hp hs1
   replace hp := ho1
   try rw [ho] at hp
   exact ⟨x_4, hp, h.at (js := [.g 0]) (by kernel_rfl)⟩
 rintro a w ⟨x_3, hp, h⟩
 refine h.go ?_
 refine SC.r tk [(4, vi .u32 x_3)] [] [] [] (by kernel_rfl) ?_
 obtain rfl := some_inv' hp
 exact SC.re (js := [.g 0]) tk (by kernel_rfl)

theorem ok_wirelessref39_Header (F : Nat) (count_1 : Int) (r : (List Int)) (hp : wirelessref39_Header F count_1 = some r) : Spec Tryd.prog 48 [vi .i64 count_1] [] (vs 0) [.rd 1 R8 r] := by
 refine Spec.enter Tryd.func48 rfl Tryd.ntmps48 rfl rfl fun fx => ?_
 refine SC.r tk [(0, vi .i64 count_1)] [] [] [] (by kernel_rfl) ?_
 refine SC.seq ?_
 refine SC.reg ?_
 refine SL.eff (e_lit (sz := 1) (E := 5) (R := R8) (by_ := 1) tk [[ci .u8 66], [ci .u8 75]] [66, 75] (by kernel_rfl) ⟨Clo.int, ⟨Clo.int, trivial⟩⟩ rfl (by kernel_rfl) (by kernel_rfl)) rfl (by kernel_rfl) ?_
 refine SL.sim tk 2 [(4, vs 0), (6, vi .u64 (wu64 count_1))] [] [] [] (by kernel_rfl) ?_
 obtain ⟨x_2, e_x_2, hp⟩ := bind_inv hp
 refine SL.eff (e_c Tryd.call62 (ok_wirelessref02_Num F 4 (wu64 count_1) _ e_x_2) [] [vi .i64 4, vi .u64 (wu64 count_1)] (vs 1) (by kernel_rfl) (.inl rfl)) rfl (by kernel_rfl) ?_
 obtain ⟨l_3, e_l_3, hp⟩ := bind_inv hp
 refine SL.eff (e_app (i := 0) (l := [66, 75]) (sz := 1) (E := 5) (R := R8) (by_ := 1) (m := x_2) tk rfl (by kernel_rfl) rfl (.o 5 (by kernel_rfl)) e_l_3 (by kernel_rfl)) rfl (by kernel_rfl) ?_
 refine SL.norm (itsN := [.gone, .own 1 5 R8 x_2, .own 1 5 R8 l_3]) (by kernel_rfl) ?_
 refine SL.sim tk 1 [(3, vs 2)] [] [] [] (by kernel_rfl) ?_
 refine SL.nilThen ?_
 refine SC.seq ?_
 refine SC.reg ?_
 refine SL.sim tk 2 [(9, vs 2), (10, vs 2)] [] [] [] (by kernel_rfl) ?_
 obtain ⟨x_4, e_x_4, hp⟩ := bind_inv hp
 refine SL.eff (e_c Tryd.call63 (ok_wirelessref03_Sum F 0 l_3 _ e_x_4) [.l 2] [vi .u32 0, vs 2] (vi .u32 x_4) (by kernel_rfl) (.inr ⟨trivial, trivial⟩)) rfl (by kernel_rfl) ?_
 refine SL.sim tk 1 [(9, vs 2), (12, vi .u64 (wu64 x_4))] [] [] [] (by kernel_rfl) ?_
 obtain ⟨x_5, e_x_5, hp⟩ := bind_inv hp
 refine SL.eff (e_c Tryd.call62 (ok_wirelessref02_Num F 3 (wu64 x_4) _ e_x_5) [] [vi .i64 3, vi .u64 (wu64 x_4)] (vs 3) (by kernel_rfl) (.inl rfl)) rfl (by kernel_rfl) ?_
 refine SL.norm (itsN := [.gone, .own 1 5 R8 x_2, .own 1 5 R8 l_3, .own 1 5 R8 x_5]) (by kernel_rfl) ?_
 obtain ⟨l_6, e_l_6, hp⟩ := bind_inv hp
 refine SL.eff (e_app (i := 2) (l := l_3) (sz := 1) (E := 5) (R := R8) (by_ := 1) (m := x_5) tk rfl (by kernel_rfl) rfl (.o 5 (by kernel_rfl)) e_l_6 (by kernel_rfl)) rfl (by kernel_rfl) ?_
 refine SL.eff (e_lit (sz := 1) (E := 5) (R := R8) (by_ := 1) tk [[ci .u8 0]] [0] (by kernel_rfl) ⟨Clo.int, trivial⟩ rfl (by kernel_rfl) (by kernel_rfl)) rfl (by kernel_rfl) ?_
 obtain ⟨l_7, e_l_7, hp⟩ := bind_inv hp
 refine SL.eff (e_app (i := 4) (l := l_6) (sz := 1) (E := 5) (R := R8) (by_ := 1) (m := [0]) tk rfl (by kernel_rfl) rfl (.o 5 (by kernel_rfl)) e_l_7 (by kernel_rfl)) rfl (by kernel_rfl) ?_
 refine SL.sim tk 1 [(2, vs 6)] [] [] [] (by kernel_rfl) ?_
 refine SL.nilThen ?_
 obtain rfl := some_inv' hp
 exact SC.re (js := [.z 6]) tk (by kernel_rfl)

theorem ok_wirelessref39_count (F : Nat) (b_1 : (List Int)) (r : Int) (hp : wirelessref39_count F b_1 = some r) : Spec Tryd.prog 36 [vs 0] [.rd 1 R8 b_1] (vi .i64 r) [.gone] := by
 refine Spec.enter Tryd.func36 rfl Tryd.ntmps36 rfl rfl fun fx => ?_
 refine SC.r tk [(0, vs 0)] [] [] [] (by kernel_rfl) ?_
 refine SC.seq ?_
 refine SC.r tk [(0, vs 0), (6, vb (decide ((len b_1) < 10)))] [] [] [] (by kernel_rfl) ?_
 refine SC.if' rfl hp (fun hp => ?_) (fun hp => ?_)
 · refine SC.r tk [(2, vi .i64 (-1))] [] [] [] (by kernel_rfl) ?_
   obtain rfl := some_inv' hp
   exact SC.re (js := [.g 0]) tk (by kernel_rfl)
 refine SC.skipThen ?_
 refine SC.seq ?_
 refine SC.reg ?_
 refine SL.sim tk 1 [(0, vs 0), (7, vs 0)] [] [] [] (by kernel_rfl) ?_
 obtain ⟨l_2, e_l_2, hp⟩ := bind_inv hp
 refine SL.eff (e_sub (sz := 1) (E := 5) (R := R8) (by_ := 1) (l := b_1) tk rfl (.inl ⟨0, rfl, (by kernel_rfl)⟩) rfl rfl e_l_2 (by kernel_rfl)) rfl (by kernel_rfl) ?_
 obtain ⟨x_3, e_x_3, hp⟩ := bind_inv hp
 refine SL.eff (e_c Tryd.call54 (ok_wirelessref02_Value F l_2 _ e_x_3) [.g 1] [vs 1] (vi .u64 x_3) (by kernel_rfl) (.inl rfl)) rfl (by kernel_rfl) ?_
 refine SL.sim tk 2 [(0, vs 0), (3, vi .i64 (w64 x_3))] [] [] [] (by kernel_rfl) ?_
 refine SL.nilThen ?_
 refine SC.seq ?_
 refine SC.cut (fun a w => ∃ (z_4 : Bool), wirelessref39_count_j1 F x_3 z_4 = some r ∧ A 19 1 fx [(3, vi .i64 (w64 x_3)), (17, vb z_4)] [.gone] a w) ?_ ?_
 · refine SC.draw MO [true, true] (by kernel_rfl) fun kap_5 D_6 => ?_
   refine SD.takes tk D_6 [] kn0 [0, 3] [] [] [I, O, O, I, O, O, O] [(3, vi .i64 (w64 x_3)), (11, vs 0), (14, vi .i64 (w64 x_3))] rfl (by kernel_rfl) (by kernel_rfl) (by kernel_rfl) ?_
   obtain ⟨l_7, e_l_7, hp⟩ := bind_inv hp
   refine SD.sub (sz := 1) (E := 5) (R := R8) (by_ := 1) (l := b_1) tk D_6 (i := 1) [I, I, O, I, O, O, O] rfl rfl (by kernel_rfl) rfl rfl rfl (.inl ⟨0, rfl, (by kernel_rfl)⟩) rfl rfl e_l_7 (by kernel_rfl) ?_
   refine SD.norm (itsN := [.rd 1 R8 b_1, .rd 1 R8 l_2, .rd 1 R8 l_7]) (by kernel_rfl) ?_
   obtain ⟨x_328, e_x_328, hp⟩ := bind_inv hp
   refine SD.lay 0 [I, I, I, I, I, I, I] [(3, vi .i64 (w64 x_3)), (17, vb ((str l_7) != (str x_328)))] [.rd 1 R8 b_1, .rd 1 R8 l_2] ?_ (fun c_7_0 => ?_)
   · refine SD.done (by kernel_rfl) fun a w h => ?_
     exact ⟨((str l_7) != (str x_328)), hp, h.at (js := [.g 0]) (by kernel_rfl)⟩
   refine SD.lay 1 [I, I, I, I, I, I, O] [(3, vi .i64 (w64 x_3)), (13, vt 3), (16, vt 5)] [.rd 1 R8 b_1, .rd 1 R8 l_2, .gone, .str (str l_7), .gone, .str (str x_328)] ?_ (fun c_7_1 => ?_)
   · refine SD.all1 (i := 6) (by kernel_rfl) ?_
     refine SW.eff D_6 (i := 6) (v := vb ((str l_7) != (str x_328))) (bs' := [I, I, I, I, I, I, I]) rfl (.inl rfl) rfl (e_val tk (by kernel_rfl)) (by kernel_rfl) rfl (by kernel_rfl) ?_
     exact SD.vie D_6 [.g 0, .g 1] c_7_0 (by kernel_rfl)
   refine SD.lay 2 [I, I, I, I, I, O, O] [(3, vi .i64 (w64 x_3)), (13, vt 3), (15, vs 4)] [.rd 1 R8 b_1, .rd 1 R8 l_2, .gone, .str (str l_7), .rd 1 R8 x_328] ?_ (fun c_7_2 => ?_)
   · refine SD.all1 (i := 5) (by kernel_rfl) ?_
     refine SW.eff D_6 (i := 5) (bs' := [I, I, I, I, I, I, O]) rfl (.inl rfl) rfl (e_b2s (l := x_328) tk rfl (.r (by kernel_rfl)) (by kernel_rfl)) (by kernel_rfl) rfl (by kernel_rfl) ?_
     exact SD.vie D_6 [.g 0, .g 1, .n, .g 3, .n, .g 5] c_7_1 (by kernel_rfl)
   refine SD.lay 3 [I, I, I, I, O, O, O] [(3, vi .i64 (w64 x_3)), (13, vt 3), (14, vi .i64 (w64 x_3))] [.rd 1 R8 b_1, .rd 1 R8 l_2, .gone, .str (str l_7)] ?_ (fun c_7_3 => ?_)
   · refine SD.all1 (i := 4) (by kernel_rfl) ?_
     refine SW.eff D_6 (i := 4) (bs' := [I, I, I, I, I, O, O]) rfl (.inl rfl) rfl (e_c Tryd.call48 (ok_wirelessref39_Header F (w64 x_3) _ e_x_328) [] [vi .i64 (w64 x_3)] (vs 4) (by kernel_rfl) (.inl rfl)) (by kernel_rfl) rfl (by kernel_rfl) ?_
     exact SD.vie D_6 [.g 0, .g 1, .n, .g 3, .g 4] c_7_2 (by kernel_rfl)
   refine SD.lay 2 [I, I, O, I, I, I, O] [(3, vi .i64 (w64 x_3)), (12, vs 2), (16, vt 4)] [.rd 1 R8 b_1, .rd 1 R8 l_2, .rd 1 R8 l_7, .gone, .str (str x_328)] ?_ (fun c_7_4 => ?_)
   · refine SD.all1 (i := 2) (by kernel_rfl) ?_
     refine SW.eff D_6 (i := 2) (bs' := [I, I, I, I, I, I, O]) rfl (.inl rfl) rfl (e_b2s (l := l_7) tk rfl (.r (by kernel_rfl)) (by kernel_rfl)) (by kernel_rfl) rfl (by kernel_rfl) ?_
     exact SD.vie D_6 [.g 0, .g 1, .n, .g 5, .n, .g 4] c_7_1 (by kernel_rfl)
   refine SD.lay 3 [I, I, O, I, I, O, O] [(3, vi .i64 (w64 x_3)), (12, vs 2), (15, vs 3)] [.rd 1 R8 b_1, .rd 1 R8 l_2, .rd 1 R8 l_7, .rd 1 R8 x_328] ?_ (fun c_7_5 => ?_)
   · refine SD.all2 (i := 2) (j := 5) (by kernel_rfl) ?_ ?_
     · refine SW.eff D_6 (i := 2) (bs' := [I, I, I, I, I, O, O]) rfl (.inl rfl) rfl (e_b2s (l := l_7) tk rfl (.r (by kernel_rfl)) (by kernel_rfl)) (by kernel_rfl) rfl (by kernel_rfl) ?_
       exact SD.vie D_6 [.g 0, .g 1, .n, .g 4, .g 3] c_7_2 (by kernel_rfl)
     refine SW.eff D_6 (i := 5) (bs' := [I, I, O, I, I, I, O]) rfl (.inl rfl) rfl (e_b2s (l := x_328) tk rfl (.r (by kernel_rfl)) (by kernel_rfl)) (by kernel_rfl) rfl (by kernel_rfl) ?_
     exact SD.vie D_6 [.g 0, .g 1, .g 2, .n, .g 4] c_7_4 (by kernel_rfl)
   refine SD.all2 (i := 2) (j := 4) (by kernel_rfl) ?_ ?_
   · refine SW.eff D_6 (i := 2) (bs' := [I, I, I, I, O, O, O]) rfl (.inl rfl) rfl (e_b2s (l := l_7) tk rfl (.r (by kernel_rfl)) (by kernel_rfl)) (by kernel_rfl) rfl (by kernel_rfl) ?_
     exact SD.vie D_6 [.g 0, .g 1, .n, .g 3] c_7_3 (by kernel_rfl)
   refine SW.eff D_6 (i := 4) (bs' := [I, I, O, I, I, O, O]) rfl (.inl rfl) rfl (e_c Tryd.call48 (ok_wirelessref39_Header F (w64 x_3) _ e_x_328) [] [vi .i64 (w64 x_3)] (vs 3) (by kernel_rfl) (.inl rfl)) (by kernel_rfl) rfl (by kernel_rfl) ?_
   exact SD.vie D_6 [.g 0, .g 1, .g 2, .g 3] c_7_5 (by kernel_rfl)
 rintro a w ⟨z_4, hp, h⟩
 refine h.go ?_
 refine SC.if' rfl hp (fun hp => ?_) (fun hp => ?_)
 · refine SC.r tk [(2, vi .i64 (-1))] [] [] [] (by kernel_rfl) ?_
   obtain rfl := some_inv' hp
   exact SC.re (js := [.g 0]) tk (by kernel_rfl)
 refine SC.skipThen ?_
 refine SC.r tk [(2, vi .i64 (w64 x_3))] [] [] [] (by kernel_rfl) ?_
 obtain rfl := some_inv' hp
 exact SC.re (js := [.g 0]) tk (by kernel_rfl)

theorem ok_wirelessref39_Record (F : Nat) (key_1 : Int) (value_2 : (List Int)) (r : (List Int)) (hp : wirelessref39_Record F key_1 value_2 = some r) : Spec Tryd.prog 46 [vi .u16 key_1, vs 0] [.rd 1 R8 value_2] (vs 1) [.gone, .rd 1 R8 r] := by
 refine Spec.enter Tryd.func46 rfl Tryd.ntmps46 rfl rfl fun fx => ?_
 refine SC.r tk [(0, vi .u16 key_1), (1, vs 0)] [] [] [] (by kernel_rfl) ?_
 refine SC.seq ?_
 refine SC.reg ?_
 refine SL.sim tk 3 [(0, vi .u16 key_1), (1, vs 0), (8, vi .u64 (wu64 (len value_2)))] [] [] [] (by kernel_rfl) ?_
 obtain ⟨x_3, e_x_3, hp⟩ := bind_inv hp
 refine SL.eff (e_c Tryd.call62 (ok_wirelessref02_Num F 2 (wu64 (len value_2)) _ e_x_3) [] [vi .i64 2, vi .u64 (wu64 (len value_2))] (vs 1) (by kernel_rfl) (.inl rfl)) rfl (by kernel_rfl) ?_
 refine SL.sim tk 2 [(1, vs 0), (9, vs 1), (11, vi .u64 (wu64 key_1))] [] [] [] (by kernel_rfl) ?_
 obtain ⟨x_4, e_x_4, hp⟩ := bind_inv hp
 refine SL.eff (e_c Tryd.call62 (ok_wirelessref02_Num F 2 (wu64 key_1) _ e_x_4) [] [vi .i64 2, vi .u64 (wu64 key_1)] (vs 2) (by kernel_rfl) (.inl rfl)) rfl (by kernel_rfl) ?_
 refine SL.norm (itsN := [.rd 1 R8 value_2, .own 1 5 R8 x_3, .own 1 5 R8 x_4]) (by kernel_rfl) ?_
 obtain ⟨l_5, e_l_5, hp⟩ := bind_inv hp
 refine SL.eff (e_app (i := 1) (l := x_3) (sz := 1) (E := 5) (R := R8) (by_ := 1) (m := x_4) tk rfl (by kernel_rfl) rfl (.o 5 (by kernel_rfl)) e_l_5 (by kernel_rfl)) rfl (by kernel_rfl) ?_
 refine SL.sim tk 1 [(13, vs 3), (14, vs 0)] [] [] [] (by kernel_rfl) ?_
 obtain ⟨l_6, e_l_6, hp⟩ := bind_inv hp
 refine SL.eff (e_app (i := 3) (l := l_5) (sz := 1) (E := 5) (R := R8) (by_ := 1) (m := value_2) tk rfl (by kernel_rfl) rfl (.r (by kernel_rfl)) e_l_6 (by kernel_rfl)) rfl (by kernel_rfl) ?_
 refine SL.sim tk 1 [(5, vs 4)] [] [] [] (by kernel_rfl) ?_
 refine SL.nilThen ?_
 refine SC.seq ?_
 refine SC.reg ?_
 refine SL.sim tk 2 [(16, vs 4), (17, vs 4)] [] [] [] (by kernel_rfl) ?_
 obtain ⟨x_7, e_x_7, hp⟩ := bind_inv hp
 refine SL.eff (e_c Tryd.call63 (ok_wirelessref03_Sum F 0 l_6 _ e_x_7) [.l 4] [vi .u32 0, vs 4] (vi .u32 x_7) (by kernel_rfl) (.inr ⟨trivial, trivial⟩)) rfl (by kernel_rfl) ?_
 refine SL.norm (itsN := [.rd 1 R8 value_2, .gone, .own 1 5 R8 x_4, .gone, .own 1 5 R8 l_6]) (by kernel_rfl) ?_
 refine SL.sim tk 1 [(16, vs 4), (19, vi .u64 (wu64 x_7))] [] [] [] (by kernel_rfl) ?_
 obtain ⟨x_8, e_x_8, hp⟩ := bind_inv hp
 refine SL.eff (e_c Tryd.call62 (ok_wirelessref02_Num F 3 (wu64 x_7) _ e_x_8) [] [vi .i64 3, vi .u64 (wu64 x_7)] (vs 5) (by kernel_rfl) (.inl rfl)) rfl (by kernel_rfl) ?_
 obtain ⟨l_9, e_l_9, hp⟩ := bind_inv hp
 refine SL.eff (e_app (i := 4) (l := l_6) (sz := 1) (E := 5) (R := R8) (by_ := 1) (m := x_8) tk rfl (by kernel_rfl) rfl (.o 5 (by kernel_rfl)) e_l_9 (by kernel_rfl)) rfl (by kernel_rfl) ?_
 refine SL.eff (e_lit (sz := 1) (E := 5) (R := R8) (by_ := 1) tk [[ci .u8 0]] [0] (by kernel_rfl) ⟨Clo.int, trivial⟩ rfl (by kernel_rfl) (by kernel_rfl)) rfl (by kernel_rfl) ?_
 refine SL.norm (itsN := [.rd 1 R8 value_2, .gone, .own 1 5 R8 x_4, .gone, .gone, .own 1 5 R8 x_8, .own 1 5 R8 l_9, .own 1 5 R8 [0]]) (by kernel_rfl) ?_
 obtain ⟨l_10, e_l_10, hp⟩ := bind_inv hp
 refine SL.eff (e_app (i := 6) (l := l_9) (sz := 1) (E := 5) (R := R8) (by_ := 1) (m := [0]) tk rfl (by kernel_rfl) rfl (.o 5 (by kernel_rfl)) e_l_10 (by kernel_rfl)) rfl (by kernel_rfl) ?_
 refine SL.sim tk 1 [(4, vs 8)] [] [] [] (by kernel_rfl) ?_
 refine SL.nilThen ?_
 obtain rfl := some_inv' hp
 exact SC.re (js := [.g 0, .z 8]) tk (by kernel_rfl)

theorem ok_wirelessref39_Set (F : Nat) (l_1 : (List T_api_Item)) (key_2 : Int) (value_3 : (List Int)) (r : (List T_api_Item)) (hp : wirelessref39_Set F l_1 key_2 value_3 = some r) : Spec Tryd.prog 47 [vs 0, vi .u16 key_2, vs 1] [.rd 2 R_T_api_Item l_1, .rd 1 R8 value_3] (vs 2) [.gone, .gone, .rd 2 R_T_api_Item r] := by
 refine Spec.enter Tryd.func47 rfl Tryd.ntmps47 rfl rfl fun fx => ?_
 refine SC.r tk [(0, vs 0), (1, vi .u16 key_2), (2, vs 1)] [] [] [] (by kernel_rfl) ?_
 refine SC.seq ?_
 refine SC.reg ?_
 refine SL.eff (e_lit (sz := 2) (E := 71) (R := R_T_api_Item) (by_ := 32) tk [] ([] : (List T_api_Item)) (by kernel_rfl) trivial rfl (by kernel_rfl) (by kernel_rfl)) rfl (by kernel_rfl) ?_
 refine SL.sim tk 1 [(0, vs 0), (1, vi .u16 key_2), (2, vs 1), (7, vs 2)] [] [] [] (by kernel_rfl) ?_
 refine SL.nilThen ?_
 refine SC.r tk [(0, vs 0), (1, vi .u16 key_2), (2, vs 1), (7, vs 2), (8, vb ((len value_3) == 0))] [] [] [] (by kernel_rfl) ?_
 refine SC.cut (fun a w => ∃ (l_4 : (List T_api_Item)) (z_5 : Bool), wirelessref39_Set_j1 F key_2 value_3 l_4 z_5 = some r ∧ A 64 2 fx [(1, vi .u16 key_2), (2, vs 1), (7, vs 2), (8, vb z_5)] [.gone, .rd 1 R8 value_3, .own 2 71 R_T_api_Item l_4] a w) ?_ ?_
 · refine SC.r tk [(0, vs 0), (1, vi .u16 key_2), (2, vs 1), (7, vs 2), (8, vb ((len value_3) == 0)), (9, vi .i64 0)] [] [] [] (by kernel_rfl) ?_
   refine SC.block ?_
   obtain ⟨o1, hi1, ho1⟩ := bind_inv hp
   clear hp
   refine SC.loop (fun n a w => ∃ (l_9 : (List T_api_Item)) (z_10 : Bool) (x_11 : Int), iter (fun s => wirelessref39_Set_l1 F l_1 key_2 value_3 s.1 s.2.1 s.2.2) n (l_9, z_10, x_11) = some o1 ∧ A 64 2 fx [(0, vs 0), (1, vi .u16 key_2), (2, vs 1), (7, vs 2), (8, vb z_10), (9, vi .i64 x_11)] [.rd 2 R_T_api_Item l_1, .rd 1 R8 value_3, .own 2 71 R_T_api_Item l_9] a w) F (fun a w h => ⟨([] : (List T_api_Item)), ((len value_3) == 0), 0, hi1, h.at (js := [.g 0, .g 1, .g 2]) (by kernel_rfl)⟩) ?_
   rintro n1 a w ⟨l_9, z_10, x_11, hi1, h⟩
   obtain ⟨n1, q1, rfl, hp, hs1⟩ := iter_inv hi1
   replace hp : wirelessref39_Set_l1 F l_1 key_2 value_3 l_9 z_10 x_11 = some q1 := hp
   clear hi1
   refine h.go ?_
   refine SC.seq ?_
   refine SC.r tk [(0, vs 0), (1, vi .u16 key_2), (2, vs 1), (7, vs 2), (8, vb z_10), (9, vi .i64 x_11), (17, vb (decide (x_11 < (len l_1))))] [] [] [] (by kernel_rfl) ?_
   refine SC.if' rfl hp (fun hp => ?_) (fun hp => ?_)
   · refine SC.skipThen ?_
     refine SC.cut (fun a w => ∃ (l_12 : (List T_api_Item)) (z_13 : Bool), wirelessref39_Set_j3 F x_11 l_12 z_13 = some q1 ∧ A 64 2 fx [(0, vs 0), (1, vi .u16 key_2), (2, vs 1), (7, vs 2), (8, vb z_13), (9, vi .i64 x_11)] [.rd 2 R_T_api_Item l_1, .rd 1 R8 value_3, .own 2 71 R_T_api_Item l_12] a w) ?_ ?_
     · refine SC.block ?_
       refine SC.cut (fun a w => ∃ (l_14 : (List T_api_Item)) (z_15 : Bool), wirelessref39_Set_j4 F l_1 key_2 x_11 l_14 z_15 = some q1 ∧ A 64 2 fx [(0, vs 0), (1, vi .u16 key_2), (2, vs 1), (7, vs 2), (8, vb z_15), (9, vi .i64 x_11)] [.rd 2 R_T_api_Item l_1, .rd 1 R8 value_3, .own 2 71 R_T_api_Item l_14] a w) ?_ ?_
       · refine SC.seq ?_
         refine SC.reg ?_
         refine SL.sim tk 3 [(0, vs 0), (1, vi .u16 key_2), (2, vs 1), (7, vs 2), (8, vb z_10), (9, vi .i64 x_11), (22, vb (!z_10))] [] [] [] (by kernel_rfl) ?_
         obtain ⟨z_20, hz, hpr⟩ := bind_inv hp
         clear hp
         refine SL.cutAt 8 (fun a w => A 64 2 fx [(0, vs 0), (1, vi .u16 key_2), (2, vs 1), (7, vs 2), (8, vb z_10), (9, vi .i64 x_11), (30, vb z_20)] [.rd 2 R_T_api_Item l_1, .rd 1 R8 value_3, .own 2 71 R_T_api_Item l_9] a w) ?_ ?_
         · have hp := hz
           rcases Bool.eq_false_or_eq_true ((!z_10)) with hg_19 | hg_19
           · replace hp := if_t hp hg_19
             refine SL.yes rfl rfl hg_19 ?_
             refine SL.sim tk 1 [(0, vs 0), (1, vi .u16 key_2), (2, vs 1), (7, vs 2), (8, vb z_10), (9, vi .i64 x_11), (22, vb (!z_10)), (23, vs 0)] [] [] [] (by kernel_rfl) ?_
             refine SL.yes rfl rfl hg_19 ?_
             refine SL.sim tk 1 [(0, vs 0), (1, vi .u16 key_2), (2, vs 1), (7, vs 2), (8, vb z_10), (9, vi .i64 x_11), (22, vb (!z_10)), (23, vs 0), (24, vi .i64 x_11)] [] [] [] (by kernel_rfl) ?_
             refine SL.yes rfl rfl hg_19 ?_
             obtain ⟨x_24, e_x_24, hp⟩ := bind_inv hp
             refine SL.pre (pre_ix (i := 0) (iv := x_11) (sz := 2) (R := R_T_api_Item) (l := l_1) (by kernel_rfl) rfl e_x_24) ?_
             refine SL.sim tk 1 [(0, vs 0), (1, vi .u16 key_2), (2, vs 1), (7, vs 2), (8, vb z_10), (9, vi .i64 x_11), (22, vb (!z_10)), (23, vs 0), (24, vi .i64 x_11), (25, vp 3 0)] [] [.el 3] [x_11] (by kernel_rfl) ?_
             refine SL.yes rfl rfl hg_19 ?_
             refine SL.sim tk 1 [(0, vs 0), (1, vi .u16 key_2), (2, vs 1), (7, vs 2), (8, vb z_10), (9, vi .i64 x_11), (22, vb (!z_10)), (23, vs 0), (24, vi .i64 x_11), (25, vp 3 0), (26, vp 3 0)] [] [] [] (by kernel_rfl) ?_
             refine SL.yes rfl rfl hg_19 ?_
             refine SL.sim tk 1 [(0, vs 0), (1, vi .u16 key_2), (2, vs 1), (7, vs 2), (8, vb z_10), (9, vi .i64 x_11), (22, vb (!z_10)), (23, vs 0), (24, vi .i64 x_11), (25, vp 3 0), (26, vp 3 0), (27, vi .u16 x_24.Key)] [] [] [] (by kernel_rfl) ?_
             refine SL.yes rfl rfl hg_19 ?_
             refine SL.sim tk 1 [(0, vs 0), (1, vi .u16 key_2), (2, vs 1), (7, vs 2), (8, vb z_10), (9, vi .i64 x_11), (22, vb (!z_10)), (23, vs 0), (24, vi .i64 x_11), (25, vp 3 0), (26, vp 3 0), (27, vi .u16 x_24.Key), (28, vi .u16 key_2)] [] [] [] (by kernel_rfl) ?_
             refine SL.yes rfl rfl hg_19 ?_
             refine SL.sim tk 1 [(0, vs 0), (1, vi .u16 key_2), (2, vs 1), (7, vs 2), (8, vb z_10), (9, vi .i64 x_11), (22, vb (!z_10)), (23, vs 0), (24, vi .i64 x_11), (25, vp 3 0), (26, vp 3 0), (27, vi .u16 x_24.Key), (28, vi .u16 key_2), (29, vb (decide (x_24.Key ≥ key_2)))] [] [] [] (by kernel_rfl) ?_
             refine SL.pickt rfl hg_19 rfl rfl ?_
             refine SL.nilJ fun a w h => ?_
             obtain rfl := some_inv' hp
             exact h.at (js := [.g 0, .g 1, .g 2]) (by kernel_rfl)
           replace hp := if_f hp hg_19
           refine SL.no rfl rfl hg_19 rfl ?_
           refine SL.no rfl rfl hg_19 rfl ?_
           refine SL.no rfl rfl hg_19 rfl ?_
           refine SL.no rfl rfl hg_19 rfl ?_
           refine SL.no rfl rfl hg_19 rfl ?_
           refine SL.no rfl rfl hg_19 rfl ?_
           refine SL.no rfl rfl hg_19 rfl ?_
           refine SL.pickf rfl hg_19 rfl rfl ?_
           refine SL.nilJ fun a w h => ?_
           obtain rfl := some_inv' hp
           exact h.at (js := [.g 0, .g 1, .g 2]) (by kernel_rfl)
         intro a w h
         have hp := hpr; clear hpr hz
         refine h.goL ?_
         refine SL.nilThen ?_
         refine SC.if' rfl hp (fun hp => ?_) (fun hp => ?_)
         · refine SC.seq ?_
           refine SC.reg ?_
           refine SL.sim tk 2 [(0, vs 0), (1, vi .u16 key_2), (2, vs 1), (7, vs 2), (9, vi .i64 x_11), (31, vs 2), (32, vi .u16 key_2)] [] [] [] (by kernel_rfl) ?_
           refine SL.eff (e_lit (sz := 1) (E := 5) (R := R8) (by_ := 1) tk [] ([] : (List Int)) (by kernel_rfl) trivial rfl (by kernel_rfl) (by kernel_rfl)) rfl (by kernel_rfl) ?_
           refine SL.sim tk 1 [(0, vs 0), (1, vi .u16 key_2), (2, vs 1), (7, vs 2), (9, vi .i64 x_11), (31, vs 2), (32, vi .u16 key_2), (33, vs 3), (34, vs 1)] [] [] [] (by kernel_rfl) ?_
           obtain ⟨l_21, e_l_21, hp⟩ := bind_inv hp
           refine SL.eff (e_app (i := 3) (l := ([] : (List Int))) (sz := 1) (E := 5) (R := R8) (by_ := 1) (m := value_3) tk rfl (by kernel_rfl) rfl (.r (by kernel_rfl)) e_l_21 (by kernel_rfl)) rfl (by kernel_rfl) ?_
           refine SL.sim tk 1 [(0, vs 0), (1, vi .u16 key_2), (2, vs 1), (7, vs 2), (9, vi .i64 x_11), (31, vs 2), (36, .g [ci .u16 key_2, .s 4])] [] [] [] (by kernel_rfl) ?_
           refine SL.pre (pre_frz (i := 4) (sz := 1) (E := 5) (R := R8) (l := l_21) (by kernel_rfl)) ?_
           refine SL.eff (e_lit (sz := 2) (E := 71) (R := R_T_api_Item) (by_ := 32) tk [[ci .u16 key_2, .s 4]] [(T_api_Item.mk key_2 l_21)] (by kernel_rfl) ⟨(clo_T_api_Item (x := (T_api_Item.mk key_2 l_21)) (Clo.sl (by kernel_rfl))), trivial⟩ rfl (by kernel_rfl) (by kernel_rfl)) rfl (by kernel_rfl) ?_
           obtain ⟨l_22, e_l_22, hp⟩ := bind_inv hp
           refine SL.eff (e_app (i := 2) (l := l_9) (sz := 2) (E := 71) (R := R_T_api_Item) (by_ := 32) (m := [(T_api_Item.mk key_2 l_21)]) tk rfl (by kernel_rfl) rfl (.o 71 (by kernel_rfl)) e_l_22 (by kernel_rfl)) rfl (by kernel_rfl) ?_
           refine SL.norm (itsN := [.rd 2 R_T_api_Item l_1, .rd 1 R8 value_3, .gone, .gone, .rd 1 R8 l_21, .own 2 71 R_T_api_Item [(T_api_Item.mk key_2 l_21)], .own 2 71 R_T_api_Item l_22]) (by kernel_rfl) ?_
           refine SL.sim tk 1 [(0, vs 0), (1, vi .u16 key_2), (2, vs 1), (7, vs 6), (9, vi .i64 x_11)] [] [] [] (by kernel_rfl) ?_
           refine SL.nilThen ?_
           refine SC.reg ?_
           refine SL.sim tk 1 [(0, vs 0), (1, vi .u16 key_2), (2, vs 1), (7, vs 6), (8, vb true), (9, vi .i64 x_11)] [] [] [] (by kernel_rfl) ?_
           refine SL.nilJ fun a w h => ?_
           exact ⟨l_22, true, hp, h.at (js := [.g 0, .g 1, .g 6]) (by kernel_rfl)⟩
         refine SC.skipJ fun a w h => ?_
         exact ⟨l_9, z_10, hp, h.at (js := [.g 0, .g 1, .g 2]) (by kernel_rfl)⟩
       rintro a w ⟨l_14, z_15, hp, h⟩
       refine h.go ?_
       obtain ⟨x_16, e_x_16, hp⟩ := bind_inv hp
       refine SC.pre (pre_ix (i := 0) (iv := x_11) (sz := 2) (R := R_T_api_Item) (l := l_1) (by kernel_rfl) rfl e_x_16) ?_
       refine SC.r tk [(0, vs 0), (1, vi .u16 key_2), (2, vs 1), (7, vs 2), (8, vb z_15), (9, vi .i64 x_11), (45, vb (x_16.Key != key_2))] [] [.el 3] [x_11] (by kernel_rfl) ?_
       refine SC.if' rfl hp (fun hp => ?_) (fun hp => ?_)
       · refine SC.reg ?_
         obtain ⟨x_17, e_x_17, hp⟩ := bind_inv hp
         refine SL.pre (pre_ix (i := 0) (iv := x_11) (sz := 2) (R := R_T_api_Item) (l := l_1) (by kernel_rfl) rfl e_x_17) ?_
         refine SL.sim tk 5 [(0, vs 0), (1, vi .u16 key_2), (2, vs 1), (7, vs 2), (8, vb z_15), (9, vi .i64 x_11), (46, vs 2), (50, .g [ci .u16 x_17.Key, .s 6])] [] [.el 5] [x_11] (by kernel_rfl) ?_
         refine SL.eff (e_lit (sz := 2) (E := 71) (R := R_T_api_Item) (by_ := 32) tk [[ci .u16 x_17.Key, .s 6]] [x_17] (by kernel_rfl) ⟨(clo_T_api_Item (x := x_17) (Clo.sl (by kernel_rfl))), trivial⟩ rfl (by kernel_rfl) (by kernel_rfl)) rfl (by kernel_rfl) ?_
         obtain ⟨l_18, e_l_18, hp⟩ := bind_inv hp
         refine SL.eff (e_app (i := 2) (l := l_14) (sz := 2) (E := 71) (R := R_T_api_Item) (by_ := 32) (m := [x_17]) tk rfl (by kernel_rfl) rfl (.o 71 (by kernel_rfl)) e_l_18 (by kernel_rfl)) rfl (by kernel_rfl) ?_
         refine SL.norm (itsN := [.rd 2 R_T_api_Item l_1, .rd 1 R8 value_3, .gone, .elt (some (0, x_11)) false [ci .u16 x_16.Key, .s 4], .rd 1 R8 x_16.Value, .elt (some (0, x_11)) false [ci .u16 x_17.Key, .s 6], .rd 1 R8 x_17.Value, .own 2 71 R_T_api_Item [x_17], .own 2 71 R_T_api_Item l_18]) (by kernel_rfl) ?_
         refine SL.sim tk 1 [(0, vs 0), (1, vi .u16 key_2), (2, vs 1), (7, vs 8), (8, vb z_15), (9, vi .i64 x_11)] [] [] [] (by kernel_rfl) ?_
         refine SL.nilJ fun a w h => ?_
         exact ⟨l_18, z_15, hp, h.at (js := [.g 0, .g 1, .g 8]) (by kernel_rfl)⟩
       refine SC.skipJ fun a w h => ?_
       exact ⟨l_14, z_15, hp, h.at (js := [.g 0, .g 1, .g 2]) (by kernel_rfl)⟩
     rintro a w ⟨l_12, z_13, hp, h⟩
     refine h.go ?_
     refine SC.reg ?_
     refine SL.sim tk 3 [(0, vs 0), (1, vi .u16 key_2), (2, vs 1), (7, vs 2), (8, vb z_13), (9, vi .i64 (w64 (x_11 + 1)))] [] [] [] (by kernel_rfl) ?_
     refine SL.nilJ fun a w h => ?_
     exact ⟨n1, Nat.lt_succ_self _, l_12, z_13, w64 (x_11 + 1), next_inv hp hs1, h.at (js := [.g 0, .g 1, .g 2]) (by kernel_rfl)⟩
   refine SC.exitJ rfl fun a w h => ?_
   have ho := done_inv hp hs1
   replace hp := ho1
   try rw [ho] at hp
   exact ⟨l_9, z_10, hp, h.at (js := [.g 0, .g 1, .g 2]) (by kernel_rfl)⟩
 rintro a w ⟨l_4, z_5, hp, h⟩
 refine h.go ?_
 refine SC.cut (fun a w => ∃ (l_6 : (List T_api_Item)), wirelessref39_Set_j2 F l_6 = some r ∧ A 64 2 fx [(7, vs 2)] [.gone, .gone, .own 2 71 R_T_api_Item l_6] a w) ?_ ?_
 · refine SC.r tk [(1, vi .u16 key_2), (2, vs 1), (7, vs 2), (54, vb (!z_5))] [] [] [] (by kernel_rfl) ?_
   refine SC.if' rfl hp (fun hp => ?_) (fun hp => ?_)
   · refine SC.reg ?_
     refine SL.sim tk 2 [(2, vs 1), (7, vs 2), (55, vs 2), (56, vi .u16 key_2)] [] [] [] (by kernel_rfl) ?_
     refine SL.eff (e_lit (sz := 1) (E := 5) (R := R8) (by_ := 1) tk [] ([] : (List Int)) (by kernel_rfl) trivial rfl (by kernel_rfl) (by kernel_rfl)) rfl (by kernel_rfl) ?_
     refine SL.sim tk 1 [(7, vs 2), (55, vs 2), (56, vi .u16 key_2), (57, vs 3), (58, vs 1)] [] [] [] (by kernel_rfl) ?_
     obtain ⟨l_7, e_l_7, hp⟩ := bind_inv hp
     refine SL.eff (e_app (i := 3) (l := ([] : (List Int))) (sz := 1) (E := 5) (R := R8) (by_ := 1) (m := value_3) tk rfl (by kernel_rfl) rfl (.r (by kernel_rfl)) e_l_7 (by kernel_rfl)) rfl (by kernel_rfl) ?_
     refine SL.sim tk 1 [(7, vs 2), (55, vs 2), (60, .g [ci .u16 key_2, .s 4])] [] [] [] (by kernel_rfl) ?_
     refine SL.pre (pre_frz (i := 4) (sz := 1) (E := 5) (R := R8) (l := l_7) (by kernel_rfl)) ?_
     refine SL.eff (e_lit (sz := 2) (E := 71) (R := R_T_api_Item) (by_ := 32) tk [[ci .u16 key_2, .s 4]] [(T_api_Item.mk key_2 l_7)] (by kernel_rfl) ⟨(clo_T_api_Item (x := (T_api_Item.mk key_2 l_7)) (Clo.sl (by kernel_rfl))), trivial⟩ rfl (by kernel_rfl) (by kernel_rfl)) rfl (by kernel_rfl) ?_
     obtain ⟨l_8, e_l_8, hp⟩ := bind_inv hp
     refine SL.eff (e_app (i := 2) (l := l_4) (sz := 2) (E := 71) (R := R_T_api_Item) (by_ := 32) (m := [(T_api_Item.mk key_2 l_7)]) tk rfl (by kernel_rfl) rfl (.o 71 (by kernel_rfl)) e_l_8 (by kernel_rfl)) rfl (by kernel_rfl) ?_
     refine SL.norm (itsN := [.gone, .rd 1 R8 value_3, .gone, .gone, .rd 1 R8 l_7, .own 2 71 R_T_api_Item [(T_api_Item.mk key_2 l_7)], .own 2 71 R_T_api_Item l_8]) (by kernel_rfl) ?_
     refine SL.sim tk 1 [(7, vs 6)] [] [] [] (by kernel_rfl) ?_
     refine SL.nilJ fun a w h => ?_
     exact ⟨l_8, hp, h.at (js := [.g 0, .g 1, .g 6]) (by kernel_rfl)⟩
   refine SC.skipJ fun a w h => ?_
   exact ⟨l_4, hp, h.at (js := [.g 0, .g 1, .g 2]) (by kernel_rfl)⟩
 rintro a w ⟨l_6, hp, h⟩
 refine h.go ?_
 refine SC.r tk [(6, vs 2)] [] [] [] (by kernel_rfl) ?_
 obtain rfl := some_inv' hp
 exact SC.re (js := [.g 0, .g 1, .z 2]) tk (by kernel_rfl)

theorem ok_wirelessref39_records (F : Nat) (b_1 : (List Int)) (r : (List T_api_Item) × Int) (hp : wirelessref39_records F b_1 = some r) : Spec Tryd.prog 37 [vs 0] [.rd 1 R8 b_1] (.u [.inl (.s 1), .inl (ci .i64 r.2)]) [.gone, .rd 2 R_T_api_Item r.1] := by
 refine Spec.enter Tryd.func37 rfl Tryd.ntmps37 rfl rfl fun fx => ?_
 refine SC.r tk [(0, vs 0)] [] [] [] (by kernel_rfl) ?_
 refine SC.seq ?_
 refine SC.reg ?_
 refine SL.eff (e_lit (sz := 2) (E := 71) (R := R_T_api_Item) (by_ := 32) tk [] ([] : (List T_api_Item)) (by kernel_rfl) trivial rfl (by kernel_rfl) (by kernel_rfl)) rfl (by kernel_rfl) ?_
 refine SL.sim tk 1 [(0, vs 0), (4, vs 1)] [] [] [] (by kernel_rfl) ?_
 refine SL.nilThen ?_
 refine SC.r tk [(0, vs 0), (4, vs 1), (5, vi .i64 10)] [] [] [] (by kernel_rfl) ?_
 refine SC.cut (fun a w => ∃ (l_2 : (List T_api_Item)) (x_3 : Int), wirelessref39_records_j1 F l_2 x_3 = some r ∧ A 78 1 fx [(4, vs 1), (5, vi .i64 x_3)] [.gone, .rd 2 R_T_api_Item l_2] a w) ?_ ?_
 · refine SC.block ?_
   obtain ⟨o1, hi1, ho1⟩ := bind_inv hp
   clear hp
   refine SC.loop (fun n a w => ∃ (l_4 : (List T_api_Item)) (x_5 : Int), iter (fun s => wirelessref39_records_l1 F b_1 s.1 s.2) n (l_4, x_5) = some o1 ∧ A 78 1 fx [(0, vs 0), (4, vs 1), (5, vi .i64 x_5)] [.rd 1 R8 b_1, .rd 2 R_T_api_Item l_4] a w) F (fun a w h => ⟨([] : (List T_api_Item)), 10, hi1, h.at (js := [.g 0, .z 1]) (by kernel_rfl)⟩) ?_
   rintro n1 a w ⟨l_4, x_5, hi1, h⟩
   obtain ⟨n1, q1, rfl, hp, hs1⟩ := iter_inv hi1
   replace hp : wirelessref39_records_l1 F b_1 l_4 x_5 = some q1 := hp
   clear hi1
   refine h.go ?_
   refine SC.seq ?_
   refine SC.r tk [(0, vs 0), (4, vs 1), (5, vi .i64 x_5), (14, vb (decide ((w64 ((len b_1) - x_5)) ≥ 8)))] [] [] [] (by kernel_rfl) ?_
   refine SC.if' rfl hp (fun hp => ?_) (fun hp => ?_)
   · refine SC.skipThen ?_
     refine SC.block ?_
     refine SC.seq ?_
     refine SC.reg ?_
     refine SL.sim tk 4 [(0, vs 0), (4, vs 1), (5, vi .i64 x_5), (15, vs 0), (16, vi .i64 x_5), (18, vi .i64 (w64 (x_5 + 2)))] [] [] [] (by kernel_rfl) ?_
     obtain ⟨l_6, e_l_6, hp⟩ := bind_inv hp
     refine SL.eff (e_sub (sz := 1) (E := 5) (R := R8) (by_ := 1) (l := b_1) tk rfl (.inl ⟨0, rfl, (by kernel_rfl)⟩) rfl rfl e_l_6 (by kernel_rfl)) rfl (by kernel_rfl) ?_
     obtain ⟨x_7, e_x_7, hp⟩ := bind_inv hp
     refine SL.eff (e_c Tryd.call54 (ok_wirelessref02_Value F l_6 _ e_x_7) [.g 2] [vs 2] (vi .u64 x_7) (by kernel_rfl) (.inl rfl)) rfl (by kernel_rfl) ?_
     refine SL.sim tk 2 [(0, vs 0), (4, vs 1), (5, vi .i64 x_5), (6, vi .i64 (w64 x_7))] [] [] [] (by kernel_rfl) ?_
     refine SL.nilThen ?_
     refine SC.seq ?_
     refine SC.r tk [(0, vs 0), (4, vs 1), (5, vi .i64 x_5), (6, vi .i64 (w64 x_7)), (32, vb ((decide ((w64 x_7) > 1024)) || (decide ((w64 ((w64 x_7) + 8)) > (w64 ((len b_1) - x_5))))))] [] [] [] (by kernel_rfl) ?_
     refine SC.if' rfl hp (fun hp => ?_) (fun hp => ?_)
     · refine SC.r tk [(2, vs 1), (3, vi .i64 x_5)] [] [] [] (by kernel_rfl) ?_
       have ho := done_inv hp hs1
       replace hp := ho1
       try rw [ho] at hp
       obtain rfl := some_inv' hp
       exact SC.re (js := [.g 0, .g 1]) tk (by kernel_rfl)
     refine SC.skipThen ?_
     refine SC.seq ?_
     refine SC.reg ?_
     refine SL.sim tk 5 [(0, vs 0), (4, vs 1), (5, vi .i64 x_5), (6, vi .i64 (w64 x_7)), (35, vs 0), (37, vi .i64 (w64 (x_5 + 2))), (39, vi .i64 (w64 (x_5 + 4)))] [] [] [] (by kernel_rfl) ?_
     obtain ⟨l_8, e_l_8, hp⟩ := bind_inv hp
     refine SL.eff (e_sub (sz := 1) (E := 5) (R := R8) (by_ := 1) (l := b_1) tk rfl (.inl ⟨0, rfl, (by kernel_rfl)⟩) rfl rfl e_l_8 (by kernel_rfl)) rfl (by kernel_rfl) ?_
     refine SL.norm (itsN := [.rd 1 R8 b_1, .rd 2 R_T_api_Item l_4, .rd 1 R8 l_6, .rd 1 R8 l_8]) (by kernel_rfl) ?_
     obtain ⟨x_9, e_x_9, hp⟩ := bind_inv hp
     refine SL.eff (e_c Tryd.call54 (ok_wirelessref02_Value F l_8 _ e_x_9) [.g 3] [vs 3] (vi .u64 x_9) (by kernel_rfl) (.inl rfl)) rfl (by kernel_rfl) ?_
     refine SL.sim tk 2 [(0, vs 0), (4, vs 1), (5, vi .i64 x_5), (6, vi .i64 (w64 x_7)), (7, vi .u16 (wu16 x_9))] [] [] [] (by kernel_rfl) ?_
     refine SL.nilThen ?_
     refine SC.seq ?_
     refine SC.reg ?_
     refine SL.eff (e_lit (sz := 1) (E := 5) (R := R8) (by_ := 1) tk [] ([] : (List Int)) (by kernel_rfl) trivial rfl (by kernel_rfl) (by kernel_rfl)) rfl (by kernel_rfl) ?_
     refine SL.sim tk 7 [(0, vs 0), (4, vs 1), (5, vi .i64 x_5), (6, vi .i64 (w64 x_7)), (7, vi .u16 (wu16 x_9)), (43, vs 4), (44, vs 0), (46, vi .i64 (w64 (x_5 + 4))), (50, vi .i64 (w64 ((w64 (x_5 + 4)) + (w64 x_7))))] [] [] [] (by kernel_rfl) ?_
     obtain ⟨l_10, e_l_10, hp⟩ := bind_inv hp
     refine SL.eff (e_sub (sz := 1) (E := 5) (R := R8) (by_ := 1) (l := b_1) tk rfl (.inl ⟨0, rfl, (by kernel_rfl)⟩) rfl rfl e_l_10 (by kernel_rfl)) rfl (by kernel_rfl) ?_
     refine SL.norm (itsN := [.rd 1 R8 b_1, .rd 2 R_T_api_Item l_4, .rd 1 R8 l_6, .rd 1 R8 l_8, .own 1 5 R8 ([] : (List Int)), .rd 1 R8 l_10]) (by kernel_rfl) ?_
     obtain ⟨l_11, e_l_11, hp⟩ := bind_inv hp
     refine SL.eff (e_app (i := 4) (l := ([] : (List Int))) (sz := 1) (E := 5) (R := R8) (by_ := 1) (m := l_10) tk rfl (by kernel_rfl) rfl (.r (by kernel_rfl)) e_l_11 (by kernel_rfl)) rfl (by kernel_rfl) ?_
     refine SL.sim tk 1 [(0, vs 0), (4, vs 1), (5, vi .i64 x_5), (6, vi .i64 (w64 x_7)), (7, vi .u16 (wu16 x_9)), (8, vs 6)] [] [] [] (by kernel_rfl) ?_
     refine SL.nilThen ?_
     refine SC.seq ?_
     refine SC.cut (fun a w => ∃ (z_12 : Bool), wirelessref39_records_j2 F l_4 x_5 x_7 x_9 l_11 z_12 = some q1 ∧ A 78 1 fx [(0, vs 0), (4, vs 1), (5, vi .i64 x_5), (6, vi .i64 (w64 x_7)), (7, vi .u16 (wu16 x_9)), (8, vs 2), (65, vb z_12)] [.rd 1 R8 b_1, .rd 2 R_T_api_Item l_4, .rd 1 R8 l_11] a w) ?_ ?_
     · refine SC.pre (pre_frz (i := 6) (sz := 1) (E := 5) (R := R8) (l := l_11) (by kernel_rfl)) ?_
       refine SC.draw MO [I, I, I, I, O, I, I] (by kernel_rfl) fun kap_14 D_15 => ?_
       refine SD.takes tk D_15 [] kn0 [0, 1, 2, 3, 4, 5, 8, 9] [] [] (bm 13 831) [(0, vs 0), (4, vs 1), (5, vi .i64 x_5), (6, vi .i64 (w64 x_7)), (7, vi .u16 (wu16 x_9)), (8, vs 6), (53, vs 0), (54, vi .i64 x_5), (58, vi .i64 (w64 ((w64 (x_5 + (w64 x_7))) + 8))), (61, vi .u16 (wu16 x_9)), (62, vs 6)] rfl (by kernel_rfl) (by kernel_rfl) (by kernel_rfl) ?_
       obtain ⟨l_16, e_l_16, hp⟩ := bind_inv hp
       refine SD.sub (sz := 1) (E := 5) (R := R8) (by_ := 1) (l := b_1) tk D_15 (i := 6) (bm 13 895) rfl rfl (by kernel_rfl) rfl rfl rfl (.inl ⟨0, rfl, (by kernel_rfl)⟩) rfl rfl e_l_16 (by kernel_rfl) ?_
       obtain ⟨x_817, e_x_817, hp⟩ := bind_inv hp
       refine SD.lay 0 (bm 13 8191) [(0, vs 0), (4, vs 1), (5, vi .i64 x_5), (6, vi .i64 (w64 x_7)), (7, vi .u16 (wu16 x_9)), (8, vs 6), (65, vb ((str l_16) != (str x_817)))] [.rd 1 R8 b_1, .rd 2 R_T_api_Item l_4, .rd 1 R8 l_6, .rd 1 R8 l_8, .gone, .rd 1 R8 l_10, .rd 1 R8 l_11] ?_ (fun c_16_0 => ?_)
       · refine SD.done (by kernel_rfl) fun a w h => ?_
         exact ⟨((str l_16) != (str x_817)), hp, h.at (js := [.g 0, .g 1, .g 6]) (by kernel_rfl)⟩
       refine SD.lay 1 (bm 13 4095) [(0, vs 0), (4, vs 1), (5, vi .i64 x_5), (6, vi .i64 (w64 x_7)), (7, vi .u16 (wu16 x_9)), (8, vs 6), (60, vt 8), (64, vt 10)] [.rd 1 R8 b_1, .rd 2 R_T_api_Item l_4, .rd 1 R8 l_6, .rd 1 R8 l_8, .gone, .rd 1 R8 l_10, .rd 1 R8 l_11, .gone, .str (str l_16), .gone, .str (str x_817)] ?_ (fun c_16_1 => ?_)
       · refine SD.all1 (i := 12) (by kernel_rfl) ?_
         refine SW.eff D_15 (i := 12) (v := vb ((str l_16) != (str x_817))) (bs' := (bm 13 8191)) rfl (.inl rfl) rfl (e_val tk (by kernel_rfl)) (by kernel_rfl) rfl (by kernel_rfl) ?_
         exact SD.vie D_15 [.g 0, .g 1, .g 2, .g 3, .g 4, .g 5, .g 6] c_16_0 (by kernel_rfl)
       refine SD.lay 2 (bm 13 2047) [(0, vs 0), (4, vs 1), (5, vi .i64 x_5), (6, vi .i64 (w64 x_7)), (7, vi .u16 (wu16 x_9)), (8, vs 6), (60, vt 8), (63, vs 9)] [.rd 1 R8 b_1, .rd 2 R_T_api_Item l_4, .rd 1 R8 l_6, .rd 1 R8 l_8, .gone, .rd 1 R8 l_10, .rd 1 R8 l_11, .gone, .str (str l_16), .rd 1 R8 x_817] ?_ (fun c_16_2 => ?_)
       · refine SD.all1 (i := 11) (by kernel_rfl) ?_
         refine SW.eff D_15 (i := 11) (bs' := (bm 13 4095)) rfl (.inl rfl) rfl (e_b2s (l := x_817) tk rfl (.r (by kernel_rfl)) (by kernel_rfl)) (by kernel_rfl) rfl (by kernel_rfl) ?_
         exact SD.vie D_15 [.g 0, .g 1, .g 2, .g 3, .g 4, .g 5, .g 6, .n, .g 8, .n, .g 10] c_16_1 (by kernel_rfl)
       refine SD.lay 3 (bm 13 1023) [(0, vs 0), (4, vs 1), (5, vi .i64 x_5), (6, vi .i64 (w64 x_7)), (7, vi .u16 (wu16 x_9)), (8, vs 6), (60, vt 8), (61, vi .u16 (wu16 x_9)), (62, vs 6)] [.rd 1 R8 b_1, .rd 2 R_T_api_Item l_4, .rd 1 R8 l_6, .rd 1 R8 l_8, .gone, .rd 1 R8 l_10, .rd 1 R8 l_11, .gone, .str (str l_16)] ?_ (fun c_16_3 => ?_)
       · refine SD.all1 (i := 10) (by kernel_rfl) ?_
         refine SW.eff D_15 (i := 10) (bs' := (bm 13 2047)) rfl (.inl rfl) rfl (e_c Tryd.call46 (ok_wirelessref39_Record F (wu16 x_9) l_11 _ e_x_817) [.g 6] [vi .u16 (wu16 x_9), vs 6] (vs 9) (by kernel_rfl) (.inl rfl)) (by kernel_rfl) rfl (by kernel_rfl) ?_
         exact SD.vie D_15 [.g 0, .g 1, .g 2, .g 3, .g 4, .g 5, .g 6, .n, .g 8, .g 9] c_16_2 (by kernel_rfl)
       refine SD.lay 2 (bm 13 3967) [(0, vs 0), (4, vs 1), (5, vi .i64 x_5), (6, vi .i64 (w64 x_7)), (7, vi .u16 (wu16 x_9)), (8, vs 6), (59, vs 7), (64, vt 9)] [.rd 1 R8 b_1, .rd 2 R_T_api_Item l_4, .rd 1 R8 l_6, .rd 1 R8 l_8, .gone, .rd 1 R8 l_10, .rd 1 R8 l_11, .rd 1 R8 l_16, .gone, .str (str x_817)] ?_ (fun c_16_4 => ?_)
       · refine SD.all1 (i := 7) (by kernel_rfl) ?_
         refine SW.eff D_15 (i := 7) (bs' := (bm 13 4095)) rfl (.inl rfl) rfl (e_b2s (l := l_16) tk rfl (.r (by kernel_rfl)) (by kernel_rfl)) (by kernel_rfl) rfl (by kernel_rfl) ?_
         exact SD.vie D_15 [.g 0, .g 1, .g 2, .g 3, .g 4, .g 5, .g 6, .n, .g 10, .n, .g 9] c_16_1 (by kernel_rfl)
       refine SD.lay 3 (bm 13 1919) [(0, vs 0), (4, vs 1), (5, vi .i64 x_5), (6, vi .i64 (w64 x_7)), (7, vi .u16 (wu16 x_9)), (8, vs 6), (59, vs 7), (63, vs 8)] [.rd 1 R8 b_1, .rd 2 R_T_api_Item l_4, .rd 1 R8 l_6, .rd 1 R8 l_8, .gone, .rd 1 R8 l_10, .rd 1 R8 l_11, .rd 1 R8 l_16, .rd 1 R8 x_817] ?_ (fun c_16_5 => ?_)
       · refine SD.all2 (i := 7) (j := 11) (by kernel_rfl) ?_ ?_
         · refine SW.eff D_15 (i := 7) (bs' := (bm 13 2047)) rfl (.inl rfl) rfl (e_b2s (l := l_16) tk rfl (.r (by kernel_rfl)) (by kernel_rfl)) (by kernel_rfl) rfl (by kernel_rfl) ?_
           exact SD.vie D_15 [.g 0, .g 1, .g 2, .g 3, .g 4, .g 5, .g 6, .n, .g 9, .g 8] c_16_2 (by kernel_rfl)
         refine SW.eff D_15 (i := 11) (bs' := (bm 13 3967)) rfl (.inl rfl) rfl (e_b2s (l := x_817) tk rfl (.r (by kernel_rfl)) (by kernel_rfl)) (by kernel_rfl) rfl (by kernel_rfl) ?_
         exact SD.vie D_15 [.g 0, .g 1, .g 2, .g 3, .g 4, .g 5, .g 6, .g 7, .n, .g 9] c_16_4 (by kernel_rfl)
       refine SD.all2 (i := 7) (j := 10) (by kernel_rfl) ?_ ?_
       · refine SW.eff D_15 (i := 7) (bs' := (bm 13 1023)) rfl (.inl rfl) rfl (e_b2s (l := l_16) tk rfl (.r (by kernel_rfl)) (by kernel_rfl)) (by kernel_rfl) rfl (by kernel_rfl) ?_
         refine SD.norm (itsN := [.rd 1 R8 b_1, .rd 2 R_T_api_Item l_4, .rd 1 R8 l_6, .rd 1 R8 l_8, .gone, .rd 1 R8 l_10, .rd 1 R8 l_11, .rd 1 R8 l_16, .str (str l_16)]) (by kernel_rfl) ?_
         exact SD.vie D_15 [.g 0, .g 1, .g 2, .g 3, .g 4, .g 5, .g 6, .n, .g 8] c_16_3 (by kernel_rfl)
       refine SW.eff D_15 (i := 10) (bs' := (bm 13 1919)) rfl (.inl rfl) rfl (e_c Tryd.call46 (ok_wirelessref39_Record F (wu16 x_9) l_11 _ e_x_817) [.g 6] [vi .u16 (wu16 x_9), vs 6] (vs 8) (by kernel_rfl) (.inl rfl)) (by kernel_rfl) rfl (by kernel_rfl) ?_
       refine SD.norm (itsN := [.rd 1 R8 b_1, .rd 2 R_T_api_Item l_4, .rd 1 R8 l_6, .rd 1 R8 l_8, .gone, .rd 1 R8 l_10, .rd 1 R8 l_11, .rd 1 R8 l_16, .rd 1 R8 x_817]) (by kernel_rfl) ?_
       exact SD.vie D_15 [.g 0, .g 1, .g 2, .g 3, .g 4, .g 5, .g 6, .g 7, .g 8] c_16_5 (by kernel_rfl)
     rintro a w ⟨z_12, hp, h⟩
     refine h.go ?_
     refine SC.if' rfl hp (fun hp => ?_) (fun hp => ?_)
     · refine SC.r tk [(2, vs 1), (3, vi .i64 x_5)] [] [] [] (by kernel_rfl) ?_
       have ho := done_inv hp hs1
       replace hp := ho1
       try rw [ho] at hp
       obtain rfl := some_inv' hp
       exact SC.re (js := [.g 0, .g 1]) tk (by kernel_rfl)
     refine SC.skipThen ?_
     refine SC.seq ?_
     refine SC.reg ?_
     refine SL.sim tk 3 [(0, vs 0), (4, vs 1), (5, vi .i64 x_5), (6, vi .i64 (w64 x_7)), (68, vs 1), (69, vi .u16 (wu16 x_9)), (70, vs 2)] [] [] [] (by kernel_rfl) ?_
     obtain ⟨x_13, e_x_13, hp⟩ := bind_inv hp
     refine SL.eff (e_c Tryd.call47 (ok_wirelessref39_Set F l_4 (wu16 x_9) l_11 _ e_x_13) [.g 1, .g 2] [vs 1, vi .u16 (wu16 x_9), vs 2] (vs 3) (by kernel_rfl) (.inl rfl)) rfl (by kernel_rfl) ?_
     refine SL.sim tk 1 [(0, vs 0), (4, vs 3), (5, vi .i64 x_5), (6, vi .i64 (w64 x_7))] [] [] [] (by kernel_rfl) ?_
     refine SL.nilThen ?_
     refine SC.reg ?_
     refine SL.sim tk 5 [(0, vs 0), (4, vs 3), (5, vi .i64 (w64 ((w64 (x_5 + (w64 x_7))) + 8)))] [] [] [] (by kernel_rfl) ?_
     refine SL.nilJ fun a w h => ?_
     exact ⟨n1, Nat.lt_succ_self _, x_13, w64 ((w64 (x_5 + (w64 x_7))) + 8), next_inv hp hs1, h.at (js := [.g 0, .g 3]) (by kernel_rfl)⟩
   refine SC.exitJ rfl fun a w h => ?_
   have ho := done_inv hp hs1
   replace hp := ho1
   try rw [ho] at hp
   exact ⟨l_4, x_5, hp, h.at (js := [.g 0, .g 1]) (by kernel_rfl)⟩
 rintro a w ⟨l_2, x_3, hp, h⟩
 refine h.go ?_
 refine SC.r tk [(2, vs 1), (3, vi .i64 x_3)] [] [] [] (by kernel_rfl) ?_
 obtain rfl := some_inv' hp
 exact SC.re (js := [.g 0, .g 1]) tk (by kernel_rfl)

theorem ok_wirelessref39_erased (F : Nat) (n_1 : Int) (r : (List Int)) (hp : wirelessref39_erased F n_1 = some r) : Spec Tryd.prog 32 [vi .i64 n_1] [] (vs 0) [.rd 1 R8 r] := by
 refine Spec.enter Tryd.func32 rfl Tryd.ntmps32 rfl rfl fun fx => ?_
 refine SC.r tk [(0, vi .i64 n_1)] [] [] [] (by kernel_rfl) ?_
 refine SC.seq ?_
 refine SC.reg ?_
 refine SL.sim tk 1 [(0, vi .i64 n_1), (5, vi .i64 n_1)] [] [] [] (by kernel_rfl) ?_
 obtain ⟨l_2, e_l_2, hp⟩ := bind_inv hp
 refine SL.eff (e_make (sz := 1) (E := 5) (R := R8) tk rfl rfl rfl (fun _ _ => rfl) e_l_2 (by kernel_rfl)) rfl (by kernel_rfl) ?_
 refine SL.sim tk 1 [(0, vi .i64 n_1), (3, vs 0)] [] [] [] (by kernel_rfl) ?_
 refine SL.nilThen ?_
 refine SC.cut (fun a w => ∃ (l_3 : (List Int)), wirelessref39_erased_j1 F l_3 = some r ∧ A 16 0 fx [(3, vs 0)] [.own 1 5 R8 l_3] a w) ?_ ?_
 · refine SC.r tk [(0, vi .i64 n_1), (3, vs 0), (4, vi .i64 0)] [] [] [] (by kernel_rfl) ?_
   refine SC.block ?_
   obtain ⟨o1, hi1, ho1⟩ := bind_inv hp
   clear hp
   refine SC.loop (fun n a w => ∃ (l_4 : (List Int)) (x_5 : Int), iter (fun s => wirelessref39_erased_l1 F n_1 s.1 s.2) n (l_4, x_5) = some o1 ∧ A 16 0 fx [(0, vi .i64 n_1), (3, vs 0), (4, vi .i64 x_5)] [.own 1 5 R8 l_4] a w) F (fun a w h => ⟨l_2, 0, hi1, h.at (js := [.g 0]) (by kernel_rfl)⟩) ?_
   rintro n1 a w ⟨l_4, x_5, hi1, h⟩
   obtain ⟨n1, q1, rfl, hp, hs1⟩ := iter_inv hi1
   replace hp : wirelessref39_erased_l1 F n_1 l_4 x_5 = some q1 := hp
   clear hi1
   refine h.go ?_
   refine SC.seq ?_
   refine SC.r tk [(0, vi .i64 n_1), (3, vs 0), (4, vi .i64 x_5), (9, vb (decide (x_5 < n_1)))] [] [] [] (by kernel_rfl) ?_
   refine SC.if' rfl hp (fun hp => ?_) (fun hp => ?_)
   · refine SC.skipThen ?_
     refine SC.seq ?_
     refine SC.block ?_
     refine SC.reg ?_
     obtain ⟨x_6, e_x_6, hp⟩ := bind_inv hp
     refine SL.pre (pre_ixo (i := 0) (iv := x_5) (sz := 1) (E := 5) (R := R8) (l := l_4) (by kernel_rfl) rfl e_x_6) ?_
     refine SL.sim tk 3 [(0, vi .i64 n_1), (3, vs 0), (4, vi .i64 x_5), (14, vp 1 0)] [] [.el 1] [x_5] (by kernel_rfl) ?_
     obtain ⟨l_7, e_l_7, hp⟩ := bind_inv hp
     refine SL.eff0 (e_updf (sz := 1) (R := R8) (i := 0) (iv := x_5) (cs1 := [ci .u8 255]) (e := 255) tk rfl rfl rfl (by kernel_rfl) rfl rfl rfl Clo.int (by kernel_rfl) (by kernel_rfl) e_l_7) ?_
     refine SL.nilThen ?_
     refine SC.reg ?_
     refine SL.sim tk 3 [(0, vi .i64 n_1), (3, vs 0), (4, vi .i64 (w64 (x_5 + 1)))] [] [] [] (by kernel_rfl) ?_
     refine SL.nilJ fun a w h => ?_
     exact ⟨n1, Nat.lt_succ_self _, l_7, w64 (x_5 + 1), next_inv hp hs1, h.at (js := [.g 0]) (by kernel_rfl)⟩
   refine SC.exitJ rfl fun a w h => ?_
   have ho := done_inv hp hs1
   replace hp := ho1
   try rw [ho] at hp
   exact ⟨l_4, hp, h.at (js := [.g 0]) (by kernel_rfl)⟩
 rintro a w ⟨l_3, hp, h⟩
 refine h.go ?_
 refine SC.r tk [(2, vs 0)] [] [] [] (by kernel_rfl) ?_
 obtain rfl := some_inv' hp
 exact SC.re (js := [.z 0]) tk (by kernel_rfl)

theorem ok_wirelessref39_Mount (F : Nat) (f_1 : T_api_Flash) (r : T_api_Store × Int) (hp : wirelessref39_Mount F f_1 = some r) : Spec Tryd.prog 17 [.g [.s 0, .s 1]] [.rd 1 R8 f_1.Banks.1, .rd 1 R8 f_1.Banks.2] (.u [.inr [.s 2, .s 3, ci .i64 r.1.Bank, ci .i64 r.1.Count, ci .i64 r.1.End, .s 4], .inl (ci .i64 r.2)]) [.gone, .gone, .rd 1 R8 r.1.Flash.Banks.1, .rd 1 R8 r.1.Flash.Banks.2, .rd 2 R_T_api_Item r.1.Items] := by
 refine Spec.enter Tryd.func17 rfl Tryd.ntmps17 rfl rfl fun fx => ?_
 refine SC.seq ?_
 refine SC.reg ?_
 refine SL.eff (e_box (E := 25) [.s 0, .s 1] (by kernel_rfl)) rfl (by kernel_rfl) ?_
 refine SL.eff (e_alloc (E := 40) tk [nl, nl, ci .i64 0, ci .i64 0, ci .i64 0, nl] (by kernel_rfl)) rfl (by kernel_rfl) ?_
 refine SL.sim tk 1 [(1, vp 2 0), (2, vp 3 0)] [] [] [] (by kernel_rfl) ?_
 refine SL.nilThen ?_
 refine SC.seq ?_
 refine SC.reg ?_
 refine SL.sim tk 1 [(1, vp 2 0), (2, vp 3 0), (11, vp 2 0)] [] [] [] (by kernel_rfl) ?_
 refine SL.eff (e_ixa (off := 0) (T := 25) (cs := [.s 0, .s 1]) tk rfl rfl (by kernel_rfl) (by kernel_rfl)) rfl (by kernel_rfl) ?_
 refine SL.sim tk 3 [(1, vp 2 0), (2, vp 3 0), (4, vi .i64 (len f_1.Banks.1))] [] [] [] (by kernel_rfl) ?_
 refine SL.nilThen ?_
 refine SC.seq ?_
 refine SC.seq ?_
 refine SC.reg ?_
 refine SL.sim tk 2 [(1, vp 2 0), (2, vp 3 0), (4, vi .i64 (len f_1.Banks.1)), (15, vi .i64 (len f_1.Banks.1)), (16, vp 2 0)] [] [] [] (by kernel_rfl) ?_
 refine SL.eff (e_ixa (off := 1) (T := 25) (cs := [.s 0, .s 1]) tk rfl rfl (by kernel_rfl) (by kernel_rfl)) rfl (by kernel_rfl) ?_
 refine SL.norm (itsN := [.rd 1 R8 f_1.Banks.1, .rd 1 R8 f_1.Banks.2, .blk 25 [.s 0, .s 1], .blk 40 [nl, nl, ci .i64 0, ci .i64 0, ci .i64 0, nl]]) (by kernel_rfl) ?_
 refine SL.sim tk 11 [(1, vp 2 0), (2, vp 3 0), (4, vi .i64 (len f_1.Banks.1)), (28, vb ((((len f_1.Banks.1) != (len f_1.Banks.2)) || (decide ((len f_1.Banks.1) < 64))) || (decide ((len f_1.Banks.1) > 65536))))] [] [] [] (by kernel_rfl) ?_
 refine SL.nilThen ?_
 refine SC.if' rfl hp (fun hp => ?_) (fun hp => ?_)
 · refine SC.r tk [(2, vp 3 0), (3, vi .i64 5)] [(3, 40, [nl, nl, ci .i64 0, ci .i64 0, ci .i64 0, nl])] [] [] (by kernel_rfl) ?_
   obtain rfl := some_inv' hp
   exact SC.re (js := [.g 0, .g 1, .n, .n, .n]) tk (by kernel_rfl)
 refine SC.skipThen ?_
 refine SC.seq ?_
 refine SC.reg ?_
 refine SL.sim tk 1 [(1, vp 2 0), (2, vp 3 0), (4, vi .i64 (len f_1.Banks.1)), (30, .g [.s 0, .s 1])] [] [] [] (by kernel_rfl) ?_
 obtain ⟨x_2, e_x_2, hp⟩ := bind_inv hp
 refine SL.eff (e_c Tryd.call14 (ok_wirelessref39_Copy F f_1 _ e_x_2) [.g 0, .g 1] [.g [.s 0, .s 1]] (.g [.s 4, .s 5]) (by kernel_rfl) (.inl rfl)) rfl (by kernel_rfl) ?_
 refine SL.sim tk 2 [(1, vp 2 0), (2, vp 3 0), (4, vi .i64 (len f_1.Banks.1)), (33, .g [.s 4, .s 5, ci .i64 0, ci .i64 0, ci .i64 (len f_1.Banks.1), nl])] [] [] [] (by kernel_rfl) ?_
 refine SL.eff (e_alloc (E := 40) tk [nl, nl, ci .i64 0, ci .i64 0, ci .i64 0, nl] (by kernel_rfl)) rfl (by kernel_rfl) ?_
 refine SL.sim tk 1 [(1, vp 2 0), (2, vp 3 0), (4, vi .i64 (len f_1.Banks.1)), (5, vp 6 0)] [(6, 40, [.s 4, .s 5, ci .i64 0, ci .i64 0, ci .i64 (len f_1.Banks.1), nl])] [] [] (by kernel_rfl) ?_
 refine SL.nilThen ?_
 refine SC.cut (fun a w => ∃ (x_3 : Int) (x_4 : Int), wirelessref39_Mount_j1 F f_1 x_2 x_3 x_4 = some r ∧ A 82 2 fx [(1, vp 2 0), (2, vp 3 0), (4, vi .i64 (len f_1.Banks.1)), (5, vp 4 0), (6, vi .i64 x_3), (7, vi .i64 x_4)] [.rd 1 R8 f_1.Banks.1, .rd 1 R8 f_1.Banks.2, .blk 25 [.s 0, .s 1], .blk 40 [nl, nl, ci .i64 0, ci .i64 0, ci .i64 0, nl], .blk 40 [.s 5, .s 6, ci .i64 0, ci .i64 0, ci .i64 (len f_1.Banks.1), nl], .own 1 5 R8 x_2.Banks.1, .own 1 5 R8 x_2.Banks.2] a w) ?_ ?_
 · refine SC.draw MO [I, I, I, I, I, I, I] (by kernel_rfl) fun kap_1781 D_1782 => ?_
   refine SD.takes tk D_1782 [] kn0 [0, 4] [] [] (bm 10 17) [(1, vp 2 0), (2, vp 3 0), (4, vi .i64 (len f_1.Banks.1)), (5, vp 6 0), (34, vp 2 0), (38, vp 2 0)] rfl (by kernel_rfl) (by kernel_rfl) (by kernel_rfl) ?_
   obtain ⟨x_2023, e_x_2023, hp⟩ := bind_inv hp
   obtain ⟨x_2343, e_x_2343, hp⟩ := bind_inv hp
   refine SD.lay 0 (bm 10 1023) [(1, vp 2 0), (2, vp 3 0), (4, vi .i64 (len f_1.Banks.1)), (5, vp 6 0), (6, vi .i64 x_2023), (7, vi .i64 x_2343)] [.rd 1 R8 f_1.Banks.1, .rd 1 R8 f_1.Banks.2, .blk 25 [.s 0, .s 1], .blk 40 [nl, nl, ci .i64 0, ci .i64 0, ci .i64 0, nl], .own 1 5 R8 x_2.Banks.1, .own 1 5 R8 x_2.Banks.2, .blk 40 [.s 4, .s 5, ci .i64 0, ci .i64 0, ci .i64 (len f_1.Banks.1), nl]] ?_ (fun c_1782_0 => ?_)
   · refine SD.done (by kernel_rfl) fun a w h => ?_
     exact ⟨x_2023, x_2343, hp, h.at (js := [.g 0, .g 1, .g 2, .g 3, .g 6, .g 4, .g 5]) (by kernel_rfl)⟩
   refine SD.lay 3 (bm 10 127) [(1, vp 2 0), (2, vp 3 0), (4, vi .i64 (len f_1.Banks.1)), (5, vp 6 0), (37, vi .i64 x_2023), (40, vs 1)] [.rd 1 R8 f_1.Banks.1, .rd 1 R8 f_1.Banks.2, .blk 25 [.s 0, .s 1], .blk 40 [nl, nl, ci .i64 0, ci .i64 0, ci .i64 0, nl], .own 1 5 R8 x_2.Banks.1, .own 1 5 R8 x_2.Banks.2, .blk 40 [.s 4, .s 5, ci .i64 0, ci .i64 0, ci .i64 (len f_1.Banks.1), nl]] ?_ (fun c_1782_1 => ?_)
   · refine SD.all1 (i := 7) (by kernel_rfl) ?_
     refine SW.eff D_1782 (i := 7) (bs' := (bm 10 255)) rfl (.inl rfl) rfl (e_c Tryd.call36 (ok_wirelessref39_count F f_1.Banks.2 _ e_x_2343) [.g 1] [vs 1] (vi .i64 x_2343) (by kernel_rfl) (.inl rfl)) (by kernel_rfl) rfl (by kernel_rfl) ?_
     refine SD.takes tk D_1782 [] kn0 [8, 9] [] [] (bm 10 1023) [(1, vp 2 0), (2, vp 3 0), (4, vi .i64 (len f_1.Banks.1)), (5, vp 6 0), (6, vi .i64 x_2023), (7, vi .i64 x_2343)] rfl (by kernel_rfl) (by kernel_rfl) (by kernel_rfl) ?_
     exact SD.vie D_1782 [.g 0, .g 1, .g 2, .g 3, .g 4, .g 5, .g 6] c_1782_0 (by kernel_rfl)
   refine SD.lay 5 (bm 10 31) [(1, vp 2 0), (2, vp 3 0), (4, vi .i64 (len f_1.Banks.1)), (5, vp 6 0), (37, vi .i64 x_2023), (38, vp 2 0)] [.rd 1 R8 f_1.Banks.1, .rd 1 R8 f_1.Banks.2, .blk 25 [.s 0, .s 1], .blk 40 [nl, nl, ci .i64 0, ci .i64 0, ci .i64 0, nl], .own 1 5 R8 x_2.Banks.1, .own 1 5 R8 x_2.Banks.2, .blk 40 [.s 4, .s 5, ci .i64 0, ci .i64 0, ci .i64 (len f_1.Banks.1), nl]] ?_ (fun c_1782_2 => ?_)
   · refine SD.all1 (i := 5) (by kernel_rfl) ?_
     refine SW.eff D_1782 (i := 5) (bs' := (bm 10 63)) rfl (.inl rfl) rfl (e_ixa (off := 1) (T := 25) (cs := [.s 0, .s 1]) tk rfl rfl (by kernel_rfl) (by kernel_rfl)) (by kernel_rfl) rfl (by kernel_rfl) ?_
     refine SD.takes tk D_1782 [] kn0 [6] [] [] (bm 10 127) [(1, vp 2 0), (2, vp 3 0), (4, vi .i64 (len f_1.Banks.1)), (5, vp 6 0), (37, vi .i64 x_2023), (40, vs 1)] rfl (by kernel_rfl) (by kernel_rfl) (by kernel_rfl) ?_
     exact SD.vie D_1782 [.g 0, .g 1, .g 2, .g 3, .g 4, .g 5, .g 6] c_1782_1 (by kernel_rfl)
   refine SD.lay 4 (bm 10 119) [(1, vp 2 0), (2, vp 3 0), (4, vi .i64 (len f_1.Banks.1)), (5, vp 6 0), (36, vs 0), (40, vs 1)] [.rd 1 R8 f_1.Banks.1, .rd 1 R8 f_1.Banks.2, .blk 25 [.s 0, .s 1], .blk 40 [nl, nl, ci .i64 0, ci .i64 0, ci .i64 0, nl], .own 1 5 R8 x_2.Banks.1, .own 1 5 R8 x_2.Banks.2, .blk 40 [.s 4, .s 5, ci .i64 0, ci .i64 0, ci .i64 (len f_1.Banks.1), nl]] ?_ (fun c_1782_3 => ?_)
   · refine SD.all1 (i := 3) (by kernel_rfl) ?_
     refine SW.eff D_1782 (i := 3) (bs' := (bm 10 127)) rfl (.inl rfl) rfl (e_c Tryd.call36 (ok_wirelessref39_count F f_1.Banks.1 _ e_x_2023) [.g 0] [vs 0] (vi .i64 x_2023) (by kernel_rfl) (.inl rfl)) (by kernel_rfl) rfl (by kernel_rfl) ?_
     exact SD.vie D_1782 [.g 0, .g 1, .g 2, .g 3, .g 4, .g 5, .g 6] c_1782_1 (by kernel_rfl)
   refine SD.lay 6 (bm 10 23) [(1, vp 2 0), (2, vp 3 0), (4, vi .i64 (len f_1.Banks.1)), (5, vp 6 0), (36, vs 0), (38, vp 2 0)] [.rd 1 R8 f_1.Banks.1, .rd 1 R8 f_1.Banks.2, .blk 25 [.s 0, .s 1], .blk 40 [nl, nl, ci .i64 0, ci .i64 0, ci .i64 0, nl], .own 1 5 R8 x_2.Banks.1, .own 1 5 R8 x_2.Banks.2, .blk 40 [.s 4, .s 5, ci .i64 0, ci .i64 0, ci .i64 (len f_1.Banks.1), nl]] ?_ (fun c_1782_4 => ?_)
   · refine SD.all2 (i := 3) (j := 5) (by kernel_rfl) ?_ ?_
     · refine SW.eff D_1782 (i := 3) (bs' := (bm 10 31)) rfl (.inl rfl) rfl (e_c Tryd.call36 (ok_wirelessref39_count F f_1.Banks.1 _ e_x_2023) [.g 0] [vs 0] (vi .i64 x_2023) (by kernel_rfl) (.inl rfl)) (by kernel_rfl) rfl (by kernel_rfl) ?_
       exact SD.vie D_1782 [.g 0, .g 1, .g 2, .g 3, .g 4, .g 5, .g 6] c_1782_2 (by kernel_rfl)
     refine SW.eff D_1782 (i := 5) (bs' := (bm 10 55)) rfl (.inl rfl) rfl (e_ixa (off := 1) (T := 25) (cs := [.s 0, .s 1]) tk rfl rfl (by kernel_rfl) (by kernel_rfl)) (by kernel_rfl) rfl (by kernel_rfl) ?_
     refine SD.takes tk D_1782 [] kn0 [6] [] [] (bm 10 119) [(1, vp 2 0), (2, vp 3 0), (4, vi .i64 (len f_1.Banks.1)), (5, vp 6 0), (36, vs 0), (40, vs 1)] rfl (by kernel_rfl) (by kernel_rfl) (by kernel_rfl) ?_
     exact SD.vie D_1782 [.g 0, .g 1, .g 2, .g 3, .g 4, .g 5, .g 6] c_1782_3 (by kernel_rfl)
   refine SD.lay 6 (bm 10 113) [(1, vp 2 0), (2, vp 3 0), (4, vi .i64 (len f_1.Banks.1)), (5, vp 6 0), (34, vp 2 0), (40, vs 1)] [.rd 1 R8 f_1.Banks.1, .rd 1 R8 f_1.Banks.2, .blk 25 [.s 0, .s 1], .blk 40 [nl, nl, ci .i64 0, ci .i64 0, ci .i64 0, nl], .own 1 5 R8 x_2.Banks.1, .own 1 5 R8 x_2.Banks.2, .blk 40 [.s 4, .s 5, ci .i64 0, ci .i64 0, ci .i64 (len f_1.Banks.1), nl]] ?_ (fun c_1782_5 => ?_)
   · refine SD.all1 (i := 1) (by kernel_rfl) ?_
     refine SW.eff D_1782 (i := 1) (bs' := (bm 10 115)) rfl (.inl rfl) rfl (e_ixa (off := 0) (T := 25) (cs := [.s 0, .s 1]) tk rfl rfl (by kernel_rfl) (by kernel_rfl)) (by kernel_rfl) rfl (by kernel_rfl) ?_
     refine SD.takes tk D_1782 [] kn0 [2] [] [] (bm 10 119) [(1, vp 2 0), (2, vp 3 0), (4, vi .i64 (len f_1.Banks.1)), (5, vp 6 0), (36, vs 0), (40, vs 1)] rfl (by kernel_rfl) (by kernel_rfl) (by kernel_rfl) ?_
     exact SD.vie D_1782 [.g 0, .g 1, .g 2, .g 3, .g 4, .g 5, .g 6] c_1782_3 (by kernel_rfl)
   refine SD.all2 (i := 1) (j := 5) (by kernel_rfl) ?_ ?_
   · refine SW.eff D_1782 (i := 1) (bs' := (bm 10 19)) rfl (.inl rfl) rfl (e_ixa (off := 0) (T := 25) (cs := [.s 0, .s 1]) tk rfl rfl (by kernel_rfl) (by kernel_rfl)) (by kernel_rfl) rfl (by kernel_rfl) ?_
     refine SD.norm (itsN := [.rd 1 R8 f_1.Banks.1, .rd 1 R8 f_1.Banks.2, .blk 25 [.s 0, .s 1], .blk 40 [nl, nl, ci .i64 0, ci .i64 0, ci .i64 0, nl], .own 1 5 R8 x_2.Banks.1, .own 1 5 R8 x_2.Banks.2, .blk 40 [.s 4, .s 5, ci .i64 0, ci .i64 0, ci .i64 (len f_1.Banks.1), nl]]) (by kernel_rfl) ?_
     refine SD.takes tk D_1782 [] kn0 [2] [] [] (bm 10 23) [(1, vp 2 0), (2, vp 3 0), (4, vi .i64 (len f_1.Banks.1)), (5, vp 6 0), (36, vs 0), (38, vp 2 0)] rfl (by kernel_rfl) (by kernel_rfl) (by kernel_rfl) ?_
     exact SD.vie D_1782 [.g 0, .g 1, .g 2, .g 3, .g 4, .g 5, .g 6] c_1782_4 (by kernel_rfl)
   refine SW.eff D_1782 (i := 5) (bs' := (bm 10 49)) rfl (.inl rfl) rfl (e_ixa (off := 1) (T := 25) (cs := [.s 0, .s 1]) tk rfl rfl (by kernel_rfl) (by kernel_rfl)) (by kernel_rfl) rfl (by kernel_rfl) ?_
   refine SD.norm (itsN := [.rd 1 R8 f_1.Banks.1, .rd 1 R8 f_1.Banks.2, .blk 25 [.s 0, .s 1], .blk 40 [nl, nl, ci .i64 0, ci .i64 0, ci .i64 0, nl], .own 1 5 R8 x_2.Banks.1, .own 1 5 R8 x_2.Banks.2, .blk 40 [.s 4, .s 5, ci .i64 0, ci .i64 0, ci .i64 (len f_1.Banks.1), nl]]) (by kernel_rfl) ?_
   refine SD.takes tk D_1782 [] kn0 [6] [] [] (bm 10 113) [(1, vp 2 0), (2, vp 3 0), (4, vi .i64 (len f_1.Banks.1)), (5, vp 6 0), (34, vp 2 0), (40, vs 1)] rfl (by kernel_rfl) (by kernel_rfl) (by kernel_rfl) ?_
   exact SD.vie D_1782 [.g 0, .g 1, .g 2, .g 3, .g 4, .g 5, .g 6] c_1782_5 (by kernel_rfl)
 rintro a w ⟨x_3, x_4, hp, h⟩
 refine h.go ?_
 refine SC.seq ?_
 refine SC.r tk [(1, vp 2 0), (2, vp 3 0), (4, vi .i64 (len f_1.Banks.1)), (5, vp 4 0), (6, vi .i64 x_3), (7, vi .i64 x_4), (47, vb ((decide (x_3 < 0)) && (decide (x_4 < 0))))] [] [] [] (by kernel_rfl) ?_
 refine SC.if' rfl hp (fun hp => ?_) (fun hp => ?_)
 · refine SC.r tk [(2, vp 3 0), (3, vi .i64 0)] [(3, 40, [.s 5, .s 6, ci .i64 0, ci .i64 0, ci .i64 (len f_1.Banks.1), nl])] [] [] (by kernel_rfl) ?_
   obtain rfl := some_inv' hp
   exact SC.re (js := [.g 0, .g 1, .z 5, .z 6, .n]) tk (by kernel_rfl)
 refine SC.skipThen ?_
 refine SC.r tk [(1, vp 2 0), (2, vp 3 0), (4, vi .i64 (len f_1.Banks.1)), (5, vp 4 0), (6, vi .i64 x_3), (7, vi .i64 x_4)] [(4, 40, [.s 5, .s 6, ci .i64 0, ci .i64 x_3, ci .i64 (len f_1.Banks.1), nl])] [] [] (by kernel_rfl) ?_
 refine SC.cut (fun a w => ∃ (x_5 : Int) (x_6 : Int), wirelessref39_Mount_j2 F f_1 x_2 x_5 x_6 = some r ∧ A 82 2 fx [(1, vp 2 0), (2, vp 3 0), (4, vi .i64 (len f_1.Banks.1)), (5, vp 4 0)] [.rd 1 R8 f_1.Banks.1, .rd 1 R8 f_1.Banks.2, .blk 25 [.s 0, .s 1], .blk 40 [nl, nl, ci .i64 0, ci .i64 0, ci .i64 0, nl], .blk 40 [.s 5, .s 6, ci .i64 x_5, ci .i64 x_6, ci .i64 (len f_1.Banks.1), nl], .own 1 5 R8 x_2.Banks.1, .own 1 5 R8 x_2.Banks.2] a w) ?_ ?_
 · refine SC.r tk [(1, vp 2 0), (2, vp 3 0), (4, vi .i64 (len f_1.Banks.1)), (5, vp 4 0), (7, vi .i64 x_4), (53, vb (decide (x_4 > x_3)))] [] [] [] (by kernel_rfl) ?_
   refine SC.if' rfl hp (fun hp => ?_) (fun hp => ?_)
   · refine SC.reg ?_
     refine SL.sim tk 5 [(1, vp 2 0), (2, vp 3 0), (4, vi .i64 (len f_1.Banks.1)), (5, vp 4 0)] [(4, 40, [.s 5, .s 6, ci .i64 1, ci .i64 x_4, ci .i64 (len f_1.Banks.1), nl])] [] [] (by kernel_rfl) ?_
     refine SL.nilJ fun a w h => ?_
     exact ⟨1, x_4, hp, h.at (js := [.g 0, .g 1, .g 2, .g 3, .g 4, .g 5, .g 6]) (by kernel_rfl)⟩
   refine SC.skipJ fun a w h => ?_
   exact ⟨0, x_3, hp, h.at (js := [.g 0, .g 1, .g 2, .g 3, .g 4, .g 5, .g 6]) (by kernel_rfl)⟩
 rintro a w ⟨x_5, x_6, hp, h⟩
 refine h.go ?_
 refine SC.seq ?_
 refine SC.reg ?_
 refine SL.sim tk 3 [(2, vp 3 0), (4, vi .i64 (len f_1.Banks.1)), (5, vp 4 0), (58, vi .i64 x_5), (59, vp 2 0)] [] [] [] (by kernel_rfl) ?_
 rcases Bool.eq_false_or_eq_true (x_5 == 0) with he_7 | he_7
 · replace hp := if_t hp he_7
   refine SL.eff (e_ixn (n := 0) (off := 0) (T := 25) (cs := [.s 0, .s 1]) tk (eq_of_beq he_7) rfl rfl (by kernel_rfl) (by kernel_rfl)) rfl (by kernel_rfl) ?_
   refine SL.sim tk 2 [(2, vp 3 0), (4, vi .i64 (len f_1.Banks.1)), (5, vp 4 0), (8, vs 0)] [] [] [] (by kernel_rfl) ?_
   refine SL.nilThen ?_
   refine SC.seq ?_
   refine SC.reg ?_
   refine SL.sim tk 1 [(2, vp 3 0), (4, vi .i64 (len f_1.Banks.1)), (5, vp 4 0), (8, vs 0), (63, vs 0)] [] [] [] (by kernel_rfl) ?_
   obtain ⟨x_8, e_x_8, hp⟩ := bind_inv hp
   refine SL.eff (e_c Tryd.call37 (ok_wirelessref39_records F f_1.Banks.1 _ e_x_8) [.g 0] [vs 0] (.u [.inl (.s 7), .inl (ci .i64 x_8.2)]) (by kernel_rfl) (.inl rfl)) rfl (by kernel_rfl) ?_
   refine SL.sim tk 5 [(2, vp 3 0), (4, vi .i64 (len f_1.Banks.1)), (5, vp 4 0), (8, vs 0), (9, vs 7), (10, vi .i64 x_8.2)] [] [] [] (by kernel_rfl) ?_
   refine SL.nilThen ?_
   refine SC.r tk [(2, vp 3 0), (4, vi .i64 (len f_1.Banks.1)), (5, vp 4 0), (8, vs 0), (10, vi .i64 x_8.2)] [(4, 40, [.s 5, .s 6, ci .i64 x_5, ci .i64 x_6, ci .i64 (len f_1.Banks.1), .s 7])] [] [] (by kernel_rfl) ?_
   refine SC.cut (fun a w => ∃ (x_9 : Int), wirelessref39_Mount_j3 F x_2 x_5 x_6 x_8 x_9 = some r ∧ A 82 2 fx [(2, vp 2 0), (5, vp 3 0)] [.gone, .gone, .blk 40 [nl, nl, ci .i64 0, ci .i64 0, ci .i64 0, nl], .blk 40 [.s 4, .s 5, ci .i64 x_5, ci .i64 x_6, ci .i64 x_9, .s 6], .own 1 5 R8 x_2.Banks.1, .own 1 5 R8 x_2.Banks.2, .rd 2 R_T_api_Item x_8.1] a w) ?_ ?_
   · refine SC.cut (fun a w => ∃ (z_10 : Bool), wirelessref39_Mount_j4 F f_1 x_2 x_5 x_6 x_8 z_10 = some r ∧ A 82 2 fx [(2, vp 2 0), (5, vp 3 0), (10, vi .i64 x_8.2), (78, vb z_10)] [.gone, .gone, .blk 40 [nl, nl, ci .i64 0, ci .i64 0, ci .i64 0, nl], .blk 40 [.s 4, .s 5, ci .i64 x_5, ci .i64 x_6, ci .i64 (len f_1.Banks.1), .s 6], .own 1 5 R8 x_2.Banks.1, .own 1 5 R8 x_2.Banks.2, .rd 2 R_T_api_Item x_8.1] a w) ?_ ?_
     · refine SC.draw MO (bm 8 255) (by kernel_rfl) fun kap_11 D_12 => ?_
       refine SD.takes tk D_12 [] kn0 [0, 1, 4, 5, 6] [] [] (bm 10 115) [(2, vp 3 0), (5, vp 4 0), (10, vi .i64 x_8.2), (69, vs 0), (70, vi .i64 x_8.2), (75, vi .i64 (w64 ((len f_1.Banks.1) - x_8.2)))] rfl (by kernel_rfl) (by kernel_rfl) (by kernel_rfl) ?_
       obtain ⟨l_13, e_l_13, hp⟩ := bind_inv hp
       refine SD.sub (sz := 1) (E := 5) (R := R8) (by_ := 1) (l := f_1.Banks.1) tk D_12 (i := 2) (bm 10 119) rfl rfl (by kernel_rfl) rfl rfl rfl (.inl ⟨0, rfl, (by kernel_rfl)⟩) rfl rfl e_l_13 (by kernel_rfl) ?_
       refine SD.norm (itsN := [.rd 1 R8 f_1.Banks.1, .rd 1 R8 f_1.Banks.2, .blk 25 [.s 0, .s 1], .blk 40 [nl, nl, ci .i64 0, ci .i64 0, ci .i64 0, nl], .blk 40 [.s 5, .s 6, ci .i64 x_5, ci .i64 x_6, ci .i64 (len f_1.Banks.1), .s 7], .own 1 5 R8 x_2.Banks.1, .own 1 5 R8 x_2.Banks.2, .rd 2 R_T_api_Item x_8.1, .rd 1 R8 l_13]) (by kernel_rfl) ?_
       obtain ⟨x_574, e_x_574, hp⟩ := bind_inv hp
       refine SD.lay 0 (bm 10 1023) [(2, vp 3 0), (5, vp 4 0), (10, vi .i64 x_8.2), (78, vb ((str l_13) == (str x_574)))] [.rd 1 R8 f_1.Banks.1, .rd 1 R8 f_1.Banks.2, .blk 25 [.s 0, .s 1], .blk 40 [nl, nl, ci .i64 0, ci .i64 0, ci .i64 0, nl], .blk 40 [.s 5, .s 6, ci .i64 x_5, ci .i64 x_6, ci .i64 (len f_1.Banks.1), .s 7], .own 1 5 R8 x_2.Banks.1, .own 1 5 R8 x_2.Banks.2, .rd 2 R_T_api_Item x_8.1] ?_ (fun c_13_0 => ?_)
       · refine SD.done (by kernel_rfl) fun a w h => ?_
         exact ⟨((str l_13) == (str x_574)), hp, h.at (js := [.g 0, .g 1, .g 3, .g 4, .g 5, .g 6, .g 7]) (by kernel_rfl)⟩
       refine SD.lay 1 (bm 10 511) [(2, vp 3 0), (5, vp 4 0), (10, vi .i64 x_8.2), (72, vt 9), (77, vt 11)] [.rd 1 R8 f_1.Banks.1, .rd 1 R8 f_1.Banks.2, .blk 25 [.s 0, .s 1], .blk 40 [nl, nl, ci .i64 0, ci .i64 0, ci .i64 0, nl], .blk 40 [.s 5, .s 6, ci .i64 x_5, ci .i64 x_6, ci .i64 (len f_1.Banks.1), .s 7], .own 1 5 R8 x_2.Banks.1, .own 1 5 R8 x_2.Banks.2, .rd 2 R_T_api_Item x_8.1, .gone, .str (str l_13), .gone, .str (str x_574)] ?_ (fun c_13_1 => ?_)
       · refine SD.all1 (i := 9) (by kernel_rfl) ?_
         refine SW.eff D_12 (i := 9) (v := vb ((str l_13) == (str x_574))) (bs' := (bm 10 1023)) rfl (.inl rfl) rfl (e_val tk (by kernel_rfl)) (by kernel_rfl) rfl (by kernel_rfl) ?_
         exact SD.vie D_12 [.g 0, .g 1, .g 2, .g 3, .g 4, .g 5, .g 6, .g 7] c_13_0 (by kernel_rfl)
       refine SD.lay 2 (bm 10 255) [(2, vp 3 0), (5, vp 4 0), (10, vi .i64 x_8.2), (72, vt 9), (76, vs 10)] [.rd 1 R8 f_1.Banks.1, .rd 1 R8 f_1.Banks.2, .blk 25 [.s 0, .s 1], .blk 40 [nl, nl, ci .i64 0, ci .i64 0, ci .i64 0, nl], .blk 40 [.s 5, .s 6, ci .i64 x_5, ci .i64 x_6, ci .i64 (len f_1.Banks.1), .s 7], .own 1 5 R8 x_2.Banks.1, .own 1 5 R8 x_2.Banks.2, .rd 2 R_T_api_Item x_8.1, .gone, .str (str l_13), .rd 1 R8 x_574] ?_ (fun c_13_2 => ?_)
       · refine SD.all1 (i := 8) (by kernel_rfl) ?_
         refine SW.eff D_12 (i := 8) (bs' := (bm 10 511)) rfl (.inl rfl) rfl (e_b2s (l := x_574) tk rfl (.r (by kernel_rfl)) (by kernel_rfl)) (by kernel_rfl) rfl (by kernel_rfl) ?_
         exact SD.vie D_12 [.g 0, .g 1, .g 2, .g 3, .g 4, .g 5, .g 6, .g 7, .n, .g 9, .n, .g 11] c_13_1 (by kernel_rfl)
       refine SD.lay 3 (bm 10 127) [(2, vp 3 0), (5, vp 4 0), (10, vi .i64 x_8.2), (72, vt 9), (75, vi .i64 (w64 ((len f_1.Banks.1) - x_8.2)))] [.rd 1 R8 f_1.Banks.1, .rd 1 R8 f_1.Banks.2, .blk 25 [.s 0, .s 1], .blk 40 [nl, nl, ci .i64 0, ci .i64 0, ci .i64 0, nl], .blk 40 [.s 5, .s 6, ci .i64 x_5, ci .i64 x_6, ci .i64 (len f_1.Banks.1), .s 7], .own 1 5 R8 x_2.Banks.1, .own 1 5 R8 x_2.Banks.2, .rd 2 R_T_api_Item x_8.1, .gone, .str (str l_13)] ?_ (fun c_13_3 => ?_)
       · refine SD.all1 (i := 7) (by kernel_rfl) ?_
         refine SW.eff D_12 (i := 7) (bs' := (bm 10 255)) rfl (.inl rfl) rfl (e_c Tryd.call32 (ok_wirelessref39_erased F (w64 ((len f_1.Banks.1) - x_8.2)) _ e_x_574) [] [vi .i64 (w64 ((len f_1.Banks.1) - x_8.2))] (vs 10) (by kernel_rfl) (.inl rfl)) (by kernel_rfl) rfl (by kernel_rfl) ?_
         exact SD.vie D_12 [.g 0, .g 1, .g 2, .g 3, .g 4, .g 5, .g 6, .g 7, .n, .g 9, .g 10] c_13_2 (by kernel_rfl)
       refine SD.lay 2 (bm 10 503) [(2, vp 3 0), (5, vp 4 0), (10, vi .i64 x_8.2), (71, vs 8), (77, vt 10)] [.rd 1 R8 f_1.Banks.1, .rd 1 R8 f_1.Banks.2, .blk 25 [.s 0, .s 1], .blk 40 [nl, nl, ci .i64 0, ci .i64 0, ci .i64 0, nl], .blk 40 [.s 5, .s 6, ci .i64 x_5, ci .i64 x_6, ci .i64 (len f_1.Banks.1), .s 7], .own 1 5 R8 x_2.Banks.1, .own 1 5 R8 x_2.Banks.2, .rd 2 R_T_api_Item x_8.1, .rd 1 R8 l_13, .gone, .str (str x_574)] ?_ (fun c_13_4 => ?_)
       · refine SD.all1 (i := 3) (by kernel_rfl) ?_
         refine SW.eff D_12 (i := 3) (bs' := (bm 10 511)) rfl (.inl rfl) rfl (e_b2s (l := l_13) tk rfl (.r (by kernel_rfl)) (by kernel_rfl)) (by kernel_rfl) rfl (by kernel_rfl) ?_
         exact SD.vie D_12 [.g 0, .g 1, .g 2, .g 3, .g 4, .g 5, .g 6, .g 7, .n, .g 11, .n, .g 10] c_13_1 (by kernel_rfl)
       refine SD.lay 3 (bm 10 247) [(2, vp 3 0), (5, vp 4 0), (10, vi .i64 x_8.2), (71, vs 8), (76, vs 9)] [.rd 1 R8 f_1.Banks.1, .rd 1 R8 f_1.Banks.2, .blk 25 [.s 0, .s 1], .blk 40 [nl, nl, ci .i64 0, ci .i64 0, ci .i64 0, nl], .blk 40 [.s 5, .s 6, ci .i64 x_5, ci .i64 x_6, ci .i64 (len f_1.Banks.1), .s 7], .own 1 5 R8 x_2.Banks.1, .own 1 5 R8 x_2.Banks.2, .rd 2 R_T_api_Item x_8.1, .rd 1 R8 l_13, .rd 1 R8 x_574] ?_ (fun c_13_5 => ?_)
       · refine SD.all2 (i := 3) (j := 8) (by kernel_rfl) ?_ ?_
         · refine SW.eff D_12 (i := 3) (bs' := (bm 10 255)) rfl (.inl rfl) rfl (e_b2s (l := l_13) tk rfl (.r (by kernel_rfl)) (by kernel_rfl)) (by kernel_rfl) rfl (by kernel_rfl) ?_
           exact SD.vie D_12 [.g 0, .g 1, .g 2, .g 3, .g 4, .g 5, .g 6, .g 7, .n, .g 10, .g 9] c_13_2 (by kernel_rfl)
         refine SW.eff D_12 (i := 8) (bs' := (bm 10 503)) rfl (.inl rfl) rfl (e_b2s (l := x_574) tk rfl (.r (by kernel_rfl)) (by kernel_rfl)) (by kernel_rfl) rfl (by kernel_rfl) ?_
         exact SD.vie D_12 [.g 0, .g 1, .g 2, .g 3, .g 4, .g 5, .g 6, .g 7, .g 8, .n, .g 10] c_13_4 (by kernel_rfl)
       refine SD.all2 (i := 3) (j := 7) (by kernel_rfl) ?_ ?_
       · refine SW.eff D_12 (i := 3) (bs' := (bm 10 127)) rfl (.inl rfl) rfl (e_b2s (l := l_13) tk rfl (.r (by kernel_rfl)) (by kernel_rfl)) (by kernel_rfl) rfl (by kernel_rfl) ?_
         exact SD.vie D_12 [.g 0, .g 1, .g 2, .g 3, .g 4, .g 5, .g 6, .g 7, .n, .g 9] c_13_3 (by kernel_rfl)
       refine SW.eff D_12 (i := 7) (bs' := (bm 10 247)) rfl (.inl rfl) rfl (e_c Tryd.call32 (ok_wirelessref39_erased F (w64 ((len f_1.Banks.1) - x_8.2)) _ e_x_574) [] [vi .i64 (w64 ((len f_1.Banks.1) - x_8.2))] (vs 9) (by kernel_rfl) (.inl rfl)) (by kernel_rfl) rfl (by kernel_rfl) ?_
       exact SD.vie D_12 [.g 0, .g 1, .g 2, .g 3, .g 4, .g 5, .g 6, .g 7, .g 8, .g 9] c_13_5 (by kernel_rfl)
     rintro a w ⟨z_10, hp, h⟩
     refine h.go ?_
     refine SC.if' rfl hp (fun hp => ?_) (fun hp => ?_)
     · refine SC.reg ?_
       refine SL.sim tk 3 [(2, vp 2 0), (5, vp 3 0)] [(3, 40, [.s 4, .s 5, ci .i64 x_5, ci .i64 x_6, ci .i64 x_8.2, .s 6])] [] [] (by kernel_rfl) ?_
       refine SL.nilJ fun a w h => ?_
       exact ⟨x_8.2, hp, h.at (js := [.g 0, .g 1, .g 2, .g 3, .g 4, .g 5, .g 6]) (by kernel_rfl)⟩
     refine SC.skipJ fun a w h => ?_
     exact ⟨len f_1.Banks.1, hp, h.at (js := [.g 0, .g 1, .g 2, .g 3, .g 4, .g 5, .g 6]) (by kernel_rfl)⟩
   rintro a w ⟨x_9, hp, h⟩
   refine h.go ?_
   refine SC.r tk [(2, vp 2 0), (3, vi .i64 0)] [(2, 40, [.s 4, .s 5, ci .i64 x_5, ci .i64 x_6, ci .i64 x_9, .s 6])] [] [] (by kernel_rfl) ?_
   obtain rfl := some_inv' hp
   exact SC.re (js := [.g 0, .g 1, .z 4, .z 5, .g 6]) tk (by kernel_rfl)
 replace hp := if_f hp he_7
 rcases Bool.eq_false_or_eq_true (x_5 == 1) with he_894 | he_894
 · replace hp := if_t hp he_894
   refine SL.eff (e_ixn (n := 1) (off := 1) (T := 25) (cs := [.s 0, .s 1]) tk (eq_of_beq he_894) rfl rfl (by kernel_rfl) (by kernel_rfl)) rfl (by kernel_rfl) ?_
   refine SL.sim tk 2 [(2, vp 3 0), (4, vi .i64 (len f_1.Banks.1)), (5, vp 4 0), (8, vs 1)] [] [] [] (by kernel_rfl) ?_
   refine SL.nilThen ?_
   refine SC.seq ?_
   refine SC.reg ?_
   refine SL.sim tk 1 [(2, vp 3 0), (4, vi .i64 (len f_1.Banks.1)), (5, vp 4 0), (8, vs 1), (63, vs 1)] [] [] [] (by kernel_rfl) ?_
   obtain ⟨x_895, e_x_895, hp⟩ := bind_inv hp
   refine SL.eff (e_c Tryd.call37 (ok_wirelessref39_records F f_1.Banks.2 _ e_x_895) [.g 1] [vs 1] (.u [.inl (.s 7), .inl (ci .i64 x_895.2)]) (by kernel_rfl) (.inl rfl)) rfl (by kernel_rfl) ?_
   refine SL.sim tk 5 [(2, vp 3 0), (4, vi .i64 (len f_1.Banks.1)), (5, vp 4 0), (8, vs 1), (9, vs 7), (10, vi .i64 x_895.2)] [] [] [] (by kernel_rfl) ?_
   refine SL.nilThen ?_
   refine SC.r tk [(2, vp 3 0), (4, vi .i64 (len f_1.Banks.1)), (5, vp 4 0), (8, vs 1), (10, vi .i64 x_895.2)] [(4, 40, [.s 5, .s 6, ci .i64 x_5, ci .i64 x_6, ci .i64 (len f_1.Banks.1), .s 7])] [] [] (by kernel_rfl) ?_
   refine SC.cut (fun a w => ∃ (x_896 : Int), wirelessref39_Mount_j5 F x_2 x_5 x_6 x_895 x_896 = some r ∧ A 82 2 fx [(2, vp 2 0), (5, vp 3 0)] [.gone, .gone, .blk 40 [nl, nl, ci .i64 0, ci .i64 0, ci .i64 0, nl], .blk 40 [.s 4, .s 5, ci .i64 x_5, ci .i64 x_6, ci .i64 x_896, .s 6], .own 1 5 R8 x_2.Banks.1, .own 1 5 R8 x_2.Banks.2, .rd 2 R_T_api_Item x_895.1] a w) ?_ ?_
   · refine SC.cut (fun a w => ∃ (z_897 : Bool), wirelessref39_Mount_j6 F f_1 x_2 x_5 x_6 x_895 z_897 = some r ∧ A 82 2 fx [(2, vp 2 0), (5, vp 3 0), (10, vi .i64 x_895.2), (78, vb z_897)] [.gone, .gone, .blk 40 [nl, nl, ci .i64 0, ci .i64 0, ci .i64 0, nl], .blk 40 [.s 4, .s 5, ci .i64 x_5, ci .i64 x_6, ci .i64 (len f_1.Banks.1), .s 6], .own 1 5 R8 x_2.Banks.1, .own 1 5 R8 x_2.Banks.2, .rd 2 R_T_api_Item x_895.1] a w) ?_ ?_
     · refine SC.draw MO (bm 8 255) (by kernel_rfl) fun kap_898 D_899 => ?_
       refine SD.takes tk D_899 [] kn0 [0, 1, 4, 5, 6] [] [] (bm 10 115) [(2, vp 3 0), (5, vp 4 0), (10, vi .i64 x_895.2), (69, vs 1), (70, vi .i64 x_895.2), (75, vi .i64 (w64 ((len f_1.Banks.1) - x_895.2)))] rfl (by kernel_rfl) (by kernel_rfl) (by kernel_rfl) ?_
       obtain ⟨l_900, e_l_900, hp⟩ := bind_inv hp
       refine SD.sub (sz := 1) (E := 5) (R := R8) (by_ := 1) (l := f_1.Banks.2) tk D_899 (i := 2) (bm 10 119) rfl rfl (by kernel_rfl) rfl rfl rfl (.inl ⟨1, rfl, (by kernel_rfl)⟩) rfl rfl e_l_900 (by kernel_rfl) ?_
       refine SD.norm (itsN := [.rd 1 R8 f_1.Banks.1, .rd 1 R8 f_1.Banks.2, .blk 25 [.s 0, .s 1], .blk 40 [nl, nl, ci .i64 0, ci .i64 0, ci .i64 0, nl], .blk 40 [.s 5, .s 6, ci .i64 x_5, ci .i64 x_6, ci .i64 (len f_1.Banks.1), .s 7], .own 1 5 R8 x_2.Banks.1, .own 1 5 R8 x_2.Banks.2, .rd 2 R_T_api_Item x_895.1, .rd 1 R8 l_900]) (by kernel_rfl) ?_
       obtain ⟨x_1461, e_x_1461, hp⟩ := bind_inv hp
       refine SD.lay 0 (bm 10 1023) [(2, vp 3 0), (5, vp 4 0), (10, vi .i64 x_895.2), (78, vb ((str l_900) == (str x_1461)))] [.rd 1 R8 f_1.Banks.1, .rd 1 R8 f_1.Banks.2, .blk 25 [.s 0, .s 1], .blk 40 [nl, nl, ci .i64 0, ci .i64 0, ci .i64 0, nl], .blk 40 [.s 5, .s 6, ci .i64 x_5, ci .i64 x_6, ci .i64 (len f_1.Banks.1), .s 7], .own 1 5 R8 x_2.Banks.1, .own 1 5 R8 x_2.Banks.2, .rd 2 R_T_api_Item x_895.1] ?_ (fun c_900_0 => ?_)
       · refine SD.done (by kernel_rfl) fun a w h => ?_
         exact ⟨((str l_900) == (str x_1461)), hp, h.at (js := [.g 0, .g 1, .g 3, .g 4, .g 5, .g 6, .g 7]) (by kernel_rfl)⟩
       refine SD.lay 1 (bm 10 511) [(2, vp 3 0), (5, vp 4 0), (10, vi .i64 x_895.2), (72, vt 9), (77, vt 11)] [.rd 1 R8 f_1.Banks.1, .rd 1 R8 f_1.Banks.2, .blk 25 [.s 0, .s 1], .blk 40 [nl, nl, ci .i64 0, ci .i64 0, ci .i64 0, nl], .blk 40 [.s 5, .s 6, ci .i64 x_5, ci .i64 x_6, ci .i64 (len f_1.Banks.1), .s 7], .own 1 5 R8 x_2.Banks.1, .own 1 5 R8 x_2.Banks.2, .rd 2 R_T_api_Item x_895.1, .gone, .str (str l_900), .gone, .str (str x_1461)] ?_ (fun c_900_1 => ?_)
       · refine SD.all1 (i := 9) (by kernel_rfl) ?_
         refine SW.eff D_899 (i := 9) (v := vb ((str l_900) == (str x_1461))) (bs' := (bm 10 1023)) rfl (.inl rfl) rfl (e_val tk (by kernel_rfl)) (by kernel_rfl) rfl (by kernel_rfl) ?_
         exact SD.vie D_899 [.g 0, .g 1, .g 2, .g 3, .g 4, .g 5, .g 6, .g 7] c_900_0 (by kernel_rfl)
       refine SD.lay 2 (bm 10 255) [(2, vp 3 0), (5, vp 4 0), (10, vi .i64 x_895.2), (72, vt 9), (76, vs 10)] [.rd 1 R8 f_1.Banks.1, .rd 1 R8 f_1.Banks.2, .blk 25 [.s 0, .s 1], .blk 40 [nl, nl, ci .i64 0, ci .i64 0, ci .i64 0, nl], .blk 40 [.s 5, .s 6, ci .i64 x_5, ci .i64 x_6, ci .i64 (len f_1.Banks.1), .s 7], .own 1 5 R8 x_2.Banks.1, .own 1 5 R8 x_2.Banks.2, .rd 2 R_T_api_Item x_895.1, .gone, .str (str l_900), .rd 1 R8 x_1461] ?_ (fun c_900_2 => ?_)
       · refine SD.all1 (i := 8) (by kernel_rfl) ?_
         refine SW.eff D_899 (i := 8) (bs' := (bm 10 511)) rfl (.inl rfl) rfl (e_b2s (l := x_1461) tk rfl (.r (by kernel_rfl)) (by kernel_rfl)) (by kernel_rfl) rfl (by kernel_rfl) ?_
         exact SD.vie D_899 [.g 0, .g 1, .g 2, .g 3, .g 4, .g 5, .g 6, .g 7, .n, .g 9, .n, .g 11] c_900_1 (by kernel_rfl)
       refine SD.lay 3 (bm 10 127) [(2, vp 3 0), (5, vp 4 0), (10, vi .i64 x_895.2), (72, vt 9), (75, vi .i64 (w64 ((len f_1.Banks.1) - x_895.2)))] [.rd 1 R8 f_1.Banks.1, .rd 1 R8 f_1.Banks.2, .blk 25 [.s 0, .s 1], .blk 40 [nl, nl, ci .i64 0, ci .i64 0, ci .i64 0, nl], .blk 40 [.s 5, .s 6, ci .i64 x_5, ci .i64 x_6, ci .i64 (len f_1.Banks.1), .s 7], .own 1 5 R8 x_2.Banks.1, .own 1 5 R8 x_2.Banks.2, .rd 2 R_T_api_Item x_895.1, .gone, .str (str l_900)] ?_ (fun c_900_3 => ?_)
       · refine SD.all1 (i := 7) (by kernel_rfl) ?_
         refine SW.eff D_899 (i := 7) (bs' := (bm 10 255)) rfl (.inl rfl) rfl (e_c Tryd.call32 (ok_wirelessref39_erased F (w64 ((len f_1.Banks.1) - x_895.2)) _ e_x_1461) [] [vi .i64 (w64 ((len f_1.Banks.1) - x_895.2))] (vs 10) (by kernel_rfl) (.inl rfl)) (by kernel_rfl) rfl (by kernel_rfl) ?_
         exact SD.vie D_899 [.g 0, .g 1, .g 2, .g 3, .g 4, .g 5, .g 6, .g 7, .n, .g 9, .g 10] c_900_2 (by kernel_rfl)
       refine SD.lay 2 (bm 10 503) [(2, vp 3 0), (5, vp 4 0), (10, vi .i64 x_895.2), (71, vs 8), (77, vt 10)] [.rd 1 R8 f_1.Banks.1, .rd 1 R8 f_1.Banks.2, .blk 25 [.s 0, .s 1], .blk 40 [nl, nl, ci .i64 0, ci .i64 0, ci .i64 0, nl], .blk 40 [.s 5, .s 6, ci .i64 x_5, ci .i64 x_6, ci .i64 (len f_1.Banks.1), .s 7], .own 1 5 R8 x_2.Banks.1, .own 1 5 R8 x_2.Banks.2, .rd 2 R_T_api_Item x_895.1, .rd 1 R8 l_900, .gone, .str (str x_1461)] ?_ (fun c_900_4 => ?_)
       · refine SD.all1 (i := 3) (by kernel_rfl) ?_
         refine SW.eff D_899 (i := 3) (bs' := (bm 10 511)) rfl (.inl rfl) rfl (e_b2s (l := l_900) tk rfl (.r (by kernel_rfl)) (by kernel_rfl)) (by kernel_rfl) rfl (by kernel_rfl) ?_
         exact SD.vie D_899 [.g 0, .g 1, .g 2, .g 3, .g 4, .g 5, .g 6, .g 7, .n, .g 11, .n, .g 10] c_900_1 (by kernel_rfl)
       refine SD.lay 3 (bm 10 247) [(2, vp 3 0), (5, vp 4 0), (10, vi .i64 x_895.2), (71, vs 8), (76, vs 9)] [.rd 1 R8 f_1.Banks.1, .rd 1 R8 f_1.Banks.2, .blk 25 [.s 0, .s 1], .blk 40 [nl, nl, ci .i64 0, ci .i64 0, ci .i64 0, nl], .blk 40 [.s 5, .s 6, ci .i64 x_5, ci .i64 x_6, ci .i64 (len f_1.Banks.1), .s 7], .own 1 5 R8 x_2.Banks.1, .own 1 5 R8 x_2.Banks.2, .rd 2 R_T_api_Item x_895.1, .rd 1 R8 l_900, .rd 1 R8 x_1461] ?_ (fun c_900_5 => ?_)
       · refine SD.all2 (i := 3) (j := 8) (by kernel_rfl) ?_ ?_
         · refine SW.eff D_899 (i := 3) (bs' := (bm 10 255)) rfl (.inl rfl) rfl (e_b2s (l := l_900) tk rfl (.r (by kernel_rfl)) (by kernel_rfl)) (by kernel_rfl) rfl (by kernel_rfl) ?_
           exact SD.vie D_899 [.g 0, .g 1, .g 2, .g 3, .g 4, .g 5, .g 6, .g 7, .n, .g 10, .g 9] c_900_2 (by kernel_rfl)
         refine SW.eff D_899 (i := 8) (bs' := (bm 10 503)) rfl (.inl rfl) rfl (e_b2s (l := x_1461) tk rfl (.r (by kernel_rfl)) (by kernel_rfl)) (by kernel_rfl) rfl (by kernel_rfl) ?_
         exact SD.vie D_899 [.g 0, .g 1, .g 2, .g 3, .g 4, .g 5, .g 6, .g 7, .g 8, .n, .g 10] c_900_4 (by kernel_rfl)
       refine SD.all2 (i := 3) (j := 7) (by kernel_rfl) ?_ ?_
       · refine SW.eff D_899 (i := 3) (bs' := (bm 10 127)) rfl (.inl rfl) rfl (e_b2s (l := l_900) tk rfl (.r (by kernel_rfl)) (by kernel_rfl)) (by kernel_rfl) rfl (by kernel_rfl) ?_
         exact SD.vie D_899 [.g 0, .g 1, .g 2, .g 3, .g 4, .g 5, .g 6, .g 7, .n, .g 9] c_900_3 (by kernel_rfl)
       refine SW.eff D_899 (i := 7) (bs' := (bm 10 247)) rfl (.inl rfl) rfl (e_c Tryd.call32 (ok_wirelessref39_erased F (w64 ((len f_1.Banks.1) - x_895.2)) _ e_x_1461) [] [vi .i64 (w64 ((len f_1.Banks.1) - x_895.2))] (vs 9) (by kernel_rfl) (.inl rfl)) (by kernel_rfl) rfl (by kernel_rfl) ?_
       exact SD.vie D_899 [.g 0, .g 1, .g 2, .g 3, .g 4, .g 5, .g 6, .g 7, .g 8, .g 9] c_900_5 (by kernel_rfl)
     rintro a w ⟨z_897, hp, h⟩
     refine h.go ?_
     refine SC.if' rfl hp (fun hp => ?_) (fun hp => ?_)
     · refine SC.reg ?_
       refine SL.sim tk 3 [(2, vp 2 0), (5, vp 3 0)] [(3, 40, [.s 4, .s 5, ci .i64 x_5, ci .i64 x_6, ci .i64 x_895.2, .s 6])] [] [] (by kernel_rfl) ?_
       refine SL.nilJ fun a w h => ?_
       exact ⟨x_895.2, hp, h.at (js := [.g 0, .g 1, .g 2, .g 3, .g 4, .g 5, .g 6]) (by kernel_rfl)⟩
     refine SC.skipJ fun a w h => ?_
     exact ⟨len f_1.Banks.1, hp, h.at (js := [.g 0, .g 1, .g 2, .g 3, .g 4, .g 5, .g 6]) (by kernel_rfl)⟩
   rintro a w ⟨x_896, hp, h⟩
   refine h.go ?_
   refine SC.r tk [(2, vp 2 0), (3, vi .i64 0)] [(2, 40, [.s 4, .s 5, ci .i64 x_5, ci .i64 x_6, ci .i64 x_896, .s 6])] [] [] (by kernel_rfl) ?_
   obtain rfl := some_inv' hp
   exact SC.re (js := [.g 0, .g 1, .z 4, .z 5, .g 6]) tk (by kernel_rfl)
 replace hp := if_f hp he_894
 cases hp

theorem ok_wirelesslaw39_copied (F : Nat) (b_1 : (List Int)) (r : (List Int)) (hp : wirelesslaw39_copied F b_1 = some r) : Spec Tryd.prog 11 [vs 0] [.rd 1 R8 b_1] (vs 1) [.gone, .rd 1 R8 r] := by
 refine Spec.enter Tryd.func11 rfl Tryd.ntmps11 rfl rfl fun fx => ?_
 refine SC.r tk [(0, vs 0)] [] [] [] (by kernel_rfl) ?_
 refine SC.seq ?_
 refine SC.reg ?_
 refine SL.eff (e_lit (sz := 1) (E := 5) (R := R8) (by_ := 1) tk [] ([] : (List Int)) (by kernel_rfl) trivial rfl (by kernel_rfl) (by kernel_rfl)) rfl (by kernel_rfl) ?_
 refine SL.sim tk 1 [(3, vs 1), (4, vs 0)] [] [] [] (by kernel_rfl) ?_
 obtain ⟨l_2, e_l_2, hp⟩ := bind_inv hp
 refine SL.eff (e_app (i := 1) (l := ([] : (List Int))) (sz := 1) (E := 5) (R := R8) (by_ := 1) (m := b_1) tk rfl (by kernel_rfl) rfl (.r (by kernel_rfl)) e_l_2 (by kernel_rfl)) rfl (by kernel_rfl) ?_
 refine SL.sim tk 1 [(2, vs 2)] [] [] [] (by kernel_rfl) ?_
 refine SL.nilThen ?_
 obtain rfl := some_inv' hp
 exact SC.re (js := [.g 0, .z 2]) tk (by kernel_rfl)

theorem ok_wirelessref39_Get (F : Nat) (s_1 : T_api_Store) (key_2 : Int) (r : (List Int) × Bool) (hp : wirelessref39_Get F s_1 key_2 = some r) : Spec Tryd.prog 20 [.g (C_api_Store s_1 (.s 0) (.s 1) (.s 2)), vi .u16 key_2] [.rd 1 R8 s_1.Flash.Banks.1, .rd 1 R8 s_1.Flash.Banks.2, .rd 2 R_T_api_Item s_1.Items] (.u [.inl (.s 3), .inl (cb r.2)]) [.gone, .gone, .gone, .rd 1 R8 r.1] := by
 refine Spec.enter Tryd.func20 rfl Tryd.ntmps20 rfl rfl fun fx => ?_
 refine SC.seq ?_
 refine SC.reg ?_
 refine SL.eff (e_box (E := 40) (C_api_Store s_1 (.s 0) (.s 1) (.s 2)) (by kernel_rfl)) rfl (by kernel_rfl) ?_
 refine SL.sim tk 2 [(1, vi .u16 key_2), (2, vp 3 0)] [] [] [] (by kernel_rfl) ?_
 refine SL.nilThen ?_
 refine SC.cut (fun a w => wirelessref39_Get_j1 F = some r ∧ A 30 3 fx [] [.gone, .gone, .gone] a w) ?_ ?_
 · refine SC.r tk [(1, vi .u16 key_2), (2, vp 3 0), (6, vi .i64 0)] [] [] [] (by kernel_rfl) ?_
   refine SC.block ?_
   obtain ⟨o1, hi1, ho1⟩ := bind_inv hp
   clear hp
   refine SC.loop (fun n a w => ∃ (x_3 : Int), iter (fun s => wirelessref39_Get_l1 F s_1 key_2 s) n (x_3) = some o1 ∧ A 30 3 fx [(1, vi .u16 key_2), (2, vp 3 0), (6, vi .i64 x_3)] [.rd 1 R8 s_1.Flash.Banks.1, .rd 1 R8 s_1.Flash.Banks.2, .rd 2 R_T_api_Item s_1.Items, .blk 40 (C_api_Store s_1 (.s 0) (.s 1) (.s 2))] a w) F (fun a w h => ⟨0, hi1, h.at (js := [.g 0, .g 1, .g 2, .g 3]) (by kernel_rfl)⟩) ?_
   rintro n1 a w ⟨x_3, hi1, h⟩
   obtain ⟨n1, q1, rfl, hp, hs1⟩ := iter_inv hi1
   replace hp : wirelessref39_Get_l1 F s_1 key_2 x_3 = some q1 := hp
   clear hi1
   refine h.go ?_
   refine SC.seq ?_
   refine SC.r tk [(1, vi .u16 key_2), (2, vp 3 0), (6, vi .i64 x_3), (11, vb (decide (x_3 < (len s_1.Items))))] [] [] [] (by kernel_rfl) ?_
   refine SC.if' rfl hp (fun hp => ?_) (fun hp => ?_)
   · refine SC.skipThen ?_
     refine SC.seq ?_
     refine SC.block ?_
     obtain ⟨x_4, e_x_4, hp⟩ := bind_inv hp
     refine SC.pre (pre_ix (i := 2) (iv := x_3) (sz := 2) (R := R_T_api_Item) (l := s_1.Items) (by kernel_rfl) rfl e_x_4) ?_
     refine SC.r tk [(1, vi .u16 key_2), (2, vp 3 0), (6, vi .i64 x_3), (21, vb (x_4.Key == key_2))] [] [.el 4] [x_3] (by kernel_rfl) ?_
     refine SC.if' rfl hp (fun hp => ?_) (fun hp => ?_)
     · refine SC.seq ?_
       refine SC.reg ?_
       refine SL.eff (e_lit (sz := 1) (E := 5) (R := R8) (by_ := 1) tk [] ([] : (List Int)) (by kernel_rfl) trivial rfl (by kernel_rfl) (by kernel_rfl)) rfl (by kernel_rfl) ?_
       obtain ⟨x_5, e_x_5, hp⟩ := bind_inv hp
       refine SL.pre (pre_ix (i := 2) (iv := x_3) (sz := 2) (R := R_T_api_Item) (l := s_1.Items) (by kernel_rfl) rfl e_x_5) ?_
       refine SL.sim tk 6 [(22, vs 6), (28, vs 8)] [] [.el 7] [x_3] (by kernel_rfl) ?_
       obtain ⟨l_6, e_l_6, hp⟩ := bind_inv hp
       refine SL.eff (e_app (i := 6) (l := ([] : (List Int))) (sz := 1) (E := 5) (R := R8) (by_ := 1) (m := x_5.Value) tk rfl (by kernel_rfl) rfl (.r (by kernel_rfl)) e_l_6 (by kernel_rfl)) rfl (by kernel_rfl) ?_
       refine SL.norm (itsN := [.rd 1 R8 s_1.Flash.Banks.1, .rd 1 R8 s_1.Flash.Banks.2, .rd 2 R_T_api_Item s_1.Items, .blk 40 (C_api_Store s_1 (.s 0) (.s 1) (.s 2)), .elt (some (2, x_3)) false [ci .u16 x_4.Key, .s 5], .rd 1 R8 x_4.Value, .gone, .elt (some (2, x_3)) false [ci .u16 x_5.Key, .s 8], .rd 1 R8 x_5.Value, .own 1 5 R8 l_6]) (by kernel_rfl) ?_
       refine SL.sim tk 2 [(4, vs 9), (5, vb true)] [] [] [] (by kernel_rfl) ?_
       refine SL.nilThen ?_
       have ho := done_inv hp hs1
       replace hp := ho1
       try rw [ho] at hp
       obtain rfl := some_inv' hp
       exact SC.re (js := [.g 0, .g 1, .g 2, .z 9]) tk (by kernel_rfl)
     refine SC.skipThen ?_
     refine SC.reg ?_
     refine SL.sim tk 3 [(1, vi .u16 key_2), (2, vp 3 0), (6, vi .i64 (w64 (x_3 + 1)))] [] [] [] (by kernel_rfl) ?_
     refine SL.nilJ fun a w h => ?_
     exact ⟨n1, Nat.lt_succ_self _, w64 (x_3 + 1), next_inv hp hs1, h.at (js := [.g 0, .g 1, .g 2, .g 3]) (by kernel_rfl)⟩
   refine SC.exitJ rfl fun a w h => ?_
   have ho := done_inv hp hs1
   replace hp := ho1
   try rw [ho] at hp
   exact ⟨hp, h.at (js := [.g 0, .g 1, .g 2]) (by kernel_rfl)⟩
 rintro a w ⟨hp, h⟩
 refine h.go ?_
 refine SC.r tk [(4, vn), (5, vb false)] [] [] [] (by kernel_rfl) ?_
 obtain rfl := some_inv' hp
 exact SC.re (js := [.g 0, .g 1, .g 2, .n]) tk (by kernel_rfl)

theorem ok_wirelessref39_Plan (F : Nat) (s_1 : T_api_Store) (key_2 : Int) (value_3 : (List Int)) (r : (List T_api_Write) × Int) (hp : wirelessref39_Plan F s_1 key_2 value_3 = some r) : Spec Tryd.prog 23 [.g (C_api_Store s_1 (.s 0) (.s 1) (.s 2)), vi .u16 key_2, vs 3] [.rd 1 R8 s_1.Flash.Banks.1, .rd 1 R8 s_1.Flash.Banks.2, .rd 2 R_T_api_Item s_1.Items, .rd 1 R8 value_3] (.u [.inl (.s 4), .inl (ci .i64 r.2)]) [.gone, .gone, .gone, .gone, .rd 4 R_T_api_Write r.1] := by
 refine Spec.enter Tryd.func23 rfl Tryd.ntmps23 rfl rfl fun fx => ?_
 refine SC.seq ?_
 refine SC.reg ?_
 refine SL.eff (e_box (E := 40) (C_api_Store s_1 (.s 0) (.s 1) (.s 2)) (by kernel_rfl)) rfl (by kernel_rfl) ?_
 refine SL.sim tk 2 [(1, vi .u16 key_2), (2, vs 3), (3, vp 4 0)] [] [] [] (by kernel_rfl) ?_
 refine SL.nilThen ?_
 refine SC.seq ?_
 refine SC.r tk [(1, vi .u16 key_2), (2, vs 3), (3, vp 4 0), (18, vb (decide ((len value_3) > 1024)))] [] [] [] (by kernel_rfl) ?_
 refine SC.if' rfl hp (fun hp => ?_) (fun hp => ?_)
 · refine SC.r tk [(6, vn), (7, vi .i64 4)] [] [] [] (by kernel_rfl) ?_
   obtain rfl := some_inv' hp
   exact SC.re (js := [.g 0, .g 1, .g 2, .g 3, .n]) tk (by kernel_rfl)
 refine SC.skipThen ?_
 refine SC.seq ?_
 refine SC.reg ?_
 refine SL.sim tk 2 [(1, vi .u16 key_2), (2, vs 3), (3, vp 4 0), (20, .g (C_api_Store s_1 (.s 0) (.s 1) (.s 2))), (21, vi .u16 key_2)] [] [] [] (by kernel_rfl) ?_
 obtain ⟨x_4, e_x_4, hp⟩ := bind_inv hp
 refine SL.eff (e_c Tryd.call20 (ok_wirelessref39_Get F s_1 key_2 _ e_x_4) [.g 0, .g 1, .g 2] [.g (C_api_Store s_1 (.s 0) (.s 1) (.s 2)), vi .u16 key_2] (.u [.inl (.s 5), .inl (cb x_4.2)]) (by kernel_rfl) (.inl rfl)) rfl (by kernel_rfl) ?_
 refine SL.sim tk 5 [(1, vi .u16 key_2), (2, vs 3), (3, vp 4 0), (8, vs 5), (9, vb x_4.2)] [] [] [] (by kernel_rfl) ?_
 refine SL.nilThen ?_
 refine SC.seq ?_
 refine SC.seq ?_
 refine SC.reg ?_
 refine SL.sim tk 2 [(1, vi .u16 key_2), (2, vs 3), (3, vp 4 0), (8, vs 5), (9, vb x_4.2), (26, vb x_4.2)] [] [] [] (by kernel_rfl) ?_
 obtain ⟨z_6, hz, hpr⟩ := bind_inv hp
 clear hp
 refine SL.cutAt 6 (fun a w => A 114 4 fx [(1, vi .u16 key_2), (2, vs 3), (3, vp 4 0), (9, vb x_4.2), (32, vb z_6)] [.rd 1 R8 s_1.Flash.Banks.1, .rd 1 R8 s_1.Flash.Banks.2, .rd 2 R_T_api_Item s_1.Items, .rd 1 R8 value_3, .blk 40 (C_api_Store s_1 (.s 0) (.s 1) (.s 2))] a w) ?_ ?_
 · have hp := hz
   rcases Bool.eq_false_or_eq_true (x_4.2) with hg_5 | hg_5
   · replace hp := if_t hp hg_5
     refine SL.yes rfl rfl hg_5 ?_
     refine SL.sim tk 1 [(1, vi .u16 key_2), (2, vs 3), (3, vp 4 0), (9, vb x_4.2), (26, vb x_4.2), (27, vs 5)] [] [] [] (by kernel_rfl) ?_
     refine SL.yes rfl rfl hg_5 ?_
     refine SL.eff (e_b2s (l := x_4.1) tk rfl (.r (by kernel_rfl)) (by kernel_rfl)) rfl (by kernel_rfl) ?_
     refine SL.norm (itsN := [.rd 1 R8 s_1.Flash.Banks.1, .rd 1 R8 s_1.Flash.Banks.2, .rd 2 R_T_api_Item s_1.Items, .rd 1 R8 value_3, .blk 40 (C_api_Store s_1 (.s 0) (.s 1) (.s 2)), .rd 1 R8 x_4.1, .str (str x_4.1)]) (by kernel_rfl) ?_
     refine SL.yes rfl rfl hg_5 ?_
     refine SL.sim tk 1 [(1, vi .u16 key_2), (2, vs 3), (3, vp 4 0), (9, vb x_4.2), (26, vb x_4.2), (28, vt 6), (29, vs 3)] [] [] [] (by kernel_rfl) ?_
     refine SL.yes rfl rfl hg_5 ?_
     refine SL.eff (e_b2s (l := value_3) tk rfl (.r (by kernel_rfl)) (by kernel_rfl)) rfl (by kernel_rfl) ?_
     refine SL.yes rfl rfl hg_5 ?_
     refine SL.sim tk 1 [(1, vi .u16 key_2), (2, vs 3), (3, vp 4 0), (9, vb x_4.2), (26, vb x_4.2), (31, vb ((str x_4.1) == (str value_3)))] [] [] [] (by kernel_rfl) ?_
     refine SL.pickt rfl hg_5 rfl rfl ?_
     refine SL.nilJ fun a w h => ?_
     obtain rfl := some_inv' hp
     exact h.at (js := [.g 0, .g 1, .g 2, .g 3, .g 4]) (by kernel_rfl)
   replace hp := if_f hp hg_5
   refine SL.no rfl rfl hg_5 rfl ?_
   refine SL.no rfl rfl hg_5 rfl ?_
   refine SL.no rfl rfl hg_5 rfl ?_
   refine SL.no rfl rfl hg_5 rfl ?_
   refine SL.no rfl rfl hg_5 rfl ?_
   refine SL.pickf rfl hg_5 rfl rfl ?_
   refine SL.nilJ fun a w h => ?_
   obtain rfl := some_inv' hp
   exact h.at (js := [.g 0, .g 1, .g 2, .g 3, .g 4]) (by kernel_rfl)
 intro a w h
 have hp := hpr; clear hpr hz
 refine h.goL ?_
 refine SL.sim tk 9 [(1, vi .u16 key_2), (2, vs 3), (3, vp 4 0), (41, vb (z_6 || ((!x_4.2) && ((len value_3) == 0))))] [] [] [] (by kernel_rfl) ?_
 refine SL.nilThen ?_
 refine SC.if' rfl hp (fun hp => ?_) (fun hp => ?_)
 · refine SC.r tk [(6, vn), (7, vi .i64 0)] [] [] [] (by kernel_rfl) ?_
   obtain rfl := some_inv' hp
   exact SC.re (js := [.g 0, .g 1, .g 2, .g 3, .n]) tk (by kernel_rfl)
 refine SC.skipThen ?_
 refine SC.seq ?_
 refine SC.reg ?_
 refine SL.sim tk 2 [(1, vi .u16 key_2), (2, vs 3), (3, vp 4 0), (43, vp 4 0)] [] [] [] (by kernel_rfl) ?_
 refine SL.eff (e_ixa (off := 0) (T := 40) (cs := (C_api_Store s_1 (.s 0) (.s 1) (.s 2))) tk rfl rfl (by kernel_rfl) (by kernel_rfl)) rfl (by kernel_rfl) ?_
 refine SL.sim tk 3 [(1, vi .u16 key_2), (2, vs 3), (3, vp 4 0), (10, vi .i64 (len s_1.Flash.Banks.1))] [] [] [] (by kernel_rfl) ?_
 refine SL.nilThen ?_
 refine SC.seq ?_
 refine SC.reg ?_
 refine SL.sim tk 2 [(1, vi .u16 key_2), (2, vs 3), (3, vp 4 0), (10, vi .i64 (len s_1.Flash.Banks.1)), (47, vi .u16 key_2), (48, vs 3)] [] [] [] (by kernel_rfl) ?_
 obtain ⟨x_7, e_x_7, hp⟩ := bind_inv hp
 refine SL.eff (e_c Tryd.call46 (ok_wirelessref39_Record F key_2 value_3 _ e_x_7) [.g 3] [vi .u16 key_2, vs 3] (vs 5) (by kernel_rfl) (.inl rfl)) rfl (by kernel_rfl) ?_
 refine SL.sim tk 1 [(1, vi .u16 key_2), (2, vs 3), (3, vp 4 0), (10, vi .i64 (len s_1.Flash.Banks.1)), (11, vs 5)] [] [] [] (by kernel_rfl) ?_
 refine SL.nilThen ?_
 refine SC.seq ?_
 refine SC.r tk [(1, vi .u16 key_2), (2, vs 3), (3, vp 4 0), (10, vi .i64 (len s_1.Flash.Banks.1)), (11, vs 5), (56, vb (decide ((len x_7) ≤ (w64 ((len s_1.Flash.Banks.1) - s_1.End)))))] [] [] [] (by kernel_rfl) ?_
 refine SC.if' rfl hp (fun hp => ?_) (fun hp => ?_)
 · refine SC.seq ?_
   refine SC.reg ?_
   refine SL.sim tk 6 [(62, .g [ci .i64 s_1.Bank, cb false, ci .i64 s_1.End, .s 5])] [] [] [] (by kernel_rfl) ?_
   refine SL.eff (e_lit (sz := 4) (E := 27) (R := R_T_api_Write) (by_ := 48) tk [[ci .i64 s_1.Bank, cb false, ci .i64 s_1.End, .s 5]] [(T_api_Write.mk s_1.Bank false s_1.End x_7)] (by kernel_rfl) ⟨(clo_T_api_Write (x := (T_api_Write.mk s_1.Bank false s_1.End x_7)) (Clo.sl (by kernel_rfl))), trivial⟩ rfl (by kernel_rfl) (by kernel_rfl)) rfl (by kernel_rfl) ?_
   refine SL.norm (itsN := [.rd 1 R8 s_1.Flash.Banks.1, .rd 1 R8 s_1.Flash.Banks.2, .rd 2 R_T_api_Item s_1.Items, .rd 1 R8 value_3, .blk 40 (C_api_Store s_1 (.s 0) (.s 1) (.s 2)), .rd 1 R8 x_7, .own 4 27 R_T_api_Write [(T_api_Write.mk s_1.Bank false s_1.End x_7)]]) (by kernel_rfl) ?_
   refine SL.sim tk 2 [(6, vs 6), (7, vi .i64 0)] [] [] [] (by kernel_rfl) ?_
   refine SL.nilThen ?_
   obtain rfl := some_inv' hp
   exact SC.re (js := [.g 0, .g 1, .g 2, .g 3, .z 6]) tk (by kernel_rfl)
 refine SC.skipThen ?_
 refine SC.seq ?_
 refine SC.reg ?_
 refine SL.eff (e_lit (sz := 1) (E := 5) (R := R8) (by_ := 1) tk [] ([] : (List Int)) (by kernel_rfl) trivial rfl (by kernel_rfl) (by kernel_rfl)) rfl (by kernel_rfl) ?_
 refine SL.norm (itsN := [.rd 1 R8 s_1.Flash.Banks.1, .rd 1 R8 s_1.Flash.Banks.2, .rd 2 R_T_api_Item s_1.Items, .rd 1 R8 value_3, .blk 40 (C_api_Store s_1 (.s 0) (.s 1) (.s 2)), .rd 1 R8 x_7, .own 1 5 R8 ([] : (List Int))]) (by kernel_rfl) ?_
 refine SL.sim tk 1 [(1, vi .u16 key_2), (2, vs 3), (3, vp 4 0), (10, vi .i64 (len s_1.Flash.Banks.1)), (12, vs 6)] [] [] [] (by kernel_rfl) ?_
 refine SL.nilThen ?_
 refine SC.seq ?_
 refine SC.reg ?_
 refine SL.sim tk 4 [(3, vp 4 0), (10, vi .i64 (len s_1.Flash.Banks.1)), (12, vs 6), (66, vs 2), (67, vi .u16 key_2), (68, vs 3)] [] [] [] (by kernel_rfl) ?_
 obtain ⟨x_8, e_x_8, hp⟩ := bind_inv hp
 refine SL.eff (e_c Tryd.call47 (ok_wirelessref39_Set F s_1.Items key_2 value_3 _ e_x_8) [.g 2, .g 3] [vs 2, vi .u16 key_2, vs 3] (vs 7) (by kernel_rfl) (.inl rfl)) rfl (by kernel_rfl) ?_
 refine SL.sim tk 1 [(3, vp 4 0), (10, vi .i64 (len s_1.Flash.Banks.1)), (12, vs 6), (13, vs 7)] [] [] [] (by kernel_rfl) ?_
 refine SL.nilThen ?_
 refine SC.cut (fun a w => ∃ (l_9 : (List Int)), wirelessref39_Plan_j1 F s_1 l_9 = some r ∧ A 114 4 fx [(3, vp 4 0), (10, vi .i64 (len s_1.Flash.Banks.1)), (12, vs 5)] [.rd 1 R8 s_1.Flash.Banks.1, .rd 1 R8 s_1.Flash.Banks.2, .rd 2 R_T_api_Item s_1.Items, .gone, .blk 40 (C_api_Store s_1 (.s 0) (.s 1) (.s 2)), .own 1 5 R8 l_9] a w) ?_ ?_
 · refine SC.r tk [(3, vp 4 0), (10, vi .i64 (len s_1.Flash.Banks.1)), (12, vs 6), (13, vs 7), (14, vi .i64 0)] [] [] [] (by kernel_rfl) ?_
   refine SC.block ?_
   obtain ⟨o1, hi1, ho1⟩ := bind_inv hp
   clear hp
   refine SC.loop (fun n a w => ∃ (l_11 : (List Int)) (x_12 : Int), iter (fun s => wirelessref39_Plan_l1 F x_8 s.1 s.2) n (l_11, x_12) = some o1 ∧ A 114 4 fx [(3, vp 4 0), (10, vi .i64 (len s_1.Flash.Banks.1)), (12, vs 5), (13, vs 6), (14, vi .i64 x_12)] [.rd 1 R8 s_1.Flash.Banks.1, .rd 1 R8 s_1.Flash.Banks.2, .rd 2 R_T_api_Item s_1.Items, .gone, .blk 40 (C_api_Store s_1 (.s 0) (.s 1) (.s 2)), .own 1 5 R8 l_11, .rd 2 R_T_api_Item x_8] a w) F (fun a w h => ⟨([] : (List Int)), 0, hi1, h.at (js := [.g 0, .g 1, .g 2, .g 3, .g 4, .g 6, .g 7]) (by kernel_rfl)⟩) ?_
   rintro n1 a w ⟨l_11, x_12, hi1, h⟩
   obtain ⟨n1, q1, rfl, hp, hs1⟩ := iter_inv hi1
   replace hp : wirelessref39_Plan_l1 F x_8 l_11 x_12 = some q1 := hp
   clear hi1
   refine h.go ?_
   refine SC.seq ?_
   refine SC.r tk [(3, vp 4 0), (10, vi .i64 (len s_1.Flash.Banks.1)), (12, vs 5), (13, vs 6), (14, vi .i64 x_12), (73, vb (decide (x_12 < (len x_8))))] [] [] [] (by kernel_rfl) ?_
   refine SC.if' rfl hp (fun hp => ?_) (fun hp => ?_)
   · refine SC.skipThen ?_
     refine SC.seq ?_
     refine SC.block ?_
     obtain ⟨x_13, e_x_13, hp⟩ := bind_inv hp
     obtain ⟨x_14, e_x_14, hp⟩ := bind_inv hp
     refine SC.pre (pre_ix (i := 6) (iv := x_12) (sz := 2) (R := R_T_api_Item) (l := x_8) (by kernel_rfl) rfl e_x_13) ?_
     refine SC.pre (pre_ix (i := 6) (iv := x_12) (sz := 2) (R := R_T_api_Item) (l := x_8) (by kernel_rfl) rfl e_x_14) ?_
     refine SC.draw MO (bm 11 2007) (by kernel_rfl) fun kap_15 D_16 => ?_
     refine SD.takes tk D_16 [] kn0 [0, 1, 2, 3, 4, 5, 6, 7, 8, 9, 10] [.el 7, .el 9] [x_12, x_12] (bm 14 2047) [(3, vp 4 0), (10, vi .i64 (len s_1.Flash.Banks.1)), (12, vs 5), (13, vs 6), (14, vi .i64 x_12), (76, vs 5), (81, vi .u16 x_13.Key), (86, vs 10)] rfl (by kernel_rfl) (by kernel_rfl) (by kernel_rfl) ?_
     obtain ⟨x_17, e_x_17, hp⟩ := bind_inv hp
     refine SD.all1 (i := 11) (by kernel_rfl) ?_
     refine SW.eff D_16 (i := 11) (bs' := (bm 14 4095)) rfl (.inl rfl) rfl (e_c Tryd.call46 (ok_wirelessref39_Record F x_13.Key x_14.Value _ e_x_17) [.g 10] [vi .u16 x_13.Key, vs 10] (vs 11) (by kernel_rfl) (.inl rfl)) (by kernel_rfl) rfl (by kernel_rfl) ?_
     obtain ⟨l_18, e_l_18, hp⟩ := bind_inv hp
     refine SD.all1 (i := 12) (by kernel_rfl) ?_
     refine SW.eff D_16 (i := 12) (bs' := (bm 14 8191)) rfl (.inl rfl) rfl (e_app (i := 5) (l := l_11) (sz := 1) (E := 5) (R := R8) (by_ := 1) (m := x_17) tk rfl (by kernel_rfl) rfl (.r (by kernel_rfl)) e_l_18 (by kernel_rfl)) (by kernel_rfl) rfl (by kernel_rfl) ?_
     refine SD.norm (itsN := [.rd 1 R8 s_1.Flash.Banks.1, .rd 1 R8 s_1.Flash.Banks.2, .rd 2 R_T_api_Item s_1.Items, .gone, .blk 40 (C_api_Store s_1 (.s 0) (.s 1) (.s 2)), .gone, .rd 2 R_T_api_Item x_8, .elt (some (6, x_12)) false [ci .u16 x_13.Key, .s 8], .rd 1 R8 x_13.Value, .elt (some (6, x_12)) false [ci .u16 x_14.Key, .s 10], .rd 1 R8 x_14.Value, .rd 1 R8 x_17, .own 1 5 R8 l_18]) (by kernel_rfl) ?_
     refine SD.takes tk D_16 [] kn0 [13] [] [] (bm 14 16383) [(3, vp 4 0), (10, vi .i64 (len s_1.Flash.Banks.1)), (12, vs 12), (13, vs 6), (14, vi .i64 x_12)] rfl (by kernel_rfl) (by kernel_rfl) (by kernel_rfl) ?_
     refine SD.doneThen (by kernel_rfl) ?_
     refine SC.reg ?_
     refine SL.sim tk 3 [(3, vp 4 0), (10, vi .i64 (len s_1.Flash.Banks.1)), (12, vs 12), (13, vs 6), (14, vi .i64 (w64 (x_12 + 1)))] [] [] [] (by kernel_rfl) ?_
     refine SL.nilJ fun a w h => ?_
     exact ⟨n1, Nat.lt_succ_self _, l_18, w64 (x_12 + 1), next_inv hp hs1, h.at (js := [.g 0, .g 1, .g 2, .g 3, .g 4, .g 12, .g 6]) (by kernel_rfl)⟩
   refine SC.exitJ rfl fun a w h => ?_
   have ho := done_inv hp hs1
   replace hp := ho1
   try rw [ho] at hp
   exact ⟨l_11, hp, h.at (js := [.g 0, .g 1, .g 2, .g 3, .g 4, .g 5]) (by kernel_rfl)⟩
 rintro a w ⟨l_9, hp, h⟩
 refine h.go ?_
 refine SC.seq ?_
 refine SC.r tk [(3, vp 4 0), (12, vs 5), (98, vb ((decide ((w64 ((len l_9) + 10)) > (len s_1.Flash.Banks.1))) || (s_1.Count == 4294967295)))] [] [] [] (by kernel_rfl) ?_
 refine SC.if' rfl hp (fun hp => ?_) (fun hp => ?_)
 · refine SC.r tk [(6, vn), (7, vi .i64 8)] [] [] [] (by kernel_rfl) ?_
   obtain rfl := some_inv' hp
   exact SC.re (js := [.g 0, .g 1, .g 2, .g 3, .n]) tk (by kernel_rfl)
 refine SC.skipThen ?_
 refine SC.r tk [(3, vp 4 0), (12, vs 5), (15, vi .i64 (w64 (1 - s_1.Bank)))] [] [] [] (by kernel_rfl) ?_
 refine SC.seq ?_
 refine SC.reg ?_
 refine SL.sim tk 9 [(103, .g [ci .i64 (w64 (1 - s_1.Bank)), cb true, ci .i64 0, nl]), (106, .g [ci .i64 (w64 (1 - s_1.Bank)), cb false, ci .i64 10, .s 5]), (107, vi .i64 (w64 (1 - s_1.Bank))), (110, vi .i64 (w64 (s_1.Count + 1)))] [] [] [] (by kernel_rfl) ?_
 obtain ⟨x_10, e_x_10, hp⟩ := bind_inv hp
 refine SL.eff (e_c Tryd.call48 (ok_wirelessref39_Header F (w64 (s_1.Count + 1)) _ e_x_10) [] [vi .i64 (w64 (s_1.Count + 1))] (vs 6) (by kernel_rfl) (.inl rfl)) rfl (by kernel_rfl) ?_
 refine SL.sim tk 1 [(103, .g [ci .i64 (w64 (1 - s_1.Bank)), cb true, ci .i64 0, nl]), (106, .g [ci .i64 (w64 (1 - s_1.Bank)), cb false, ci .i64 10, .s 5]), (112, .g [ci .i64 (w64 (1 - s_1.Bank)), cb false, ci .i64 0, .s 6])] [] [] [] (by kernel_rfl) ?_
 refine SL.pre (pre_frz (i := 5) (sz := 1) (E := 5) (R := R8) (l := l_9) (by kernel_rfl)) ?_
 refine SL.eff (e_lit (sz := 4) (E := 27) (R := R_T_api_Write) (by_ := 48) tk [[ci .i64 (w64 (1 - s_1.Bank)), cb true, ci .i64 0, nl], [ci .i64 (w64 (1 - s_1.Bank)), cb false, ci .i64 10, .s 5], [ci .i64 (w64 (1 - s_1.Bank)), cb false, ci .i64 0, .s 6]] [(T_api_Write.mk (w64 (1 - s_1.Bank)) true 0 []), (T_api_Write.mk (w64 (1 - s_1.Bank)) false 10 l_9), (T_api_Write.mk (w64 (1 - s_1.Bank)) false 0 x_10)] (by kernel_rfl) ⟨(clo_T_api_Write (x := (T_api_Write.mk (w64 (1 - s_1.Bank)) true 0 [])) (Clo.nl _ rfl)), ⟨(clo_T_api_Write (x := (T_api_Write.mk (w64 (1 - s_1.Bank)) false 10 l_9)) (Clo.sl (by kernel_rfl))), ⟨(clo_T_api_Write (x := (T_api_Write.mk (w64 (1 - s_1.Bank)) false 0 x_10)) (Clo.sl (by kernel_rfl))), trivial⟩⟩⟩ rfl (by kernel_rfl) (by kernel_rfl)) rfl (by kernel_rfl) ?_
 refine SL.sim tk 2 [(6, vs 7), (7, vi .i64 0)] [] [] [] (by kernel_rfl) ?_
 refine SL.nilThen ?_
 obtain rfl := some_inv' hp
 exact SC.re (js := [.g 0, .g 1, .g 2, .g 3, .z 7]) tk (by kernel_rfl)
end V
end Go.Proofs.YtojcklkcjnnkaaaDoor
