/-
  Walks, written by program: each Go function returns what its pure twin says.
-/
import Derived.Test.YtojcklkcjnnkaaaDoorW0
namespace Go.Proofs.YtojcklkcjnnkaaaDoor
namespace V
theorem ok_flash_Apply (F : Nat) (f_1 : T_api_Flash) (w_2 : T_api_Write) (n_3 : Int) (r : T_api_Flash) (hp : flash_Apply F f_1 w_2 n_3 = some r) : Spec Tryd.prog 13 [.g [.s 0, .s 1], .g (C_api_Write w_2 (.s 2)), vi .i64 n_3] [.rd 1 R8 f_1.Banks.1, .rd 1 R8 f_1.Banks.2, .rd 1 R8 w_2.Bytes] (.g [.s 3, .s 4]) [.gone, .gone, .gone, .rd 1 R8 r.Banks.1, .rd 1 R8 r.Banks.2] := by
 refine Spec.enter Tryd.func13 rfl Tryd.ntmps13 rfl rfl fun fx => ?_
 refine SC.seq ?_
 refine SC.reg ?_
 refine SL.eff (e_box (E := 25) [.s 0, .s 1] (by kernel_rfl)) rfl (by kernel_rfl) ?_
 refine SL.eff (e_box (E := 27) (C_api_Write w_2 (.s 2)) (by kernel_rfl)) rfl (by kernel_rfl) ?_
 refine SL.eff (e_alloc (E := 25) tk [nl, nl] (by kernel_rfl)) rfl (by kernel_rfl) ?_
 refine SL.nilThen ?_
 refine SC.seq ?_
 refine SC.reg ?_
 refine SL.sim tk 1 [(2, vi .i64 n_3), (3, vp 3 0), (4, vp 4 0), (6, vp 5 0), (10, .g [.s 0, .s 1])] [] [] [] (by kernel_rfl) ?_
 obtain ⟨x_4, e_x_4, hp⟩ := bind_inv hp
 refine SL.eff (e_c Tryd.call33 (ok_flash_copied F f_1 _ e_x_4) [.g 0, .g 1] [.g [.s 0, .s 1]] (.g [.s 6, .s 7]) (by kernel_rfl) (.inl rfl)) rfl (by kernel_rfl) ?_
 refine SL.norm (itsN := [.rd 1 R8 f_1.Banks.1, .rd 1 R8 f_1.Banks.2, .rd 1 R8 w_2.Bytes, .blk 25 [.s 0, .s 1], .blk 27 (C_api_Write w_2 (.s 2)), .blk 25 [nl, nl], .own 1 5 R8 x_4.Banks.1, .own 1 5 R8 x_4.Banks.2]) (by kernel_rfl) ?_
 refine SL.sim tk 1 [(2, vi .i64 n_3), (3, vp 3 0), (4, vp 4 0), (6, vp 5 0)] [(3, 25, [.s 6, .s 7])] [] [] (by kernel_rfl) ?_
 refine SL.nilThen ?_
 refine SC.seq ?_
 refine SC.r tk [(2, vi .i64 n_3), (3, vp 3 0), (4, vp 4 0), (6, vp 5 0), (19, vb ((w_2.Bank != 0) && (w_2.Bank != 1)))] [] [] [] (by kernel_rfl) ?_
 refine SC.if' rfl hp (fun hp => ?_) (fun hp => ?_)
 · refine SC.r tk [(6, vp 5 0)] [(5, 25, [.s 6, .s 7])] [] [] (by kernel_rfl) ?_
   obtain rfl := some_inv' hp
   exact SC.re (js := [.g 0, .g 1, .g 2, .z 6, .z 7]) tk (by kernel_rfl)
 · refine SC.skipThen ?_
   refine SC.seq ?_
   refine SC.reg ?_
   refine SL.sim tk 3 [(2, vi .i64 n_3), (3, vp 3 0), (4, vp 4 0), (6, vp 5 0), (22, vi .i64 w_2.Bank), (23, vp 3 0)] [] [] [] (by kernel_rfl) ?_
   rcases Bool.eq_false_or_eq_true (w_2.Bank == 0) with he_5 | he_5
   · replace hp := if_t hp he_5
     refine SL.eff (e_ixn (n := 0) (off := 0) (T := 25) (cs := [.s 6, .s 7]) tk (eq_of_beq he_5) rfl rfl (by kernel_rfl) (by kernel_rfl)) rfl (by kernel_rfl) ?_
     refine SL.sim tk 2 [(2, vi .i64 n_3), (3, vp 3 0), (4, vp 4 0), (6, vp 5 0), (7, vs 6)] [] [] [] (by kernel_rfl) ?_
     refine SL.nilThen ?_
     refine SC.r tk [(2, vi .i64 n_3), (3, vp 3 0), (4, vp 4 0), (6, vp 5 0), (7, vs 6), (8, vi .i64 (len w_2.Bytes))] [] [] [] (by kernel_rfl) ?_
     refine SC.cut (fun a w => ∃ (x_6 : Int), flash_Apply_j1 F w_2 n_3 x_4 x_6 = some r ∧ A 89 3 fx [(2, vi .i64 n_3), (3, vp 3 0), (4, vp 6 0), (6, vp 7 0), (7, vs 4), (8, vi .i64 x_6)] [.gone, .gone, .rd 1 R8 w_2.Bytes, .blk 25 [.s 4, .s 5], .own 1 5 R8 x_4.Banks.1, .own 1 5 R8 x_4.Banks.2, .blk 27 (C_api_Write w_2 (.s 2)), .blk 25 [nl, nl]] a w) ?_ ?_
     · refine SC.r tk [(2, vi .i64 n_3), (3, vp 3 0), (4, vp 4 0), (6, vp 5 0), (7, vs 6), (8, vi .i64 (len w_2.Bytes)), (30, vb w_2.Erase)] [] [] [] (by kernel_rfl) ?_
       refine SC.if' rfl hp (fun hp => ?_) (fun hp => ?_)
       · refine SC.reg ?_
         refine SL.sim tk 3 [(2, vi .i64 n_3), (3, vp 3 0), (4, vp 4 0), (6, vp 5 0), (7, vs 6), (8, vi .i64 (len x_4.Banks.1))] [] [] [] (by kernel_rfl) ?_
         refine SL.nilJ fun a w h => ?_
         exact ⟨len x_4.Banks.1, hp, h.at (js := [.g 0, .g 1, .g 2, .g 3, .g 6, .g 7, .g 4, .g 5]) (by kernel_rfl)⟩
       · refine SC.skipJ fun a w h => ?_
         exact ⟨len w_2.Bytes, hp, h.at (js := [.g 0, .g 1, .g 2, .g 3, .g 6, .g 7, .g 4, .g 5]) (by kernel_rfl)⟩
     · rintro a w ⟨x_6, hp, h⟩
       refine h.go ?_
       refine SC.cut (fun a w => ∃ (x_7 : Int), flash_Apply_j2 F w_2 x_4 x_7 = some r ∧ A 89 3 fx [(2, vi .i64 x_7), (3, vp 3 0), (4, vp 6 0), (6, vp 7 0), (7, vs 4)] [.gone, .gone, .rd 1 R8 w_2.Bytes, .blk 25 [.s 4, .s 5], .own 1 5 R8 x_4.Banks.1, .own 1 5 R8 x_4.Banks.2, .blk 27 (C_api_Write w_2 (.s 2)), .blk 25 [nl, nl]] a w) ?_ ?_
       · refine SC.r tk [(2, vi .i64 n_3), (3, vp 3 0), (4, vp 6 0), (6, vp 7 0), (7, vs 4), (8, vi .i64 x_6), (39, vb ((decide (n_3 < 0)) || (decide (n_3 > x_6))))] [] [] [] (by kernel_rfl) ?_
         refine SC.if' rfl hp (fun hp => ?_) (fun hp => ?_)
         · refine SC.reg ?_
           refine SL.sim tk 2 [(2, vi .i64 x_6), (3, vp 3 0), (4, vp 6 0), (6, vp 7 0), (7, vs 4)] [] [] [] (by kernel_rfl) ?_
           refine SL.nilJ fun a w h => ?_
           exact ⟨x_6, hp, h.at (js := [.g 0, .g 1, .g 2, .g 3, .g 4, .g 5, .g 6, .g 7]) (by kernel_rfl)⟩
         · refine SC.skipJ fun a w h => ?_
           exact ⟨n_3, hp, h.at (js := [.g 0, .g 1, .g 2, .g 3, .g 4, .g 5, .g 6, .g 7]) (by kernel_rfl)⟩
       · rintro a w ⟨x_7, hp, h⟩
         refine h.go ?_
         refine SC.cut (fun a w => ∃ (l_8 : (List Int)), flash_Apply_j3 F x_4 l_8 = some r ∧ A 89 3 fx [(3, vp 3 0), (6, vp 6 0)] [.gone, .gone, .gone, .blk 25 [.s 4, .s 5], .own 1 5 R8 l_8, .own 1 5 R8 x_4.Banks.2, .blk 25 [nl, nl]] a w) ?_ ?_
         · refine SC.r tk [(3, vp 3 0), (4, vp 6 0), (6, vp 7 0), (7, vs 4), (41, vi .i64 x_7), (42, vi .i64 0)] [] [] [] (by kernel_rfl) ?_
           refine SC.block ?_
           obtain ⟨o1, hi1, ho1⟩ := bind_inv hp
           clear hp
           refine SC.loop (fun n a w => ∃ (l_9 : (List Int)) (x_10 : Int), iter (fun s => flash_Apply_l1 F w_2 x_7 s.1 s.2) n (l_9, x_10) = some o1 ∧ A 89 3 fx [(3, vp 3 0), (4, vp 6 0), (6, vp 7 0), (7, vs 4), (41, vi .i64 x_7), (42, vi .i64 x_10)] [.gone, .gone, .rd 1 R8 w_2.Bytes, .blk 25 [.s 4, .s 5], .own 1 5 R8 l_9, .own 1 5 R8 x_4.Banks.2, .blk 27 (C_api_Write w_2 (.s 2)), .blk 25 [nl, nl]] a w) F (fun a w h => ⟨x_4.Banks.1, 0, hi1, h.at (js := [.g 0, .g 1, .g 2, .g 3, .g 4, .g 5, .g 6, .g 7]) (by kernel_rfl)⟩) ?_
           rintro n1 a w ⟨l_9, x_10, hi1, h⟩
           obtain ⟨n1, q1, rfl, hp, hs1⟩ := iter_inv hi1
           replace hp : flash_Apply_l1 F w_2 x_7 l_9 x_10 = some q1 := hp
           clear hi1
           refine h.go ?_
           refine SC.r tk [(3, vp 3 0), (4, vp 6 0), (6, vp 7 0), (7, vs 4), (41, vi .i64 x_7), (42, vi .i64 x_10), (43, vb (decide (x_10 < x_7)))] [] [] [] (by kernel_rfl) ?_
           refine SC.seq ?_
           refine SC.if' rfl hp (fun hp => ?_) (fun hp => ?_)
           · refine SC.skipThen ?_
             refine SC.cut (fun a w => ∃ (l_11 : (List Int)), flash_Apply_j4 F x_10 l_11 = some q1 ∧ A 89 3 fx [(3, vp 3 0), (4, vp 6 0), (6, vp 7 0), (7, vs 4), (41, vi .i64 x_7), (42, vi .i64 x_10)] [.gone, .gone, .rd 1 R8 w_2.Bytes, .blk 25 [.s 4, .s 5], .own 1 5 R8 l_11, .own 1 5 R8 x_4.Banks.2, .blk 27 (C_api_Write w_2 (.s 2)), .blk 25 [nl, nl]] a w) ?_ ?_
             · refine SC.block ?_
               refine SC.r tk [(3, vp 3 0), (4, vp 6 0), (6, vp 7 0), (7, vs 4), (9, vi .i64 x_10), (41, vi .i64 x_7), (42, vi .i64 x_10)] [] [] [] (by kernel_rfl) ?_
               refine SC.block ?_
               refine SC.r tk [(3, vp 3 0), (4, vp 6 0), (6, vp 7 0), (7, vs 4), (9, vi .i64 x_10), (41, vi .i64 x_7), (42, vi .i64 x_10), (45, vb w_2.Erase)] [] [] [] (by kernel_rfl) ?_
               refine SC.if' rfl hp (fun hp => ?_) (fun hp => ?_)
               · refine SC.reg ?_
                 obtain ⟨x_12, e_x_12, hp⟩ := bind_inv hp
                 refine SL.pre (pre_ixo (i := 4) (iv := x_10) (sz := 1) (E := 5) (R := R8) (l := l_9) (by kernel_rfl) rfl e_x_12) ?_
                 refine SL.sim tk 3 [(3, vp 3 0), (4, vp 6 0), (6, vp 7 0), (7, vs 4), (41, vi .i64 x_7), (42, vi .i64 x_10), (50, vp 8 0)] [] [.el 8] [x_10] (by kernel_rfl) ?_
                 obtain ⟨l_13, e_l_13, hp⟩ := bind_inv hp
                 refine SL.eff0 (e_updf (sz := 1) (R := R8) (i := 4) (iv := x_10) (cs1 := [ci .u8 255]) (e := 255) tk rfl rfl rfl (by kernel_rfl) rfl rfl rfl Clo.int (by kernel_rfl) (by kernel_rfl) e_l_13) ?_
                 refine SL.nilJ fun a w h => ?_
                 exact ⟨l_13, hp, h.at (js := [.g 0, .g 1, .g 2, .g 3, .g 4, .g 5, .g 6, .g 7]) (by kernel_rfl)⟩
               · refine SC.r tk [(3, vp 3 0), (4, vp 6 0), (6, vp 7 0), (7, vs 4), (9, vi .i64 x_10), (41, vi .i64 x_7), (42, vi .i64 x_10), (51, vb (((decide (w_2.Offset < (len l_9))) && (decide ((w64 (w_2.Offset + x_10)) ≥ 0))) && (decide ((w64 (w_2.Offset + x_10)) < (len l_9)))))] [] [] [] (by kernel_rfl) ?_
                 refine SC.if' rfl hp (fun hp => ?_) (fun hp => ?_)
                 · obtain ⟨x_14, e_x_14, hp⟩ := bind_inv hp
                   refine SC.pre (pre_ix (i := 2) (iv := x_10) (sz := 1) (R := R8) (l := w_2.Bytes) (by kernel_rfl) rfl e_x_14) ?_
                   refine SC.draw MO [O, O, I, O, O, I, I, I, I] (by kernel_rfl) fun kap_15 D_16 => ?_
                   refine SD.takes tk D_16 [] kn0 [0, 1, 2, 3, 4, 7, 8, 9, 10, 11] [.el 8] [x_10] [I, I, I, I, I, O, O, I, I, I, I, I, O, O, O] [(3, vp 3 0), (4, vp 6 0), (6, vp 7 0), (7, vs 4), (41, vi .i64 x_7), (42, vi .i64 x_10), (73, vs 4), (77, vi .i64 (w64 (w_2.Offset + x_10))), (84, vi .u8 x_14)] rfl (by kernel_rfl) (by kernel_rfl) (by kernel_rfl) ?_
                   obtain ⟨x_17, e_x_17, hp⟩ := bind_inv hp
                   refine SD.all1 (i := 5) (by kernel_rfl) ?_
                   refine SW.eff D_16 (i := 5) (bs' := [I, I, I, I, I, I, O, I, I, I, I, I, O, O, O]) rfl (.inl rfl) rfl (e_ixp (sz := 1) (E := 5) (R := R8) (by_ := 1) (l := l_9) tk rfl rfl rfl e_x_17 (by kernel_rfl)) (by kernel_rfl) rfl (by kernel_rfl) ?_
                   obtain ⟨x_18, e_x_18, hp⟩ := bind_inv hp
                   refine SD.all1 (i := 6) (by kernel_rfl) ?_
                   refine SW.eff D_16 (i := 6) (bs' := [I, I, I, I, I, I, I, I, I, I, I, I, O, O, O]) rfl (.inl rfl) rfl (e_ldp1 (E := 5) (R := R8) (i := 4) (iv := w64 (w_2.Offset + x_10)) (l := l_9) tk rfl rfl e_x_18 rfl (by kernel_rfl) (by kernel_rfl) rfl) (by kernel_rfl) rfl (by kernel_rfl) ?_
                   refine SD.norm (itsN := [.gone, .gone, .rd 1 R8 w_2.Bytes, .blk 25 [.s 4, .s 5], .own 1 5 R8 l_9, .own 1 5 R8 x_4.Banks.2, .blk 27 (C_api_Write w_2 (.s 2)), .blk 25 [nl, nl], .elt (some (2, x_10)) false [ci .u8 x_14], .gone]) (by kernel_rfl) ?_
                   refine SD.takes tk D_16 [] kn0 [12] [] [] [I, I, I, I, I, I, I, I, I, I, I, I, I, O, O] [(3, vp 3 0), (4, vp 6 0), (6, vp 7 0), (7, vs 4), (41, vi .i64 x_7), (42, vi .i64 x_10), (73, vs 4), (77, vi .i64 (w64 (w_2.Offset + x_10))), (85, vi .u8 (iand .u8 x_18 x_14))] rfl (by kernel_rfl) (by kernel_rfl) (by kernel_rfl) ?_
                   obtain ⟨x_19, e_x_19, hp⟩ := bind_inv hp
                   refine SD.all1 (i := 13) (by kernel_rfl) ?_
                   refine SW.eff D_16 (i := 13) (bs' := [I, I, I, I, I, I, I, I, I, I, I, I, I, I, O]) rfl (.inl rfl) rfl (e_ixp (sz := 1) (E := 5) (R := R8) (by_ := 1) (l := l_9) tk rfl rfl rfl e_x_19 (by kernel_rfl)) (by kernel_rfl) rfl (by kernel_rfl) ?_
                   obtain ⟨l_20, e_l_20, hp⟩ := bind_inv hp
                   refine SD.all1 (i := 14) (by kernel_rfl) ?_
                   refine SW.effS D_16 (i := 14) (bs' := [I, I, I, I, I, I, I, I, I, I, I, I, I, I, I]) rfl (e_stp (sz := 1) (E := 5) (R := R8) (i := 4) (iv := w64 (w_2.Offset + x_10)) (l := l_9) (e := iand .u8 x_18 x_14) tk rfl rfl rfl rfl Clo.int (by kernel_rfl) (by kernel_rfl) e_l_20) rfl (by kernel_rfl) ?_
                   refine SD.norm (itsN := [.gone, .gone, .rd 1 R8 w_2.Bytes, .blk 25 [.s 4, .s 5], .own 1 5 R8 l_20, .own 1 5 R8 x_4.Banks.2, .blk 27 (C_api_Write w_2 (.s 2)), .blk 25 [nl, nl], .elt (some (2, x_10)) false [ci .u8 x_14], .gone]) (by kernel_rfl) ?_
                   refine SD.done (by kernel_rfl) fun a w h => ?_
                   exact ⟨l_20, hp, h.at (js := [.g 0, .g 1, .g 2, .g 3, .g 4, .g 5, .g 6, .g 7]) (by kernel_rfl)⟩
                 · refine SC.skipJ fun a w h => ?_
                   exact ⟨l_9, hp, h.at (js := [.g 0, .g 1, .g 2, .g 3, .g 4, .g 5, .g 6, .g 7]) (by kernel_rfl)⟩
             · rintro a w ⟨l_11, hp, h⟩
               refine h.go ?_
               refine SC.reg ?_
               refine SL.sim tk 2 [(3, vp 3 0), (4, vp 6 0), (6, vp 7 0), (7, vs 4), (41, vi .i64 x_7), (42, vi .i64 (w64 (x_10 + 1)))] [] [] [] (by kernel_rfl) ?_
               refine SL.nilJ fun a w h => ?_
               exact ⟨n1, Nat.lt_succ_self _, l_11, w64 (x_10 + 1), next_inv hp hs1, h.at (js := [.g 0, .g 1, .g 2, .g 3, .g 4, .g 5, .g 6, .g 7]) (by kernel_rfl)⟩
           · refine SC.exitJ rfl fun a w h => ?_
             have ho := done_inv hp hs1
             replace hp := ho1
             try rw [ho] at hp
             exact ⟨l_9, hp, h.at (js := [.g 0, .g 1, .g 2, .g 3, .g 4, .g 5, .g 7]) (by kernel_rfl)⟩
         · rintro a w ⟨l_8, hp, h⟩
           refine h.go ?_
           refine SC.r tk [(6, vp 6 0)] [(6, 25, [.s 4, .s 5])] [] [] (by kernel_rfl) ?_
           obtain rfl := some_inv' hp
           exact SC.re (js := [.g 0, .g 1, .g 2, .z 4, .z 5]) tk (by kernel_rfl)
   · replace hp := if_f hp he_5
     rcases Bool.eq_false_or_eq_true (w_2.Bank == 1) with he_21 | he_21
     · replace hp := if_t hp he_21
       refine SL.eff (e_ixn (n := 1) (off := 1) (T := 25) (cs := [.s 6, .s 7]) tk (eq_of_beq he_21) rfl rfl (by kernel_rfl) (by kernel_rfl)) rfl (by kernel_rfl) ?_
       refine SL.sim tk 2 [(2, vi .i64 n_3), (3, vp 3 0), (4, vp 4 0), (6, vp 5 0), (7, vs 7)] [] [] [] (by kernel_rfl) ?_
       refine SL.nilThen ?_
       refine SC.r tk [(2, vi .i64 n_3), (3, vp 3 0), (4, vp 4 0), (6, vp 5 0), (7, vs 7), (8, vi .i64 (len w_2.Bytes))] [] [] [] (by kernel_rfl) ?_
       refine SC.cut (fun a w => ∃ (x_22 : Int), flash_Apply_j5 F w_2 n_3 x_4 x_22 = some r ∧ A 89 3 fx [(2, vi .i64 n_3), (3, vp 3 0), (4, vp 6 0), (6, vp 7 0), (7, vs 5), (8, vi .i64 x_22)] [.gone, .gone, .rd 1 R8 w_2.Bytes, .blk 25 [.s 4, .s 5], .own 1 5 R8 x_4.Banks.1, .own 1 5 R8 x_4.Banks.2, .blk 27 (C_api_Write w_2 (.s 2)), .blk 25 [nl, nl]] a w) ?_ ?_
       · refine SC.r tk [(2, vi .i64 n_3), (3, vp 3 0), (4, vp 4 0), (6, vp 5 0), (7, vs 7), (8, vi .i64 (len w_2.Bytes)), (30, vb w_2.Erase)] [] [] [] (by kernel_rfl) ?_
         refine SC.if' rfl hp (fun hp => ?_) (fun hp => ?_)
         · refine SC.reg ?_
           refine SL.sim tk 3 [(2, vi .i64 n_3), (3, vp 3 0), (4, vp 4 0), (6, vp 5 0), (7, vs 7), (8, vi .i64 (len x_4.Banks.2))] [] [] [] (by kernel_rfl) ?_
           refine SL.nilJ fun a w h => ?_
           exact ⟨len x_4.Banks.2, hp, h.at (js := [.g 0, .g 1, .g 2, .g 3, .g 6, .g 7, .g 4, .g 5]) (by kernel_rfl)⟩
         · refine SC.skipJ fun a w h => ?_
           exact ⟨len w_2.Bytes, hp, h.at (js := [.g 0, .g 1, .g 2, .g 3, .g 6, .g 7, .g 4, .g 5]) (by kernel_rfl)⟩
       · rintro a w ⟨x_22, hp, h⟩
         refine h.go ?_
         refine SC.cut (fun a w => ∃ (x_23 : Int), flash_Apply_j6 F w_2 x_4 x_23 = some r ∧ A 89 3 fx [(2, vi .i64 x_23), (3, vp 3 0), (4, vp 6 0), (6, vp 7 0), (7, vs 5)] [.gone, .gone, .rd 1 R8 w_2.Bytes, .blk 25 [.s 4, .s 5], .own 1 5 R8 x_4.Banks.1, .own 1 5 R8 x_4.Banks.2, .blk 27 (C_api_Write w_2 (.s 2)), .blk 25 [nl, nl]] a w) ?_ ?_
         · refine SC.r tk [(2, vi .i64 n_3), (3, vp 3 0), (4, vp 6 0), (6, vp 7 0), (7, vs 5), (8, vi .i64 x_22), (39, vb ((decide (n_3 < 0)) || (decide (n_3 > x_22))))] [] [] [] (by kernel_rfl) ?_
           refine SC.if' rfl hp (fun hp => ?_) (fun hp => ?_)
           · refine SC.reg ?_
             refine SL.sim tk 2 [(2, vi .i64 x_22), (3, vp 3 0), (4, vp 6 0), (6, vp 7 0), (7, vs 5)] [] [] [] (by kernel_rfl) ?_
             refine SL.nilJ fun a w h => ?_
             exact ⟨x_22, hp, h.at (js := [.g 0, .g 1, .g 2, .g 3, .g 4, .g 5, .g 6, .g 7]) (by kernel_rfl)⟩
           · refine SC.skipJ fun a w h => ?_
             exact ⟨n_3, hp, h.at (js := [.g 0, .g 1, .g 2, .g 3, .g 4, .g 5, .g 6, .g 7]) (by kernel_rfl)⟩
         · rintro a w ⟨x_23, hp, h⟩
           refine h.go ?_
           refine SC.cut (fun a w => ∃ (l_24 : (List Int)), flash_Apply_j7 F x_4 l_24 = some r ∧ A 89 3 fx [(3, vp 3 0), (6, vp 6 0)] [.gone, .gone, .gone, .blk 25 [.s 4, .s 5], .own 1 5 R8 x_4.Banks.1, .own 1 5 R8 l_24, .blk 25 [nl, nl]] a w) ?_ ?_
           · refine SC.r tk [(3, vp 3 0), (4, vp 6 0), (6, vp 7 0), (7, vs 5), (41, vi .i64 x_23), (42, vi .i64 0)] [] [] [] (by kernel_rfl) ?_
             refine SC.block ?_
             obtain ⟨o2, hi2, ho2⟩ := bind_inv hp
             clear hp
             refine SC.loop (fun n a w => ∃ (l_25 : (List Int)) (x_26 : Int), iter (fun s => flash_Apply_l2 F w_2 x_23 s.1 s.2) n (l_25, x_26) = some o2 ∧ A 89 3 fx [(3, vp 3 0), (4, vp 6 0), (6, vp 7 0), (7, vs 5), (41, vi .i64 x_23), (42, vi .i64 x_26)] [.gone, .gone, .rd 1 R8 w_2.Bytes, .blk 25 [.s 4, .s 5], .own 1 5 R8 x_4.Banks.1, .own 1 5 R8 l_25, .blk 27 (C_api_Write w_2 (.s 2)), .blk 25 [nl, nl]] a w) F (fun a w h => ⟨x_4.Banks.2, 0, hi2, h.at (js := [.g 0, .g 1, .g 2, .g 3, .g 4, .g 5, .g 6, .g 7]) (by kernel_rfl)⟩) ?_
             rintro n2 a w ⟨l_25, x_26, hi2, h⟩
             obtain ⟨n2, q2, rfl, hp, hs2⟩ := iter_inv hi2
             replace hp : flash_Apply_l2 F w_2 x_23 l_25 x_26 = some q2 := hp
             clear hi2
             refine h.go ?_
             refine SC.r tk [(3, vp 3 0), (4, vp 6 0), (6, vp 7 0), (7, vs 5), (41, vi .i64 x_23), (42, vi .i64 x_26), (43, vb (decide (x_26 < x_23)))] [] [] [] (by kernel_rfl) ?_
             refine SC.seq ?_
             refine SC.if' rfl hp (fun hp => ?_) (fun hp => ?_)
             · refine SC.skipThen ?_
               refine SC.cut (fun a w => ∃ (l_27 : (List Int)), flash_Apply_j8 F x_26 l_27 = some q2 ∧ A 89 3 fx [(3, vp 3 0), (4, vp 6 0), (6, vp 7 0), (7, vs 5), (41, vi .i64 x_23), (42, vi .i64 x_26)] [.gone, .gone, .rd 1 R8 w_2.Bytes, .blk 25 [.s 4, .s 5], .own 1 5 R8 x_4.Banks.1, .own 1 5 R8 l_27, .blk 27 (C_api_Write w_2 (.s 2)), .blk 25 [nl, nl]] a w) ?_ ?_
               · refine SC.block ?_
                 refine SC.r tk [(3, vp 3 0), (4, vp 6 0), (6, vp 7 0), (7, vs 5), (9, vi .i64 x_26), (41, vi .i64 x_23), (42, vi .i64 x_26)] [] [] [] (by kernel_rfl) ?_
                 refine SC.block ?_
                 refine SC.r tk [(3, vp 3 0), (4, vp 6 0), (6, vp 7 0), (7, vs 5), (9, vi .i64 x_26), (41, vi .i64 x_23), (42, vi .i64 x_26), (45, vb w_2.Erase)] [] [] [] (by kernel_rfl) ?_
                 refine SC.if' rfl hp (fun hp => ?_) (fun hp => ?_)
                 · refine SC.reg ?_
                   obtain ⟨x_28, e_x_28, hp⟩ := bind_inv hp
                   refine SL.pre (pre_ixo (i := 5) (iv := x_26) (sz := 1) (E := 5) (R := R8) (l := l_25) (by kernel_rfl) rfl e_x_28) ?_
                   refine SL.sim tk 3 [(3, vp 3 0), (4, vp 6 0), (6, vp 7 0), (7, vs 5), (41, vi .i64 x_23), (42, vi .i64 x_26), (50, vp 8 0)] [] [.el 8] [x_26] (by kernel_rfl) ?_
                   obtain ⟨l_29, e_l_29, hp⟩ := bind_inv hp
                   refine SL.eff0 (e_updf (sz := 1) (R := R8) (i := 5) (iv := x_26) (cs1 := [ci .u8 255]) (e := 255) tk rfl rfl rfl (by kernel_rfl) rfl rfl rfl Clo.int (by kernel_rfl) (by kernel_rfl) e_l_29) ?_
                   refine SL.nilJ fun a w h => ?_
                   exact ⟨l_29, hp, h.at (js := [.g 0, .g 1, .g 2, .g 3, .g 4, .g 5, .g 6, .g 7]) (by kernel_rfl)⟩
                 · refine SC.r tk [(3, vp 3 0), (4, vp 6 0), (6, vp 7 0), (7, vs 5), (9, vi .i64 x_26), (41, vi .i64 x_23), (42, vi .i64 x_26), (51, vb (((decide (w_2.Offset < (len l_25))) && (decide ((w64 (w_2.Offset + x_26)) ≥ 0))) && (decide ((w64 (w_2.Offset + x_26)) < (len l_25)))))] [] [] [] (by kernel_rfl) ?_
                   refine SC.if' rfl hp (fun hp => ?_) (fun hp => ?_)
                   · obtain ⟨x_30, e_x_30, hp⟩ := bind_inv hp
                     refine SC.pre (pre_ix (i := 2) (iv := x_26) (sz := 1) (R := R8) (l := w_2.Bytes) (by kernel_rfl) rfl e_x_30) ?_
                     refine SC.draw MO [O, O, I, O, I, O, I, I, I] (by kernel_rfl) fun kap_31 D_32 => ?_
                     refine SD.takes tk D_32 [] kn0 [0, 1, 2, 3, 4, 7, 8, 9, 10, 11] [.el 8] [x_26] [I, I, I, I, I, O, O, I, I, I, I, I, O, O, O] [(3, vp 3 0), (4, vp 6 0), (6, vp 7 0), (7, vs 5), (41, vi .i64 x_23), (42, vi .i64 x_26), (73, vs 5), (77, vi .i64 (w64 (w_2.Offset + x_26))), (84, vi .u8 x_30)] rfl (by kernel_rfl) (by kernel_rfl) (by kernel_rfl) ?_
                     obtain ⟨x_33, e_x_33, hp⟩ := bind_inv hp
                     refine SD.all1 (i := 5) (by kernel_rfl) ?_
                     refine SW.eff D_32 (i := 5) (bs' := [I, I, I, I, I, I, O, I, I, I, I, I, O, O, O]) rfl (.inl rfl) rfl (e_ixp (sz := 1) (E := 5) (R := R8) (by_ := 1) (l := l_25) tk rfl rfl rfl e_x_33 (by kernel_rfl)) (by kernel_rfl) rfl (by kernel_rfl) ?_
                     obtain ⟨x_34, e_x_34, hp⟩ := bind_inv hp
                     refine SD.all1 (i := 6) (by kernel_rfl) ?_
                     refine SW.eff D_32 (i := 6) (bs' := [I, I, I, I, I, I, I, I, I, I, I, I, O, O, O]) rfl (.inl rfl) rfl (e_ldp1 (E := 5) (R := R8) (i := 5) (iv := w64 (w_2.Offset + x_26)) (l := l_25) tk rfl rfl e_x_34 rfl (by kernel_rfl) (by kernel_rfl) rfl) (by kernel_rfl) rfl (by kernel_rfl) ?_
                     refine SD.norm (itsN := [.gone, .gone, .rd 1 R8 w_2.Bytes, .blk 25 [.s 4, .s 5], .own 1 5 R8 x_4.Banks.1, .own 1 5 R8 l_25, .blk 27 (C_api_Write w_2 (.s 2)), .blk 25 [nl, nl], .elt (some (2, x_26)) false [ci .u8 x_30], .gone]) (by kernel_rfl) ?_
                     refine SD.takes tk D_32 [] kn0 [12] [] [] [I, I, I, I, I, I, I, I, I, I, I, I, I, O, O] [(3, vp 3 0), (4, vp 6 0), (6, vp 7 0), (7, vs 5), (41, vi .i64 x_23), (42, vi .i64 x_26), (73, vs 5), (77, vi .i64 (w64 (w_2.Offset + x_26))), (85, vi .u8 (iand .u8 x_34 x_30))] rfl (by kernel_rfl) (by kernel_rfl) (by kernel_rfl) ?_
                     obtain ⟨x_35, e_x_35, hp⟩ := bind_inv hp
                     refine SD.all1 (i := 13) (by kernel_rfl) ?_
                     refine SW.eff D_32 (i := 13) (bs' := [I, I, I, I, I, I, I, I, I, I, I, I, I, I, O]) rfl (.inl rfl) rfl (e_ixp (sz := 1) (E := 5) (R := R8) (by_ := 1) (l := l_25) tk rfl rfl rfl e_x_35 (by kernel_rfl)) (by kernel_rfl) rfl (by kernel_rfl) ?_
                     obtain ⟨l_36, e_l_36, hp⟩ := bind_inv hp
                     refine SD.all1 (i := 14) (by kernel_rfl) ?_
                     refine SW.effS D_32 (i := 14) (bs' := [I, I, I, I, I, I, I, I, I, I, I, I, I, I, I]) rfl (e_stp (sz := 1) (E := 5) (R := R8) (i := 5) (iv := w64 (w_2.Offset + x_26)) (l := l_25) (e := iand .u8 x_34 x_30) tk rfl rfl rfl rfl Clo.int (by kernel_rfl) (by kernel_rfl) e_l_36) rfl (by kernel_rfl) ?_
                     refine SD.norm (itsN := [.gone, .gone, .rd 1 R8 w_2.Bytes, .blk 25 [.s 4, .s 5], .own 1 5 R8 x_4.Banks.1, .own 1 5 R8 l_36, .blk 27 (C_api_Write w_2 (.s 2)), .blk 25 [nl, nl], .elt (some (2, x_26)) false [ci .u8 x_30], .gone]) (by kernel_rfl) ?_
                     refine SD.done (by kernel_rfl) fun a w h => ?_
                     exact ⟨l_36, hp, h.at (js := [.g 0, .g 1, .g 2, .g 3, .g 4, .g 5, .g 6, .g 7]) (by kernel_rfl)⟩
                   · refine SC.skipJ fun a w h => ?_
                     exact ⟨l_25, hp, h.at (js := [.g 0, .g 1, .g 2, .g 3, .g 4, .g 5, .g 6, .g 7]) (by kernel_rfl)⟩
               · rintro a w ⟨l_27, hp, h⟩
                 refine h.go ?_
                 refine SC.reg ?_
                 refine SL.sim tk 2 [(3, vp 3 0), (4, vp 6 0), (6, vp 7 0), (7, vs 5), (41, vi .i64 x_23), (42, vi .i64 (w64 (x_26 + 1)))] [] [] [] (by kernel_rfl) ?_
                 refine SL.nilJ fun a w h => ?_
                 exact ⟨n2, Nat.lt_succ_self _, l_27, w64 (x_26 + 1), next_inv hp hs2, h.at (js := [.g 0, .g 1, .g 2, .g 3, .g 4, .g 5, .g 6, .g 7]) (by kernel_rfl)⟩
             · refine SC.exitJ rfl fun a w h => ?_
               have ho := done_inv hp hs2
               replace hp := ho2
               try rw [ho] at hp
               exact ⟨l_25, hp, h.at (js := [.g 0, .g 1, .g 2, .g 3, .g 4, .g 5, .g 7]) (by kernel_rfl)⟩
           · rintro a w ⟨l_24, hp, h⟩
             refine h.go ?_
             refine SC.r tk [(6, vp 6 0)] [(6, 25, [.s 4, .s 5])] [] [] (by kernel_rfl) ?_
             obtain rfl := some_inv' hp
             exact SC.re (js := [.g 0, .g 1, .g 2, .z 4, .z 5]) tk (by kernel_rfl)
     · replace hp := if_f hp he_21
       cases hp

theorem ok_flash_Put (F : Nat) (s_1 : T_api_Store) (key_2 : Int) (value_3 : (List Int)) (r : T_api_Store × Int) (hp : flash_Put F s_1 key_2 value_3 = some r) : Spec Tryd.prog 25 [.g (C_api_Store s_1 (.s 0) (.s 1) (.s 2)), vi .u16 key_2, vs 3] [.rd 1 R8 s_1.Flash.Banks.1, .rd 1 R8 s_1.Flash.Banks.2, .rd 2 R_T_api_Item s_1.Items, .rd 1 R8 value_3] (.u [.inr [.s 4, .s 5, ci .i64 r.1.Bank, ci .i64 r.1.Count, ci .i64 r.1.End, .s 6], .inl (ci .i64 r.2)]) [.gone, .gone, .gone, .gone, .rd 1 R8 r.1.Flash.Banks.1, .rd 1 R8 r.1.Flash.Banks.2, .rd 2 R_T_api_Item r.1.Items] := by
 refine Spec.enter Tryd.func25 rfl Tryd.ntmps25 rfl rfl fun fx => ?_
 refine SC.seq ?_
 refine SC.reg ?_
 refine SL.eff (e_box (E := 40) (C_api_Store s_1 (.s 0) (.s 1) (.s 2)) (by kernel_rfl)) rfl (by kernel_rfl) ?_
 refine SL.eff (e_alloc (E := 40) tk [nl, nl, ci .i64 0, ci .i64 0, ci .i64 0, nl] (by kernel_rfl)) rfl (by kernel_rfl) ?_
 refine SL.sim tk 1 [(1, vi .u16 key_2), (2, vs 3), (3, vp 4 0), (6, vp 5 0)] [] [] [] (by kernel_rfl) ?_
 refine SL.nilThen ?_
 refine SC.seq ?_
 refine SC.reg ?_
 refine SL.sim tk 3 [(3, vp 4 0), (6, vp 5 0), (14, .g (C_api_Store s_1 (.s 0) (.s 1) (.s 2))), (15, vi .u16 key_2), (16, vs 3)] [] [] [] (by kernel_rfl) ?_
 obtain ⟨x_4, e_x_4, hp⟩ := bind_inv hp
 refine SL.eff (e_c Tryd.call22 (ok_flash_Plan F s_1 key_2 value_3 _ e_x_4) [.g 0, .g 1, .g 2, .g 3] [.g (C_api_Store s_1 (.s 0) (.s 1) (.s 2)), vi .u16 key_2, vs 3] (.u [.inl (.s 6), .inl (ci .i64 x_4.2)]) (by kernel_rfl) (.inl rfl)) rfl (by kernel_rfl) ?_
 refine SL.norm (itsN := [.rd 1 R8 s_1.Flash.Banks.1, .rd 1 R8 s_1.Flash.Banks.2, .rd 2 R_T_api_Item s_1.Items, .rd 1 R8 value_3, .blk 40 (C_api_Store s_1 (.s 0) (.s 1) (.s 2)), .blk 40 [nl, nl, ci .i64 0, ci .i64 0, ci .i64 0, nl], .rd 4 R_T_api_Write x_4.1]) (by kernel_rfl) ?_
 refine SL.sim tk 5 [(3, vp 4 0), (6, vp 5 0), (8, vs 6), (9, vi .i64 x_4.2)] [] [] [] (by kernel_rfl) ?_
 refine SL.nilThen ?_
 refine SC.seq ?_
 refine SC.r tk [(3, vp 4 0), (6, vp 5 0), (8, vs 6), (9, vi .i64 x_4.2), (26, vb ((x_4.2 != 0) || ((len x_4.1) == 0)))] [] [] [] (by kernel_rfl) ?_
 refine SC.if' rfl hp (fun hp => ?_) (fun hp => ?_)
 · refine SC.seq ?_
   refine SC.reg ?_
   refine SL.sim tk 1 [(6, vp 5 0), (9, vi .i64 x_4.2), (27, .g (C_api_Store s_1 (.s 0) (.s 1) (.s 2)))] [] [] [] (by kernel_rfl) ?_
   obtain ⟨x_5, e_x_5, hp⟩ := bind_inv hp
   refine SL.eff (e_c Tryd.call49 (ok_flash_kept F s_1 _ e_x_5) [.g 0, .g 1, .g 2] [.g (C_api_Store s_1 (.s 0) (.s 1) (.s 2))] (.g (C_api_Store x_5 (.s 7) (.s 8) (.s 9))) (by kernel_rfl) (.inl rfl)) rfl (by kernel_rfl) ?_
   refine SL.sim tk 3 [(6, vp 5 0), (7, vi .i64 x_4.2)] [(5, 40, (C_api_Store x_5 (.s 7) (.s 8) (.s 9)))] [] [] (by kernel_rfl) ?_
   refine SL.nilThen ?_
   obtain rfl := some_inv' hp
   exact SC.re (js := [.g 0, .g 1, .g 2, .g 3, .g 7, .g 8, .g 9]) tk (by kernel_rfl)
 · refine SC.skipThen ?_
   refine SC.seq ?_
   refine SC.reg ?_
   refine SL.sim tk 2 [(6, vp 5 0), (8, vs 6), (31, .g [.s 0, .s 1])] [] [] [] (by kernel_rfl) ?_
   refine SL.eff (e_alloc (E := 25) tk [nl, nl] (by kernel_rfl)) rfl (by kernel_rfl) ?_
   refine SL.sim tk 1 [(6, vp 5 0), (8, vs 6), (10, vp 7 0)] [(7, 25, [.s 0, .s 1])] [] [] (by kernel_rfl) ?_
   refine SL.nilThen ?_
   refine SC.cut (fun a w => ∃ (c_8 : T_api_Flash), flash_Put_j1 F c_8 = some r ∧ A 46 4 fx [(6, vp 4 0), (10, vp 5 0)] [.gone, .gone, .gone, .gone, .blk 40 [nl, nl, ci .i64 0, ci .i64 0, ci .i64 0, nl], .blk 25 [.s 6, .s 7], .rd 1 R8 c_8.Banks.1, .rd 1 R8 c_8.Banks.2] a w) ?_ ?_
   · refine SC.r tk [(6, vp 5 0), (10, vp 7 0), (32, vs 6), (33, vi .i64 (len x_4.1)), (34, vi .i64 0)] [] [] [] (by kernel_rfl) ?_
     refine SC.block ?_
     obtain ⟨o1, hi1, ho1⟩ := bind_inv hp
     clear hp
     refine SC.loop (fun n a w => ∃ (c_12 : T_api_Flash) (x_13 : Int), iter (fun s => flash_Put_l1 F x_4 s.1 s.2) n (c_12, x_13) = some o1 ∧ A 46 4 fx [(6, vp 4 0), (10, vp 5 0), (32, vs 8), (33, vi .i64 (len x_4.1)), (34, vi .i64 x_13)] [.gone, .gone, .gone, .gone, .blk 40 [nl, nl, ci .i64 0, ci .i64 0, ci .i64 0, nl], .blk 25 [.s 6, .s 7], .rd 1 R8 c_12.Banks.1, .rd 1 R8 c_12.Banks.2, .rd 4 R_T_api_Write x_4.1] a w) F (fun a w h => ⟨s_1.Flash, 0, hi1, h.at (js := [.g 0, .g 1, .g 2, .g 3, .g 5, .g 7, .g 0, .g 1, .g 6]) (by kernel_rfl)⟩) ?_
     rintro n1 a w ⟨c_12, x_13, hi1, h⟩
     obtain ⟨n1, q1, rfl, hp, hs1⟩ := iter_inv hi1
     replace hp : flash_Put_l1 F x_4 c_12 x_13 = some q1 := hp
     clear hi1
     refine h.go ?_
     refine SC.r tk [(6, vp 4 0), (10, vp 5 0), (32, vs 8), (33, vi .i64 (len x_4.1)), (34, vi .i64 x_13), (35, vb (decide (x_13 < (len x_4.1))))] [] [] [] (by kernel_rfl) ?_
     refine SC.seq ?_
     refine SC.if' rfl hp (fun hp => ?_) (fun hp => ?_)
     · refine SC.skipThen ?_
       refine SC.seq ?_
       refine SC.block ?_
       refine SC.seq ?_
       refine SC.reg ?_
       obtain ⟨x_14, e_x_14, hp⟩ := bind_inv hp
       refine SL.pre (pre_ix (i := 8) (iv := x_13) (sz := 4) (R := R_T_api_Write) (l := x_4.1) (by kernel_rfl) rfl e_x_14) ?_
       refine SL.sim tk 2 [(6, vp 4 0), (10, vp 5 0), (32, vs 8), (33, vi .i64 (len x_4.1)), (34, vi .i64 x_13), (37, .g (C_api_Write x_14 (.s 10)))] [] [.el 9] [x_13] (by kernel_rfl) ?_
       refine SL.eff (e_alloc (E := 27) tk [ci .i64 0, cb false, ci .i64 0, nl] (by kernel_rfl)) rfl (by kernel_rfl) ?_
       refine SL.sim tk 1 [(6, vp 4 0), (10, vp 5 0), (12, vp 11 0), (32, vs 8), (33, vi .i64 (len x_4.1)), (34, vi .i64 x_13)] [(11, 27, (C_api_Write x_14 (.s 10)))] [] [] (by kernel_rfl) ?_
       refine SL.nilThen ?_
       refine SC.reg ?_
       refine SL.sim tk 2 [(6, vp 4 0), (10, vp 5 0), (32, vs 8), (33, vi .i64 (len x_4.1)), (34, vi .i64 x_13), (38, .g [.s 6, .s 7]), (39, .g (C_api_Write x_14 (.s 10)))] [] [] [] (by kernel_rfl) ?_
       obtain ⟨x_15, e_x_15, hp⟩ := bind_inv hp
       refine SL.eff (e_c Tryd.call13 (ok_flash_Apply F c_12 x_14 (-1) _ e_x_15) [.g 6, .g 7, .g 10] [.g [.s 6, .s 7], .g (C_api_Write x_14 (.s 10)), vi .i64 (-1)] (.g [.s 12, .s 13]) (by kernel_rfl) (.inl rfl)) rfl (by kernel_rfl) ?_
       refine SL.norm (itsN := [.gone, .gone, .gone, .gone, .blk 40 [nl, nl, ci .i64 0, ci .i64 0, ci .i64 0, nl], .blk 25 [.s 6, .s 7], .rd 1 R8 c_12.Banks.1, .rd 1 R8 c_12.Banks.2, .rd 4 R_T_api_Write x_4.1, .elt (some (8, x_13)) false (C_api_Write x_14 (.s 10)), .rd 1 R8 x_14.Bytes, .blk 27 (C_api_Write x_14 (.s 10)), .rd 1 R8 x_15.Banks.1, .rd 1 R8 x_15.Banks.2]) (by kernel_rfl) ?_
       refine SL.sim tk 1 [(6, vp 4 0), (10, vp 5 0), (32, vs 8), (33, vi .i64 (len x_4.1)), (34, vi .i64 x_13)] [(5, 25, [.s 12, .s 13])] [] [] (by kernel_rfl) ?_
       refine SL.nilThen ?_
       refine SC.reg ?_
       refine SL.sim tk 2 [(6, vp 4 0), (10, vp 5 0), (32, vs 8), (33, vi .i64 (len x_4.1)), (34, vi .i64 (w64 (x_13 + 1)))] [] [] [] (by kernel_rfl) ?_
       refine SL.nilJ fun a w h => ?_
       exact ⟨n1, Nat.lt_succ_self _, x_15, w64 (x_13 + 1), next_inv hp hs1, h.at (js := [.g 0, .g 1, .g 2, .g 3, .g 4, .g 5, .g 12, .g 13, .g 8]) (by kernel_rfl)⟩
     · refine SC.exitJ rfl fun a w h => ?_
       have ho := done_inv hp hs1
       replace hp := ho1
       try rw [ho] at hp
       exact ⟨c_12, hp, h.at (js := [.g 0, .g 1, .g 2, .g 3, .g 4, .g 5, .g 6, .g 7]) (by kernel_rfl)⟩
   · rintro a w ⟨c_8, hp, h⟩
     refine h.go ?_
     refine SC.seq ?_
     refine SC.reg ?_
     refine SL.sim tk 1 [(6, vp 4 0), (42, .g [.s 6, .s 7])] [] [] [] (by kernel_rfl) ?_
     obtain ⟨x_9, e_x_9, hp⟩ := bind_inv hp
     refine SL.eff (e_c Tryd.call16 (ok_flash_Mount F c_8 _ e_x_9) [.g 6, .g 7] [.g [.s 6, .s 7]] (.u [.inr (C_api_Store x_9.1 (.s 8) (.s 9) (.s 10)), .inl (ci .i64 x_9.2)]) (by kernel_rfl) (.inl rfl)) rfl (by kernel_rfl) ?_
     refine SL.sim tk 4 [(6, vp 4 0), (7, vi .i64 x_9.2)] [(4, 40, (C_api_Store x_9.1 (.s 8) (.s 9) (.s 10)))] [] [] (by kernel_rfl) ?_
     refine SL.nilThen ?_
     obtain rfl := some_inv' hp
     exact SC.re (js := [.g 0, .g 1, .g 2, .g 3, .g 8, .g 9, .g 10]) tk (by kernel_rfl)

theorem ok_wirelesslaw39_lives (F : Nat) (r : Bool) (hp : wirelesslaw39_lives F = some r) : Spec Tryd.prog 8 [] [] (vb r) [] := by
 refine Spec.enter Tryd.func8 rfl Tryd.ntmps8 rfl rfl fun fx => ?_
 refine SC.r tk [] [] [] [] (by kernel_rfl) ?_
 refine SC.seq ?_
 refine SC.reg ?_
 obtain ⟨x_1, e_x_1, hp⟩ := bind_inv hp
 refine SL.eff (e_c Tryd.call9 (ok_flash_Blank F 64 _ e_x_1) [] [vi .i64 64] (.u [.inr [.s 0, .s 1], .inl (ci .i64 x_1.2)]) (by kernel_rfl) (.inl rfl)) rfl (by kernel_rfl) ?_
 refine SL.sim tk 3 [(13, .g [.s 0, .s 1]), (14, vi .i64 x_1.2)] [] [] [] (by kernel_rfl) ?_
 refine SL.eff (e_alloc (E := 25) tk [nl, nl] (by kernel_rfl)) rfl (by kernel_rfl) ?_
 refine SL.sim tk 2 [(1, vp 2 0), (2, vi .i64 x_1.2)] [(2, 25, [.s 0, .s 1])] [] [] (by kernel_rfl) ?_
 refine SL.nilThen ?_
 refine SC.seq ?_
 refine SC.reg ?_
 refine SL.sim tk 1 [(2, vi .i64 x_1.2), (16, .g [.s 0, .s 1])] [] [] [] (by kernel_rfl) ?_
 obtain ⟨x_2, e_x_2, hp⟩ := bind_inv hp
 refine SL.eff (e_c Tryd.call16 (ok_flash_Mount F x_1.1 _ e_x_2) [.g 0, .g 1] [.g [.s 0, .s 1]] (.u [.inr (C_api_Store x_2.1 (.s 3) (.s 4) (.s 5)), .inl (ci .i64 x_2.2)]) (by kernel_rfl) (.inl rfl)) rfl (by kernel_rfl) ?_
 refine SL.norm (itsN := [.rd 1 R8 x_1.1.Banks.1, .rd 1 R8 x_1.1.Banks.2, .blk 25 [.s 0, .s 1], .rd 1 R8 x_2.1.Flash.Banks.1, .rd 1 R8 x_2.1.Flash.Banks.2, .rd 2 R_T_api_Item x_2.1.Items]) (by kernel_rfl) ?_
 refine SL.sim tk 3 [(2, vi .i64 x_1.2), (18, .g (C_api_Store x_2.1 (.s 3) (.s 4) (.s 5))), (19, vi .i64 x_2.2)] [] [] [] (by kernel_rfl) ?_
 refine SL.eff (e_alloc (E := 40) tk [nl, nl, ci .i64 0, ci .i64 0, ci .i64 0, nl] (by kernel_rfl)) rfl (by kernel_rfl) ?_
 refine SL.sim tk 2 [(2, vi .i64 x_1.2), (3, vp 6 0), (4, vi .i64 x_2.2)] [(6, 40, (C_api_Store x_2.1 (.s 3) (.s 4) (.s 5)))] [] [] (by kernel_rfl) ?_
 refine SL.nilThen ?_
 refine SC.seq ?_
 refine SC.reg ?_
 refine SL.sim tk 1 [(2, vi .i64 x_1.2), (3, vp 6 0), (4, vi .i64 x_2.2), (21, .g (C_api_Store x_2.1 (.s 3) (.s 4) (.s 5)))] [] [] [] (by kernel_rfl) ?_
 refine SL.eff (e_lit (sz := 1) (E := 5) (R := R8) (by_ := 1) tk [[ci .u8 7]] [7] (by kernel_rfl) ⟨Clo.int, trivial⟩ rfl (by kernel_rfl) (by kernel_rfl)) rfl (by kernel_rfl) ?_
 obtain ⟨x_3, e_x_3, hp⟩ := bind_inv hp
 refine SL.pre (pre_frz (i := 7) (sz := 1) (E := 5) (R := R8) (l := [7]) (by kernel_rfl)) ?_
 refine SL.eff (e_c Tryd.call25 (ok_flash_Put F x_2.1 5 [7] _ e_x_3) [.g 3, .g 4, .g 5, .g 7] [.g (C_api_Store x_2.1 (.s 3) (.s 4) (.s 5)), vi .u16 5, vs 7] (.u [.inr (C_api_Store x_3.1 (.s 8) (.s 9) (.s 10)), .inl (ci .i64 x_3.2)]) (by kernel_rfl) (.inl rfl)) rfl (by kernel_rfl) ?_
 refine SL.norm (itsN := [.rd 1 R8 x_1.1.Banks.1, .rd 1 R8 x_1.1.Banks.2, .blk 25 [.s 0, .s 1], .rd 1 R8 x_2.1.Flash.Banks.1, .rd 1 R8 x_2.1.Flash.Banks.2, .rd 2 R_T_api_Item x_2.1.Items, .blk 40 (C_api_Store x_2.1 (.s 3) (.s 4) (.s 5)), .rd 1 R8 [7], .rd 1 R8 x_3.1.Flash.Banks.1, .rd 1 R8 x_3.1.Flash.Banks.2, .rd 2 R_T_api_Item x_3.1.Items]) (by kernel_rfl) ?_
 refine SL.sim tk 3 [(2, vi .i64 x_1.2), (3, vp 6 0), (4, vi .i64 x_2.2), (24, .g (C_api_Store x_3.1 (.s 8) (.s 9) (.s 10))), (25, vi .i64 x_3.2)] [] [] [] (by kernel_rfl) ?_
 refine SL.eff (e_alloc (E := 40) tk [nl, nl, ci .i64 0, ci .i64 0, ci .i64 0, nl] (by kernel_rfl)) rfl (by kernel_rfl) ?_
 refine SL.sim tk 2 [(2, vi .i64 x_1.2), (3, vp 6 0), (4, vi .i64 x_2.2), (5, vp 11 0), (6, vi .i64 x_3.2)] [(11, 40, (C_api_Store x_3.1 (.s 8) (.s 9) (.s 10)))] [] [] (by kernel_rfl) ?_
 refine SL.nilThen ?_
 refine SC.seq ?_
 refine SC.reg ?_
 refine SL.sim tk 1 [(2, vi .i64 x_1.2), (3, vp 6 0), (4, vi .i64 x_2.2), (5, vp 11 0), (6, vi .i64 x_3.2), (27, .g (C_api_Store x_3.1 (.s 8) (.s 9) (.s 10)))] [] [] [] (by kernel_rfl) ?_
 obtain ⟨x_4, e_x_4, hp⟩ := bind_inv hp
 refine SL.eff (e_c Tryd.call19 (ok_flash_Get F x_3.1 5 _ e_x_4) [.g 8, .g 9, .g 10] [.g (C_api_Store x_3.1 (.s 8) (.s 9) (.s 10)), vi .u16 5] (.u [.inl (.s 12), .inl (cb x_4.2)]) (by kernel_rfl) (.inl rfl)) rfl (by kernel_rfl) ?_
 refine SL.norm (itsN := [.rd 1 R8 x_1.1.Banks.1, .rd 1 R8 x_1.1.Banks.2, .blk 25 [.s 0, .s 1], .rd 1 R8 x_2.1.Flash.Banks.1, .rd 1 R8 x_2.1.Flash.Banks.2, .rd 2 R_T_api_Item x_2.1.Items, .blk 40 (C_api_Store x_2.1 (.s 3) (.s 4) (.s 5)), .rd 1 R8 [7], .rd 1 R8 x_3.1.Flash.Banks.1, .rd 1 R8 x_3.1.Flash.Banks.2, .rd 2 R_T_api_Item x_3.1.Items, .blk 40 (C_api_Store x_3.1 (.s 8) (.s 9) (.s 10)), .rd 1 R8 x_4.1]) (by kernel_rfl) ?_
 refine SL.sim tk 5 [(2, vi .i64 x_1.2), (3, vp 6 0), (4, vi .i64 x_2.2), (5, vp 11 0), (6, vi .i64 x_3.2), (7, vs 12), (8, vb x_4.2)] [] [] [] (by kernel_rfl) ?_
 refine SL.nilThen ?_
 refine SC.seq ?_
 refine SC.reg ?_
 obtain ⟨x_5, e_x_5, hp⟩ := bind_inv hp
 refine SL.eff (e_c Tryd.call9 (ok_flash_Blank F 63 _ e_x_5) [] [vi .i64 63] (.u [.inr [.s 13, .s 14], .inl (ci .i64 x_5.2)]) (by kernel_rfl) (.inl rfl)) rfl (by kernel_rfl) ?_
 refine SL.sim tk 3 [(2, vi .i64 x_1.2), (3, vp 6 0), (4, vi .i64 x_2.2), (5, vp 11 0), (6, vi .i64 x_3.2), (7, vs 12), (8, vb x_4.2), (33, .g [.s 13, .s 14]), (34, vi .i64 x_5.2)] [] [] [] (by kernel_rfl) ?_
 refine SL.eff (e_alloc (E := 25) tk [nl, nl] (by kernel_rfl)) rfl (by kernel_rfl) ?_
 refine SL.sim tk 2 [(2, vi .i64 x_1.2), (3, vp 6 0), (4, vi .i64 x_2.2), (5, vp 11 0), (6, vi .i64 x_3.2), (7, vs 12), (8, vb x_4.2), (10, vi .i64 x_5.2)] [(15, 25, [.s 13, .s 14])] [] [] (by kernel_rfl) ?_
 refine SL.nilThen ?_
 refine SC.seq ?_
 refine SC.reg ?_
 refine SL.sim tk 34 [(5, vp 11 0), (7, vs 12), (10, vi .i64 x_5.2), (68, vb ((((((((x_1.2 == 0) && (x_2.2 == 0)) && (x_2.1.End == 64)) && (x_3.2 == 0)) && (x_3.1.Bank == 1)) && (x_3.1.Count == 1)) && (x_3.1.End == 19)) && x_4.2))] [] [] [] (by kernel_rfl) ?_
 obtain ⟨z_7, hz, hpr⟩ := bind_inv hp
 clear hp
 refine SL.cutAt 4 (fun a w => A 82 0 fx [(5, vp 0 0), (10, vi .i64 x_5.2), (72, vb z_7)] [.blk 40 (C_api_Store x_3.1 (.s 1) (.s 2) (.s 3)), .rd 1 R8 x_3.1.Flash.Banks.1, .rd 1 R8 x_3.1.Flash.Banks.2, .rd 2 R_T_api_Item x_3.1.Items] a w) ?_ ?_
 · have hp := hz
   rcases Bool.eq_false_or_eq_true (((((((((x_1.2 == 0) && (x_2.2 == 0)) && (x_2.1.End == 64)) && (x_3.2 == 0)) && (x_3.1.Bank == 1)) && (x_3.1.Count == 1)) && (x_3.1.End == 19)) && x_4.2)) with hg_6 | hg_6
   · replace hp := if_t hp hg_6
     refine SL.yes rfl rfl hg_6 ?_
     refine SL.sim tk 1 [(5, vp 11 0), (10, vi .i64 x_5.2), (68, vb ((((((((x_1.2 == 0) && (x_2.2 == 0)) && (x_2.1.End == 64)) && (x_3.2 == 0)) && (x_3.1.Bank == 1)) && (x_3.1.Count == 1)) && (x_3.1.End == 19)) && x_4.2)), (69, vs 12)] [] [] [] (by kernel_rfl) ?_
     refine SL.yes rfl rfl hg_6 ?_
     refine SL.eff (e_b2s (l := x_4.1) tk rfl (.r (by kernel_rfl)) (by kernel_rfl)) rfl (by kernel_rfl) ?_
     refine SL.norm (itsN := [.rd 1 R8 x_1.1.Banks.1, .rd 1 R8 x_1.1.Banks.2, .blk 25 [.s 0, .s 1], .rd 1 R8 x_2.1.Flash.Banks.1, .rd 1 R8 x_2.1.Flash.Banks.2, .rd 2 R_T_api_Item x_2.1.Items, .blk 40 (C_api_Store x_2.1 (.s 3) (.s 4) (.s 5)), .rd 1 R8 [7], .rd 1 R8 x_3.1.Flash.Banks.1, .rd 1 R8 x_3.1.Flash.Banks.2, .rd 2 R_T_api_Item x_3.1.Items, .blk 40 (C_api_Store x_3.1 (.s 8) (.s 9) (.s 10)), .rd 1 R8 x_4.1, .rd 1 R8 x_5.1.Banks.1, .rd 1 R8 x_5.1.Banks.2, .blk 25 [.s 13, .s 14], .str (str x_4.1)]) (by kernel_rfl) ?_
     refine SL.yes rfl rfl hg_6 ?_
     refine SL.sim tk 1 [(5, vp 11 0), (10, vi .i64 x_5.2), (68, vb ((((((((x_1.2 == 0) && (x_2.2 == 0)) && (x_2.1.End == 64)) && (x_3.2 == 0)) && (x_3.1.Bank == 1)) && (x_3.1.Count == 1)) && (x_3.1.End == 19)) && x_4.2)), (71, vb ((str x_4.1) == [7]))] [] [] [] (by kernel_rfl) ?_
     refine SL.pickt rfl hg_6 rfl rfl ?_
     refine SL.nilJ fun a w h => ?_
     obtain rfl := some_inv' hp
     exact h.at (js := [.g 11, .g 8, .g 9, .g 10]) (by kernel_rfl)
   · replace hp := if_f hp hg_6
     refine SL.no rfl rfl hg_6 rfl ?_
     refine SL.no rfl rfl hg_6 rfl ?_
     refine SL.no rfl rfl hg_6 rfl ?_
     refine SL.pickf rfl hg_6 rfl rfl ?_
     refine SL.nilJ fun a w h => ?_
     obtain rfl := some_inv' hp
     exact h.at (js := [.g 11, .g 8, .g 9, .g 10]) (by kernel_rfl)
 · intro a w h
   have hp := hpr; clear hpr hz
   refine h.goL ?_
   refine SL.sim tk 1 [(5, vp 0 0), (10, vi .i64 x_5.2), (73, vb z_7)] [] [] [] (by kernel_rfl) ?_
   obtain ⟨z_9, hz, hpr⟩ := bind_inv hp
   clear hp
   refine SL.cutAt 4 (fun a w => A 82 0 fx [(10, vi .i64 x_5.2), (77, vb z_9)] [] a w) ?_ ?_
   · have hp := hz
     rcases Bool.eq_false_or_eq_true (z_7) with hg_8 | hg_8
     · replace hp := if_t hp hg_8
       refine SL.yes rfl rfl hg_8 ?_
       refine SL.sim tk 1 [(10, vi .i64 x_5.2), (73, vb z_7), (74, .g (C_api_Store x_3.1 (.s 1) (.s 2) (.s 3)))] [] [] [] (by kernel_rfl) ?_
       refine SL.yes rfl rfl hg_8 ?_
       obtain ⟨x_11, e_x_11, hp⟩ := bind_inv hp
       refine SL.eff (e_c Tryd.call21 (ok_flash_Free F x_3.1 _ e_x_11) [.g 1, .g 2, .g 3] [.g (C_api_Store x_3.1 (.s 1) (.s 2) (.s 3))] (vi .i64 x_11) (by kernel_rfl) (.inl rfl)) rfl (by kernel_rfl) ?_
       refine SL.yes rfl rfl hg_8 ?_
       refine SL.sim tk 1 [(10, vi .i64 x_5.2), (73, vb z_7), (76, vb (x_11 == 45))] [] [] [] (by kernel_rfl) ?_
       refine SL.pickt rfl hg_8 rfl rfl ?_
       refine SL.nilJ fun a w h => ?_
       obtain rfl := some_inv' hp
       exact h.at (js := []) (by kernel_rfl)
     · replace hp := if_f hp hg_8
       refine SL.no rfl rfl hg_8 rfl ?_
       refine SL.no rfl rfl hg_8 rfl ?_
       refine SL.no rfl rfl hg_8 rfl ?_
       refine SL.pickf rfl hg_8 rfl rfl ?_
       refine SL.nilJ fun a w h => ?_
       obtain rfl := some_inv' hp
       exact h.at (js := []) (by kernel_rfl)
   · intro a w h
     have hp := hpr; clear hpr hz
     refine h.goL ?_
     refine SL.sim tk 5 [(0, vb (z_9 && (x_5.2 == 5)))] [] [] [] (by kernel_rfl) ?_
     refine SL.nilThen ?_
     obtain rfl := some_inv' hp
     exact SC.re (js := []) tk (by kernel_rfl)

theorem ok_wirelessref39_erased (F : Nat) (n_1 : Int) (r : (List Int)) (hp : wirelessref39_erased F n_1 = some r) : Spec Tryd.prog 32 [vi .i64 n_1] [] (vs 0) [.rd 1 R8 r] := by
 refine Spec.enter Tryd.func32 rfl Tryd.ntmps32 rfl rfl fun fx => ?_
 refine SC.r tk [(0, vi .i64 n_1)] [] [] [] (by kernel_rfl) ?_
 refine SC.seq ?_
 refine SC.reg ?_
 refine SL.sim tk 1 [(0, vi .i64 n_1), (5, vi .i64 n_1)] [] [] [] (by kernel_rfl) ?_
 obtain ⟨l_2, e_l_2, hp⟩ := bind_inv hp
 refine SL.eff (e_make (sz := 1) (E := 5) (R := R8) tk rfl rfl rfl (fun _ _ => rfl) e_l_2 (by kernel_rfl)) rfl (by kernel_rfl) ?_
 refine SL.sim tk 1 [(0, vi .i64 n_1), (3, vs 0)] [] [] [] (by kernel_rfl) ?_
 refine SL.nilThen ?_
 refine SC.cut (fun a w => ∃ (l_3 : (List Int)), wirelessref39_erased_j1 F l_3 = some r ∧ A 16 0 fx [(3, vs 0)] [.own 1 5 R8 l_3] a w) ?_ ?_
 · refine SC.r tk [(0, vi .i64 n_1), (3, vs 0), (4, vi .i64 0)] [] [] [] (by kernel_rfl) ?_
   refine SC.block ?_
   obtain ⟨o1, hi1, ho1⟩ := bind_inv hp
   clear hp
   refine SC.loop (fun n a w => ∃ (l_4 : (List Int)) (x_5 : Int), iter (fun s => wirelessref39_erased_l1 F n_1 s.1 s.2) n (l_4, x_5) = some o1 ∧ A 16 0 fx [(0, vi .i64 n_1), (3, vs 0), (4, vi .i64 x_5)] [.own 1 5 R8 l_4] a w) F (fun a w h => ⟨l_2, 0, hi1, h.at (js := [.g 0]) (by kernel_rfl)⟩) ?_
   rintro n1 a w ⟨l_4, x_5, hi1, h⟩
   obtain ⟨n1, q1, rfl, hp, hs1⟩ := iter_inv hi1
   replace hp : wirelessref39_erased_l1 F n_1 l_4 x_5 = some q1 := hp
   clear hi1
   refine h.go ?_
   refine SC.seq ?_
   refine SC.r tk [(0, vi .i64 n_1), (3, vs 0), (4, vi .i64 x_5), (9, vb (decide (x_5 < n_1)))] [] [] [] (by kernel_rfl) ?_
   refine SC.if' rfl hp (fun hp => ?_) (fun hp => ?_)
   · refine SC.skipThen ?_
     refine SC.seq ?_
     refine SC.block ?_
     refine SC.reg ?_
     obtain ⟨x_6, e_x_6, hp⟩ := bind_inv hp
     refine SL.pre (pre_ixo (i := 0) (iv := x_5) (sz := 1) (E := 5) (R := R8) (l := l_4) (by kernel_rfl) rfl e_x_6) ?_
     refine SL.sim tk 3 [(0, vi .i64 n_1), (3, vs 0), (4, vi .i64 x_5), (14, vp 1 0)] [] [.el 1] [x_5] (by kernel_rfl) ?_
     obtain ⟨l_7, e_l_7, hp⟩ := bind_inv hp
     refine SL.eff0 (e_updf (sz := 1) (R := R8) (i := 0) (iv := x_5) (cs1 := [ci .u8 255]) (e := 255) tk rfl rfl rfl (by kernel_rfl) rfl rfl rfl Clo.int (by kernel_rfl) (by kernel_rfl) e_l_7) ?_
     refine SL.nilThen ?_
     refine SC.reg ?_
     refine SL.sim tk 3 [(0, vi .i64 n_1), (3, vs 0), (4, vi .i64 (w64 (x_5 + 1)))] [] [] [] (by kernel_rfl) ?_
     refine SL.nilJ fun a w h => ?_
     exact ⟨n1, Nat.lt_succ_self _, l_7, w64 (x_5 + 1), next_inv hp hs1, h.at (js := [.g 0]) (by kernel_rfl)⟩
   · refine SC.exitJ rfl fun a w h => ?_
     have ho := done_inv hp hs1
     replace hp := ho1
     try rw [ho] at hp
     exact ⟨l_4, hp, h.at (js := [.g 0]) (by kernel_rfl)⟩
 · rintro a w ⟨l_3, hp, h⟩
   refine h.go ?_
   refine SC.r tk [(2, vs 0)] [] [] [] (by kernel_rfl) ?_
   obtain rfl := some_inv' hp
   exact SC.re (js := [.z 0]) tk (by kernel_rfl)

theorem ok_wirelessref39_Blank (F : Nat) (size_1 : Int) (r : T_api_Flash × Int) (hp : wirelessref39_Blank F size_1 = some r) : Spec Tryd.prog 10 [vi .i64 size_1] [] (.u [.inr [.s 0, .s 1], .inl (ci .i64 r.2)]) [.rd 1 R8 r.1.Banks.1, .rd 1 R8 r.1.Banks.2] := by
 refine Spec.enter Tryd.func10 rfl Tryd.ntmps10 rfl rfl fun fx => ?_
 refine SC.seq ?_
 refine SC.reg ?_
 refine SL.eff (e_alloc (E := 25) tk [nl, nl] (by kernel_rfl)) rfl (by kernel_rfl) ?_
 refine SL.sim tk 1 [(0, vi .i64 size_1), (2, vp 0 0)] [] [] [] (by kernel_rfl) ?_
 refine SL.nilThen ?_
 refine SC.seq ?_
 refine SC.r tk [(0, vi .i64 size_1), (2, vp 0 0), (9, vb ((decide (size_1 < 64)) || (decide (size_1 > 65536))))] [] [] [] (by kernel_rfl) ?_
 refine SC.if' rfl hp (fun hp => ?_) (fun hp => ?_)
 · refine SC.r tk [(2, vp 0 0), (3, vi .i64 5)] [(0, 25, [nl, nl])] [] [] (by kernel_rfl) ?_
   obtain rfl := some_inv' hp
   exact SC.re (js := [.n, .n]) tk (by kernel_rfl)
 · refine SC.skipThen ?_
   refine SC.seq ?_
   refine SC.reg ?_
   refine SL.sim tk 1 [(0, vi .i64 size_1), (2, vp 0 0), (11, vi .i64 size_1)] [] [] [] (by kernel_rfl) ?_
   obtain ⟨x_2, e_x_2, hp⟩ := bind_inv hp
   refine SL.eff (e_c Tryd.call32 (ok_wirelessref39_erased F size_1 _ e_x_2) [] [vi .i64 size_1] (vs 1) (by kernel_rfl) (.inl rfl)) rfl (by kernel_rfl) ?_
   refine SL.sim tk 1 [(2, vp 0 0), (12, vs 1), (13, vi .i64 size_1)] [] [] [] (by kernel_rfl) ?_
   obtain ⟨x_3, e_x_3, hp⟩ := bind_inv hp
   refine SL.eff (e_c Tryd.call32 (ok_wirelessref39_erased F size_1 _ e_x_3) [] [vi .i64 size_1] (vs 2) (by kernel_rfl) (.inl rfl)) rfl (by kernel_rfl) ?_
   refine SL.norm (itsN := [.blk 25 [nl, nl], .rd 1 R8 x_2, .rd 1 R8 x_3]) (by kernel_rfl) ?_
   refine SL.sim tk 4 [(2, vp 0 0), (3, vi .i64 0)] [(0, 25, [.s 1, .s 2])] [] [] (by kernel_rfl) ?_
   refine SL.nilThen ?_
   obtain rfl := some_inv' hp
   exact SC.re (js := [.g 1, .g 2]) tk (by kernel_rfl)

theorem ok_wirelesslaw39_copied (F : Nat) (b_1 : (List Int)) (r : (List Int)) (hp : wirelesslaw39_copied F b_1 = some r) : Spec Tryd.prog 11 [vs 0] [.rd 1 R8 b_1] (vs 1) [.gone, .rd 1 R8 r] := by
 refine Spec.enter Tryd.func11 rfl Tryd.ntmps11 rfl rfl fun fx => ?_
 refine SC.r tk [(0, vs 0)] [] [] [] (by kernel_rfl) ?_
 refine SC.seq ?_
 refine SC.reg ?_
 refine SL.eff (e_lit (sz := 1) (E := 5) (R := R8) (by_ := 1) tk [] ([] : (List Int)) (by kernel_rfl) trivial rfl (by kernel_rfl) (by kernel_rfl)) rfl (by kernel_rfl) ?_
 refine SL.sim tk 1 [(3, vs 1), (4, vs 0)] [] [] [] (by kernel_rfl) ?_
 obtain ⟨l_2, e_l_2, hp⟩ := bind_inv hp
 refine SL.eff (e_app (i := 1) (l := ([] : (List Int))) (sz := 1) (E := 5) (R := R8) (by_ := 1) (m := b_1) tk rfl (by kernel_rfl) rfl (.r (by kernel_rfl)) e_l_2 (by kernel_rfl)) rfl (by kernel_rfl) ?_
 refine SL.sim tk 1 [(2, vs 2)] [] [] [] (by kernel_rfl) ?_
 refine SL.nilThen ?_
 obtain rfl := some_inv' hp
 exact SC.re (js := [.g 0, .z 2]) tk (by kernel_rfl)

theorem ok_wirelessref39_SameFlash (F : Nat) (a_1 : T_api_Flash) (b_2 : T_api_Flash) (r : Bool) (hp : wirelessref39_SameFlash F a_1 b_2 = some r) : Spec Tryd.prog 12 [.g [.s 0, .s 1], .g [.s 2, .s 3]] [.rd 1 R8 a_1.Banks.1, .rd 1 R8 a_1.Banks.2, .rd 1 R8 b_2.Banks.1, .rd 1 R8 b_2.Banks.2] (vb r) [.gone, .gone, .gone, .gone] := by
 refine Spec.enter Tryd.func12 rfl Tryd.ntmps12 rfl rfl fun fx => ?_
 refine SC.seq ?_
 refine SC.reg ?_
 refine SL.eff (e_box (E := 25) [.s 0, .s 1] (by kernel_rfl)) rfl (by kernel_rfl) ?_
 refine SL.eff (e_box (E := 25) [.s 2, .s 3] (by kernel_rfl)) rfl (by kernel_rfl) ?_
 refine SL.sim tk 1 [(2, vp 4 0), (3, vp 5 0)] [] [] [] (by kernel_rfl) ?_
 refine SL.nilThen ?_
 refine SC.seq ?_
 refine SC.reg ?_
 refine SL.sim tk 1 [(2, vp 4 0), (3, vp 5 0), (5, vp 4 0)] [] [] [] (by kernel_rfl) ?_
 refine SL.eff (e_ixa (off := 0) (T := 25) (cs := [.s 0, .s 1]) tk rfl rfl (by kernel_rfl) (by kernel_rfl)) rfl (by kernel_rfl) ?_
 refine SL.sim tk 1 [(2, vp 4 0), (3, vp 5 0), (7, vs 0)] [] [] [] (by kernel_rfl) ?_
 refine SL.eff (e_b2s (l := a_1.Banks.1) tk rfl (.r (by kernel_rfl)) (by kernel_rfl)) rfl (by kernel_rfl) ?_
 refine SL.norm (itsN := [.rd 1 R8 a_1.Banks.1, .rd 1 R8 a_1.Banks.2, .rd 1 R8 b_2.Banks.1, .rd 1 R8 b_2.Banks.2, .blk 25 [.s 0, .s 1], .blk 25 [.s 2, .s 3], .str (str a_1.Banks.1)]) (by kernel_rfl) ?_
 refine SL.sim tk 1 [(2, vp 4 0), (3, vp 5 0), (8, vt 6), (9, vp 5 0)] [] [] [] (by kernel_rfl) ?_
 refine SL.eff (e_ixa (off := 0) (T := 25) (cs := [.s 2, .s 3]) tk rfl rfl (by kernel_rfl) (by kernel_rfl)) rfl (by kernel_rfl) ?_
 refine SL.sim tk 1 [(2, vp 4 0), (3, vp 5 0), (8, vt 6), (11, vs 2)] [] [] [] (by kernel_rfl) ?_
 refine SL.eff (e_b2s (l := b_2.Banks.1) tk rfl (.r (by kernel_rfl)) (by kernel_rfl)) rfl (by kernel_rfl) ?_
 refine SL.sim tk 2 [(2, vp 4 0), (3, vp 5 0), (14, vb ((str a_1.Banks.1) == (str b_2.Banks.1)))] [] [] [] (by kernel_rfl) ?_
 obtain ⟨z_4, hz, hpr⟩ := bind_inv hp
 clear hp
 refine SL.cutAt 10 (fun a w => A 25 4 fx [(24, vb z_4)] [.gone, .gone, .gone, .gone] a w) ?_ ?_
 · have hp := hz
   rcases Bool.eq_false_or_eq_true (((str a_1.Banks.1) == (str b_2.Banks.1))) with hg_3 | hg_3
   · replace hp := if_t hp hg_3
     refine SL.yes rfl rfl hg_3 ?_
     refine SL.sim tk 1 [(3, vp 5 0), (14, vb ((str a_1.Banks.1) == (str b_2.Banks.1))), (15, vp 4 0)] [] [] [] (by kernel_rfl) ?_
     refine SL.yes rfl rfl hg_3 ?_
     refine SL.eff (e_ixa (off := 1) (T := 25) (cs := [.s 0, .s 1]) tk rfl rfl (by kernel_rfl) (by kernel_rfl)) rfl (by kernel_rfl) ?_
     refine SL.yes rfl rfl hg_3 ?_
     refine SL.sim tk 1 [(3, vp 5 0), (14, vb ((str a_1.Banks.1) == (str b_2.Banks.1))), (17, vs 1)] [] [] [] (by kernel_rfl) ?_
     refine SL.yes rfl rfl hg_3 ?_
     refine SL.eff (e_b2s (l := a_1.Banks.2) tk rfl (.r (by kernel_rfl)) (by kernel_rfl)) rfl (by kernel_rfl) ?_
     refine SL.norm (itsN := [.rd 1 R8 a_1.Banks.1, .rd 1 R8 a_1.Banks.2, .rd 1 R8 b_2.Banks.1, .rd 1 R8 b_2.Banks.2, .blk 25 [.s 0, .s 1], .blk 25 [.s 2, .s 3], .str (str a_1.Banks.1), .str (str b_2.Banks.1), .str (str a_1.Banks.2)]) (by kernel_rfl) ?_
     refine SL.yes rfl rfl hg_3 ?_
     refine SL.sim tk 1 [(14, vb ((str a_1.Banks.1) == (str b_2.Banks.1))), (18, vt 8), (19, vp 5 0)] [] [] [] (by kernel_rfl) ?_
     refine SL.yes rfl rfl hg_3 ?_
     refine SL.eff (e_ixa (off := 1) (T := 25) (cs := [.s 2, .s 3]) tk rfl rfl (by kernel_rfl) (by kernel_rfl)) rfl (by kernel_rfl) ?_
     refine SL.yes rfl rfl hg_3 ?_
     refine SL.sim tk 1 [(14, vb ((str a_1.Banks.1) == (str b_2.Banks.1))), (18, vt 8), (21, vs 3)] [] [] [] (by kernel_rfl) ?_
     refine SL.yes rfl rfl hg_3 ?_
     refine SL.eff (e_b2s (l := b_2.Banks.2) tk rfl (.r (by kernel_rfl)) (by kernel_rfl)) rfl (by kernel_rfl) ?_
     refine SL.yes rfl rfl hg_3 ?_
     refine SL.sim tk 1 [(14, vb ((str a_1.Banks.1) == (str b_2.Banks.1))), (23, vb ((str a_1.Banks.2) == (str b_2.Banks.2)))] [] [] [] (by kernel_rfl) ?_
     refine SL.pickt rfl hg_3 rfl rfl ?_
     refine SL.nilJ fun a w h => ?_
     obtain rfl := some_inv' hp
     exact h.at (js := [.g 0, .g 1, .g 2, .g 3]) (by kernel_rfl)
   · replace hp := if_f hp hg_3
     refine SL.no rfl rfl hg_3 rfl ?_
     refine SL.no rfl rfl hg_3 rfl ?_
     refine SL.no rfl rfl hg_3 rfl ?_
     refine SL.no rfl rfl hg_3 rfl ?_
     refine SL.no rfl rfl hg_3 rfl ?_
     refine SL.no rfl rfl hg_3 rfl ?_
     refine SL.no rfl rfl hg_3 rfl ?_
     refine SL.no rfl rfl hg_3 rfl ?_
     refine SL.no rfl rfl hg_3 rfl ?_
     refine SL.pickf rfl hg_3 rfl rfl ?_
     refine SL.nilJ fun a w h => ?_
     obtain rfl := some_inv' hp
     exact h.at (js := [.g 0, .g 1, .g 2, .g 3]) (by kernel_rfl)
 · intro a w h
   have hp := hpr; clear hpr hz
   refine h.goL ?_
   refine SL.sim tk 1 [(4, vb z_4)] [] [] [] (by kernel_rfl) ?_
   refine SL.nilThen ?_
   obtain rfl := some_inv' hp
   exact SC.re (js := [.g 0, .g 1, .g 2, .g 3]) tk (by kernel_rfl)

theorem ok_wirelessref39_Copy (F : Nat) (f_1 : T_api_Flash) (r : T_api_Flash) (hp : wirelessref39_Copy F f_1 = some r) : Spec Tryd.prog 14 [.g [.s 0, .s 1]] [.rd 1 R8 f_1.Banks.1, .rd 1 R8 f_1.Banks.2] (.g [.s 2, .s 3]) [.gone, .gone, .own 1 5 R8 r.Banks.1, .own 1 5 R8 r.Banks.2] := by
 refine Spec.enter Tryd.func14 rfl Tryd.ntmps14 rfl rfl fun fx => ?_
 refine SC.seq ?_
 refine SC.reg ?_
 refine SL.eff (e_box (E := 25) [.s 0, .s 1] (by kernel_rfl)) rfl (by kernel_rfl) ?_
 refine SL.eff (e_alloc (E := 25) tk [nl, nl] (by kernel_rfl)) rfl (by kernel_rfl) ?_
 refine SL.nilThen ?_
 refine SC.cut (fun a w => ∃ (c_4 : T_api_Flash), wirelessref39_Copy_j1 F c_4 = some r ∧ A 15 2 fx [(2, vp 2 0)] [.gone, .gone, .blk 25 [.s 3, .s 4], .own 1 5 R8 c_4.Banks.1, .own 1 5 R8 c_4.Banks.2] a w) ?_ ?_
 · refine SC.draw MO [true, true, true, false] (by kernel_rfl) fun kap_5 D_6 => ?_
   refine SD.takes tk D_6 [] kn0 [1, 6] [] [] [O, I, O, O, O, O, I, O, O, O, O, O, O] [(2, vp 3 0), (4, vp 2 0), (9, vp 2 0)] rfl (by kernel_rfl) (by kernel_rfl) (by kernel_rfl) ?_
   obtain ⟨l_327, e_l_327, hp⟩ := bind_inv hp
   obtain ⟨l_727, e_l_727, hp⟩ := bind_inv hp
   refine SD.lay 0 [I, I, I, I, I, I, I, I, I, I, I, I, I] [(2, vp 3 0)] [.rd 1 R8 f_1.Banks.1, .rd 1 R8 f_1.Banks.2, .blk 25 [.s 0, .s 1], .blk 25 [.s 5, .s 7], .gone, .own 1 5 R8 l_327, .gone, .own 1 5 R8 l_727] ?_ (fun c_6_0 => ?_)
   · refine SD.done (by kernel_rfl) fun a w h => ?_
     exact ⟨(T_api_Flash.mk (l_327, l_727)), hp, h.at (js := [.g 0, .g 1, .g 3, .g 5, .g 7]) (by kernel_rfl)⟩
   · refine SD.lay 1 [I, I, I, I, I, I, I, I, I, I, I, I, O] [(2, vp 3 0), (14, .g [.s 5, .s 7])] [.rd 1 R8 f_1.Banks.1, .rd 1 R8 f_1.Banks.2, .blk 25 [.s 0, .s 1], .blk 25 [nl, nl], .gone, .own 1 5 R8 l_327, .gone, .own 1 5 R8 l_727] ?_ (fun c_6_1 => ?_)
     · refine SD.all1 (i := 12) (by kernel_rfl) ?_
       refine SW.store D_6 tk (i := 12) (q := 3) (T := 25) (cs := [.s 5, .s 7]) (bs' := [I, I, I, I, I, I, I, I, I, I, I, I, I]) rfl (by kernel_rfl) rfl rfl (by kernel_rfl) ?_
       exact SD.vie D_6 [.g 0, .g 1, .g 2, .g 3, .n, .g 5, .n, .g 7] c_6_0 (by kernel_rfl)
     · refine SD.lay 2 [I, I, I, I, I, I, I, I, I, I, I, O, O] [(2, vp 3 0), (13, .g [.s 5, .s 7])] [.rd 1 R8 f_1.Banks.1, .rd 1 R8 f_1.Banks.2, .blk 25 [.s 0, .s 1], .blk 25 [nl, nl], .gone, .own 1 5 R8 l_327, .gone, .own 1 5 R8 l_727] ?_ (fun c_6_2 => ?_)
       · refine SD.all1 (i := 11) (by kernel_rfl) ?_
         refine SW.eff D_6 (i := 11) (v := .g [.s 5, .s 7]) (bs' := [I, I, I, I, I, I, I, I, I, I, I, I, O]) rfl (.inl rfl) rfl (e_val tk (by kernel_rfl)) (by kernel_rfl) rfl (by kernel_rfl) ?_
         exact SD.vie D_6 [.g 0, .g 1, .g 2, .g 3, .n, .g 5, .n, .g 7] c_6_1 (by kernel_rfl)
       · refine SD.lay 3 [I, I, I, I, I, I, I, I, I, I, O, O, O] [(2, vp 3 0), (7, vs 5), (12, vs 7)] [.rd 1 R8 f_1.Banks.1, .rd 1 R8 f_1.Banks.2, .blk 25 [.s 0, .s 1], .blk 25 [nl, nl], .gone, .own 1 5 R8 l_327, .gone, .own 1 5 R8 l_727] ?_ (fun c_6_3 => ?_)
         · refine SD.all1 (i := 10) (by kernel_rfl) ?_
           refine SW.eff D_6 (i := 10) (v := .g [.s 5, .s 7]) (bs' := [I, I, I, I, I, I, I, I, I, I, I, O, O]) rfl (.inl rfl) rfl (e_val tk (by kernel_rfl)) (by kernel_rfl) rfl (by kernel_rfl) ?_
           exact SD.vie D_6 [.g 0, .g 1, .g 2, .g 3, .n, .g 5, .n, .g 7] c_6_2 (by kernel_rfl)
         · refine SD.lay 4 [I, I, I, I, I, I, I, I, I, O, O, O, O] [(2, vp 3 0), (7, vs 5), (8, vs 6), (11, vs 1)] [.rd 1 R8 f_1.Banks.1, .rd 1 R8 f_1.Banks.2, .blk 25 [.s 0, .s 1], .blk 25 [nl, nl], .gone, .own 1 5 R8 l_327, .own 1 5 R8 ([] : (List Int))] ?_ (fun c_6_4 => ?_)
           · refine SD.all1 (i := 9) (by kernel_rfl) ?_
             refine SW.eff D_6 (i := 9) (bs' := [I, I, I, I, I, I, I, I, I, I, O, O, O]) rfl (.inl rfl) rfl (e_app (i := 6) (l := ([] : (List Int))) (sz := 1) (E := 5) (R := R8) (by_ := 1) (m := f_1.Banks.2) tk rfl (by kernel_rfl) rfl (.r (by kernel_rfl)) e_l_727 (by kernel_rfl)) (by kernel_rfl) rfl (by kernel_rfl) ?_
             exact SD.vie D_6 [.g 0, .g 1, .g 2, .g 3, .n, .g 5, .n, .g 7] c_6_3 (by kernel_rfl)
           · refine SD.lay 6 [I, I, I, I, I, I, I, O, O, O, O, O, O] [(2, vp 3 0), (7, vs 5), (8, vs 6), (9, vp 2 0)] [.rd 1 R8 f_1.Banks.1, .rd 1 R8 f_1.Banks.2, .blk 25 [.s 0, .s 1], .blk 25 [nl, nl], .gone, .own 1 5 R8 l_327, .own 1 5 R8 ([] : (List Int))] ?_ (fun c_6_5 => ?_)
             · refine SD.all1 (i := 7) (by kernel_rfl) ?_
               refine SW.eff D_6 (i := 7) (bs' := [I, I, I, I, I, I, I, I, O, O, O, O, O]) rfl (.inl rfl) rfl (e_ixa (off := 1) (T := 25) (cs := [.s 0, .s 1]) tk rfl rfl (by kernel_rfl) (by kernel_rfl)) (by kernel_rfl) rfl (by kernel_rfl) ?_
               refine SD.takes tk D_6 [] kn0 [8] [] [] [I, I, I, I, I, I, I, I, I, O, O, O, O] [(2, vp 3 0), (7, vs 5), (8, vs 6), (11, vs 1)] rfl (by kernel_rfl) (by kernel_rfl) (by kernel_rfl) ?_
               exact SD.vie D_6 [.g 0, .g 1, .g 2, .g 3, .n, .g 5, .g 6] c_6_4 (by kernel_rfl)
             · refine SD.lay 5 [I, I, I, I, I, O, I, I, I, O, O, O, O] [(2, vp 3 0), (7, vs 5), (11, vs 1)] [.rd 1 R8 f_1.Banks.1, .rd 1 R8 f_1.Banks.2, .blk 25 [.s 0, .s 1], .blk 25 [nl, nl], .gone, .own 1 5 R8 l_327] ?_ (fun c_6_6 => ?_)
               · refine SD.all1 (i := 5) (by kernel_rfl) ?_
                 refine SW.eff D_6 (i := 5) (bs' := [I, I, I, I, I, I, I, I, I, O, O, O, O]) rfl (.inl rfl) rfl (e_lit (sz := 1) (E := 5) (R := R8) (by_ := 1) tk [] ([] : (List Int)) (by kernel_rfl) trivial rfl (by kernel_rfl) (by kernel_rfl)) (by kernel_rfl) rfl (by kernel_rfl) ?_
                 exact SD.vie D_6 [.g 0, .g 1, .g 2, .g 3, .n, .g 5, .g 6] c_6_4 (by kernel_rfl)
               · refine SD.lay 7 [I, I, I, I, I, O, I, O, O, O, O, O, O] [(2, vp 3 0), (7, vs 5), (9, vp 2 0)] [.rd 1 R8 f_1.Banks.1, .rd 1 R8 f_1.Banks.2, .blk 25 [.s 0, .s 1], .blk 25 [nl, nl], .gone, .own 1 5 R8 l_327] ?_ (fun c_6_7 => ?_)
                 · refine SD.all2 (i := 5) (j := 7) (by kernel_rfl) ?_ ?_
                   · refine SW.eff D_6 (i := 5) (bs' := [I, I, I, I, I, I, I, O, O, O, O, O, O]) rfl (.inl rfl) rfl (e_lit (sz := 1) (E := 5) (R := R8) (by_ := 1) tk [] ([] : (List Int)) (by kernel_rfl) trivial rfl (by kernel_rfl) (by kernel_rfl)) (by kernel_rfl) rfl (by kernel_rfl) ?_
                     exact SD.vie D_6 [.g 0, .g 1, .g 2, .g 3, .n, .g 5, .g 6] c_6_5 (by kernel_rfl)
                   · refine SW.eff D_6 (i := 7) (bs' := [I, I, I, I, I, O, I, I, O, O, O, O, O]) rfl (.inl rfl) rfl (e_ixa (off := 1) (T := 25) (cs := [.s 0, .s 1]) tk rfl rfl (by kernel_rfl) (by kernel_rfl)) (by kernel_rfl) rfl (by kernel_rfl) ?_
                     refine SD.takes tk D_6 [] kn0 [8] [] [] [I, I, I, I, I, O, I, I, I, O, O, O, O] [(2, vp 3 0), (7, vs 5), (11, vs 1)] rfl (by kernel_rfl) (by kernel_rfl) (by kernel_rfl) ?_
                     exact SD.vie D_6 [.g 0, .g 1, .g 2, .g 3, .n, .g 5] c_6_6 (by kernel_rfl)
                 · refine SD.lay 5 [I, I, I, I, O, I, I, I, I, O, O, O, O] [(2, vp 3 0), (3, vs 4), (6, vs 0), (8, vs 5), (11, vs 1)] [.rd 1 R8 f_1.Banks.1, .rd 1 R8 f_1.Banks.2, .blk 25 [.s 0, .s 1], .blk 25 [nl, nl], .own 1 5 R8 ([] : (List Int)), .own 1 5 R8 ([] : (List Int))] ?_ (fun c_6_8 => ?_)
                   · refine SD.all1 (i := 4) (by kernel_rfl) ?_
                     refine SW.eff D_6 (i := 4) (bs' := [I, I, I, I, I, I, I, I, I, O, O, O, O]) rfl (.inl rfl) rfl (e_app (i := 4) (l := ([] : (List Int))) (sz := 1) (E := 5) (R := R8) (by_ := 1) (m := f_1.Banks.1) tk rfl (by kernel_rfl) rfl (.r (by kernel_rfl)) e_l_327 (by kernel_rfl)) (by kernel_rfl) rfl (by kernel_rfl) ?_
                     exact SD.vie D_6 [.g 0, .g 1, .g 2, .g 3, .n, .g 6, .g 5] c_6_4 (by kernel_rfl)
                   · refine SD.lay 7 [I, I, I, I, O, I, I, O, O, O, O, O, O] [(2, vp 3 0), (3, vs 4), (6, vs 0), (8, vs 5), (9, vp 2 0)] [.rd 1 R8 f_1.Banks.1, .rd 1 R8 f_1.Banks.2, .blk 25 [.s 0, .s 1], .blk 25 [nl, nl], .own 1 5 R8 ([] : (List Int)), .own 1 5 R8 ([] : (List Int))] ?_ (fun c_6_9 => ?_)
                     · refine SD.all2 (i := 4) (j := 7) (by kernel_rfl) ?_ ?_
                       · refine SW.eff D_6 (i := 4) (bs' := [I, I, I, I, I, I, I, O, O, O, O, O, O]) rfl (.inl rfl) rfl (e_app (i := 4) (l := ([] : (List Int))) (sz := 1) (E := 5) (R := R8) (by_ := 1) (m := f_1.Banks.1) tk rfl (by kernel_rfl) rfl (.r (by kernel_rfl)) e_l_327 (by kernel_rfl)) (by kernel_rfl) rfl (by kernel_rfl) ?_
                         exact SD.vie D_6 [.g 0, .g 1, .g 2, .g 3, .n, .g 6, .g 5] c_6_5 (by kernel_rfl)
                       · refine SW.eff D_6 (i := 7) (bs' := [I, I, I, I, O, I, I, I, O, O, O, O, O]) rfl (.inl rfl) rfl (e_ixa (off := 1) (T := 25) (cs := [.s 0, .s 1]) tk rfl rfl (by kernel_rfl) (by kernel_rfl)) (by kernel_rfl) rfl (by kernel_rfl) ?_
                         refine SD.takes tk D_6 [] kn0 [8] [] [] [I, I, I, I, O, I, I, I, I, O, O, O, O] [(2, vp 3 0), (3, vs 4), (6, vs 0), (8, vs 5), (11, vs 1)] rfl (by kernel_rfl) (by kernel_rfl) (by kernel_rfl) ?_
                         exact SD.vie D_6 [.g 0, .g 1, .g 2, .g 3, .g 4, .g 5] c_6_8 (by kernel_rfl)
                     · refine SD.lay 6 [I, I, I, I, O, O, I, I, I, O, O, O, O] [(2, vp 3 0), (3, vs 4), (6, vs 0), (11, vs 1)] [.rd 1 R8 f_1.Banks.1, .rd 1 R8 f_1.Banks.2, .blk 25 [.s 0, .s 1], .blk 25 [nl, nl], .own 1 5 R8 ([] : (List Int))] ?_ (fun c_6_10 => ?_)
                       · refine SD.all2 (i := 4) (j := 5) (by kernel_rfl) ?_ ?_
                         · refine SW.eff D_6 (i := 4) (bs' := [I, I, I, I, I, O, I, I, I, O, O, O, O]) rfl (.inl rfl) rfl (e_app (i := 4) (l := ([] : (List Int))) (sz := 1) (E := 5) (R := R8) (by_ := 1) (m := f_1.Banks.1) tk rfl (by kernel_rfl) rfl (.r (by kernel_rfl)) e_l_327 (by kernel_rfl)) (by kernel_rfl) rfl (by kernel_rfl) ?_
                           exact SD.vie D_6 [.g 0, .g 1, .g 2, .g 3, .n, .g 5] c_6_6 (by kernel_rfl)
                         · refine SW.eff D_6 (i := 5) (bs' := [I, I, I, I, O, I, I, I, I, O, O, O, O]) rfl (.inl rfl) rfl (e_lit (sz := 1) (E := 5) (R := R8) (by_ := 1) tk [] ([] : (List Int)) (by kernel_rfl) trivial rfl (by kernel_rfl) (by kernel_rfl)) (by kernel_rfl) rfl (by kernel_rfl) ?_
                           exact SD.vie D_6 [.g 0, .g 1, .g 2, .g 3, .g 4, .g 5] c_6_8 (by kernel_rfl)
                       · refine SD.lay 8 [I, I, I, I, O, O, I, O, O, O, O, O, O] [(2, vp 3 0), (3, vs 4), (6, vs 0), (9, vp 2 0)] [.rd 1 R8 f_1.Banks.1, .rd 1 R8 f_1.Banks.2, .blk 25 [.s 0, .s 1], .blk 25 [nl, nl], .own 1 5 R8 ([] : (List Int))] ?_ (fun c_6_11 => ?_)
                         · refine SD.all3 (i := 4) (j := 5) (k := 7) (by kernel_rfl) ?_ ?_ ?_
                           · refine SW.eff D_6 (i := 4) (bs' := [I, I, I, I, I, O, I, O, O, O, O, O, O]) rfl (.inl rfl) rfl (e_app (i := 4) (l := ([] : (List Int))) (sz := 1) (E := 5) (R := R8) (by_ := 1) (m := f_1.Banks.1) tk rfl (by kernel_rfl) rfl (.r (by kernel_rfl)) e_l_327 (by kernel_rfl)) (by kernel_rfl) rfl (by kernel_rfl) ?_
                             exact SD.vie D_6 [.g 0, .g 1, .g 2, .g 3, .n, .g 5] c_6_7 (by kernel_rfl)
                           · refine SW.eff D_6 (i := 5) (bs' := [I, I, I, I, O, I, I, O, O, O, O, O, O]) rfl (.inl rfl) rfl (e_lit (sz := 1) (E := 5) (R := R8) (by_ := 1) tk [] ([] : (List Int)) (by kernel_rfl) trivial rfl (by kernel_rfl) (by kernel_rfl)) (by kernel_rfl) rfl (by kernel_rfl) ?_
                             exact SD.vie D_6 [.g 0, .g 1, .g 2, .g 3, .g 4, .g 5] c_6_9 (by kernel_rfl)
                           · refine SW.eff D_6 (i := 7) (bs' := [I, I, I, I, O, O, I, I, O, O, O, O, O]) rfl (.inl rfl) rfl (e_ixa (off := 1) (T := 25) (cs := [.s 0, .s 1]) tk rfl rfl (by kernel_rfl) (by kernel_rfl)) (by kernel_rfl) rfl (by kernel_rfl) ?_
                             refine SD.takes tk D_6 [] kn0 [8] [] [] [I, I, I, I, O, O, I, I, I, O, O, O, O] [(2, vp 3 0), (3, vs 4), (6, vs 0), (11, vs 1)] rfl (by kernel_rfl) (by kernel_rfl) (by kernel_rfl) ?_
                             exact SD.vie D_6 [.g 0, .g 1, .g 2, .g 3, .g 4] c_6_10 (by kernel_rfl)
                         · refine SD.lay 7 [I, I, O, O, O, I, I, I, I, O, O, O, O] [(2, vp 3 0), (3, vs 4), (4, vp 2 0), (8, vs 5), (11, vs 1)] [.rd 1 R8 f_1.Banks.1, .rd 1 R8 f_1.Banks.2, .blk 25 [.s 0, .s 1], .blk 25 [nl, nl], .own 1 5 R8 ([] : (List Int)), .own 1 5 R8 ([] : (List Int))] ?_ (fun c_6_12 => ?_)
                           · refine SD.all1 (i := 2) (by kernel_rfl) ?_
                             refine SW.eff D_6 (i := 2) (bs' := [I, I, I, O, O, I, I, I, I, O, O, O, O]) rfl (.inl rfl) rfl (e_ixa (off := 0) (T := 25) (cs := [.s 0, .s 1]) tk rfl rfl (by kernel_rfl) (by kernel_rfl)) (by kernel_rfl) rfl (by kernel_rfl) ?_
                             refine SD.takes tk D_6 [] kn0 [3] [] [] [I, I, I, I, O, I, I, I, I, O, O, O, O] [(2, vp 3 0), (3, vs 4), (6, vs 0), (8, vs 5), (11, vs 1)] rfl (by kernel_rfl) (by kernel_rfl) (by kernel_rfl) ?_
                             exact SD.vie D_6 [.g 0, .g 1, .g 2, .g 3, .g 4, .g 5] c_6_8 (by kernel_rfl)
                           · refine SD.lay 9 [I, I, O, O, O, I, I, O, O, O, O, O, O] [(2, vp 3 0), (3, vs 4), (4, vp 2 0), (8, vs 5), (9, vp 2 0)] [.rd 1 R8 f_1.Banks.1, .rd 1 R8 f_1.Banks.2, .blk 25 [.s 0, .s 1], .blk 25 [nl, nl], .own 1 5 R8 ([] : (List Int)), .own 1 5 R8 ([] : (List Int))] ?_ (fun c_6_13 => ?_)
                             · refine SD.all2 (i := 2) (j := 7) (by kernel_rfl) ?_ ?_
                               · refine SW.eff D_6 (i := 2) (bs' := [I, I, I, O, O, I, I, O, O, O, O, O, O]) rfl (.inl rfl) rfl (e_ixa (off := 0) (T := 25) (cs := [.s 0, .s 1]) tk rfl rfl (by kernel_rfl) (by kernel_rfl)) (by kernel_rfl) rfl (by kernel_rfl) ?_
                                 refine SD.takes tk D_6 [] kn0 [3] [] [] [I, I, I, I, O, I, I, O, O, O, O, O, O] [(2, vp 3 0), (3, vs 4), (6, vs 0), (8, vs 5), (9, vp 2 0)] rfl (by kernel_rfl) (by kernel_rfl) (by kernel_rfl) ?_
                                 exact SD.vie D_6 [.g 0, .g 1, .g 2, .g 3, .g 4, .g 5] c_6_9 (by kernel_rfl)
                               · refine SW.eff D_6 (i := 7) (bs' := [I, I, O, O, O, I, I, I, O, O, O, O, O]) rfl (.inl rfl) rfl (e_ixa (off := 1) (T := 25) (cs := [.s 0, .s 1]) tk rfl rfl (by kernel_rfl) (by kernel_rfl)) (by kernel_rfl) rfl (by kernel_rfl) ?_
                                 refine SD.takes tk D_6 [] kn0 [8] [] [] [I, I, O, O, O, I, I, I, I, O, O, O, O] [(2, vp 3 0), (3, vs 4), (4, vp 2 0), (8, vs 5), (11, vs 1)] rfl (by kernel_rfl) (by kernel_rfl) (by kernel_rfl) ?_
                                 exact SD.vie D_6 [.g 0, .g 1, .g 2, .g 3, .g 4, .g 5] c_6_12 (by kernel_rfl)
                             · refine SD.lay 8 [I, I, O, O, O, O, I, I, I, O, O, O, O] [(2, vp 3 0), (3, vs 4), (4, vp 2 0), (11, vs 1)] [.rd 1 R8 f_1.Banks.1, .rd 1 R8 f_1.Banks.2, .blk 25 [.s 0, .s 1], .blk 25 [nl, nl], .own 1 5 R8 ([] : (List Int))] ?_ (fun c_6_14 => ?_)
                               · refine SD.all2 (i := 2) (j := 5) (by kernel_rfl) ?_ ?_
                                 · refine SW.eff D_6 (i := 2) (bs' := [I, I, I, O, O, O, I, I, I, O, O, O, O]) rfl (.inl rfl) rfl (e_ixa (off := 0) (T := 25) (cs := [.s 0, .s 1]) tk rfl rfl (by kernel_rfl) (by kernel_rfl)) (by kernel_rfl) rfl (by kernel_rfl) ?_
                                   refine SD.takes tk D_6 [] kn0 [3] [] [] [I, I, I, I, O, O, I, I, I, O, O, O, O] [(2, vp 3 0), (3, vs 4), (6, vs 0), (11, vs 1)] rfl (by kernel_rfl) (by kernel_rfl) (by kernel_rfl) ?_
                                   exact SD.vie D_6 [.g 0, .g 1, .g 2, .g 3, .g 4] c_6_10 (by kernel_rfl)
                                 · refine SW.eff D_6 (i := 5) (bs' := [I, I, O, O, O, I, I, I, I, O, O, O, O]) rfl (.inl rfl) rfl (e_lit (sz := 1) (E := 5) (R := R8) (by_ := 1) tk [] ([] : (List Int)) (by kernel_rfl) trivial rfl (by kernel_rfl) (by kernel_rfl)) (by kernel_rfl) rfl (by kernel_rfl) ?_
                                   exact SD.vie D_6 [.g 0, .g 1, .g 2, .g 3, .g 4, .g 5] c_6_12 (by kernel_rfl)
                               · refine SD.lay 10 [I, I, O, O, O, O, I, O, O, O, O, O, O] [(2, vp 3 0), (3, vs 4), (4, vp 2 0), (9, vp 2 0)] [.rd 1 R8 f_1.Banks.1, .rd 1 R8 f_1.Banks.2, .blk 25 [.s 0, .s 1], .blk 25 [nl, nl], .own 1 5 R8 ([] : (List Int))] ?_ (fun c_6_15 => ?_)
                                 · refine SD.all3 (i := 2) (j := 5) (k := 7) (by kernel_rfl) ?_ ?_ ?_
                                   · refine SW.eff D_6 (i := 2) (bs' := [I, I, I, O, O, O, I, O, O, O, O, O, O]) rfl (.inl rfl) rfl (e_ixa (off := 0) (T := 25) (cs := [.s 0, .s 1]) tk rfl rfl (by kernel_rfl) (by kernel_rfl)) (by kernel_rfl) rfl (by kernel_rfl) ?_
                                     refine SD.takes tk D_6 [] kn0 [3] [] [] [I, I, I, I, O, O, I, O, O, O, O, O, O] [(2, vp 3 0), (3, vs 4), (6, vs 0), (9, vp 2 0)] rfl (by kernel_rfl) (by kernel_rfl) (by kernel_rfl) ?_
                                     exact SD.vie D_6 [.g 0, .g 1, .g 2, .g 3, .g 4] c_6_11 (by kernel_rfl)
                                   · refine SW.eff D_6 (i := 5) (bs' := [I, I, O, O, O, I, I, O, O, O, O, O, O]) rfl (.inl rfl) rfl (e_lit (sz := 1) (E := 5) (R := R8) (by_ := 1) tk [] ([] : (List Int)) (by kernel_rfl) trivial rfl (by kernel_rfl) (by kernel_rfl)) (by kernel_rfl) rfl (by kernel_rfl) ?_
                                     exact SD.vie D_6 [.g 0, .g 1, .g 2, .g 3, .g 4, .g 5] c_6_13 (by kernel_rfl)
                                   · refine SW.eff D_6 (i := 7) (bs' := [I, I, O, O, O, O, I, I, O, O, O, O, O]) rfl (.inl rfl) rfl (e_ixa (off := 1) (T := 25) (cs := [.s 0, .s 1]) tk rfl rfl (by kernel_rfl) (by kernel_rfl)) (by kernel_rfl) rfl (by kernel_rfl) ?_
                                     refine SD.takes tk D_6 [] kn0 [8] [] [] [I, I, O, O, O, O, I, I, I, O, O, O, O] [(2, vp 3 0), (3, vs 4), (4, vp 2 0), (11, vs 1)] rfl (by kernel_rfl) (by kernel_rfl) (by kernel_rfl) ?_
                                     exact SD.vie D_6 [.g 0, .g 1, .g 2, .g 3, .g 4] c_6_14 (by kernel_rfl)
                                 · refine SD.lay 6 [O, I, I, I, O, I, I, I, I, O, O, O, O] [(2, vp 3 0), (6, vs 0), (8, vs 4), (11, vs 1)] [.rd 1 R8 f_1.Banks.1, .rd 1 R8 f_1.Banks.2, .blk 25 [.s 0, .s 1], .blk 25 [nl, nl], .own 1 5 R8 ([] : (List Int))] ?_ (fun c_6_16 => ?_)
                                   · refine SD.all1 (i := 0) (by kernel_rfl) ?_
                                     refine SW.eff D_6 (i := 0) (bs' := [I, I, I, I, O, I, I, I, I, O, O, O, O]) rfl (.inl rfl) rfl (e_lit (sz := 1) (E := 5) (R := R8) (by_ := 1) tk [] ([] : (List Int)) (by kernel_rfl) trivial rfl (by kernel_rfl) (by kernel_rfl)) (by kernel_rfl) rfl (by kernel_rfl) ?_
                                     exact SD.vie D_6 [.g 0, .g 1, .g 2, .g 3, .g 5, .g 4] c_6_8 (by kernel_rfl)
                                   · refine SD.lay 8 [O, I, I, I, O, I, I, O, O, O, O, O, O] [(2, vp 3 0), (6, vs 0), (8, vs 4), (9, vp 2 0)] [.rd 1 R8 f_1.Banks.1, .rd 1 R8 f_1.Banks.2, .blk 25 [.s 0, .s 1], .blk 25 [nl, nl], .own 1 5 R8 ([] : (List Int))] ?_ (fun c_6_17 => ?_)
                                     · refine SD.all2 (i := 0) (j := 7) (by kernel_rfl) ?_ ?_
                                       · refine SW.eff D_6 (i := 0) (bs' := [I, I, I, I, O, I, I, O, O, O, O, O, O]) rfl (.inl rfl) rfl (e_lit (sz := 1) (E := 5) (R := R8) (by_ := 1) tk [] ([] : (List Int)) (by kernel_rfl) trivial rfl (by kernel_rfl) (by kernel_rfl)) (by kernel_rfl) rfl (by kernel_rfl) ?_
                                         exact SD.vie D_6 [.g 0, .g 1, .g 2, .g 3, .g 5, .g 4] c_6_9 (by kernel_rfl)
                                       · refine SW.eff D_6 (i := 7) (bs' := [O, I, I, I, O, I, I, I, O, O, O, O, O]) rfl (.inl rfl) rfl (e_ixa (off := 1) (T := 25) (cs := [.s 0, .s 1]) tk rfl rfl (by kernel_rfl) (by kernel_rfl)) (by kernel_rfl) rfl (by kernel_rfl) ?_
                                         refine SD.takes tk D_6 [] kn0 [8] [] [] [O, I, I, I, O, I, I, I, I, O, O, O, O] [(2, vp 3 0), (6, vs 0), (8, vs 4), (11, vs 1)] rfl (by kernel_rfl) (by kernel_rfl) (by kernel_rfl) ?_
                                         exact SD.vie D_6 [.g 0, .g 1, .g 2, .g 3, .g 4] c_6_16 (by kernel_rfl)
                                     · refine SD.lay 7 [O, I, I, I, O, O, I, I, I, O, O, O, O] [(2, vp 3 0), (6, vs 0), (11, vs 1)] [.rd 1 R8 f_1.Banks.1, .rd 1 R8 f_1.Banks.2, .blk 25 [.s 0, .s 1], .blk 25 [nl, nl]] ?_ (fun c_6_18 => ?_)
                                       · refine SD.all2 (i := 0) (j := 5) (by kernel_rfl) ?_ ?_
                                         · refine SW.eff D_6 (i := 0) (bs' := [I, I, I, I, O, O, I, I, I, O, O, O, O]) rfl (.inl rfl) rfl (e_lit (sz := 1) (E := 5) (R := R8) (by_ := 1) tk [] ([] : (List Int)) (by kernel_rfl) trivial rfl (by kernel_rfl) (by kernel_rfl)) (by kernel_rfl) rfl (by kernel_rfl) ?_
                                           exact SD.vie D_6 [.g 0, .g 1, .g 2, .g 3, .g 4] c_6_10 (by kernel_rfl)
                                         · refine SW.eff D_6 (i := 5) (bs' := [O, I, I, I, O, I, I, I, I, O, O, O, O]) rfl (.inl rfl) rfl (e_lit (sz := 1) (E := 5) (R := R8) (by_ := 1) tk [] ([] : (List Int)) (by kernel_rfl) trivial rfl (by kernel_rfl) (by kernel_rfl)) (by kernel_rfl) rfl (by kernel_rfl) ?_
                                           exact SD.vie D_6 [.g 0, .g 1, .g 2, .g 3, .g 4] c_6_16 (by kernel_rfl)
                                       · refine SD.lay 9 [O, I, I, I, O, O, I, O, O, O, O, O, O] [(2, vp 3 0), (6, vs 0), (9, vp 2 0)] [.rd 1 R8 f_1.Banks.1, .rd 1 R8 f_1.Banks.2, .blk 25 [.s 0, .s 1], .blk 25 [nl, nl]] ?_ (fun c_6_19 => ?_)
                                         · refine SD.all3 (i := 0) (j := 5) (k := 7) (by kernel_rfl) ?_ ?_ ?_
                                           · refine SW.eff D_6 (i := 0) (bs' := [I, I, I, I, O, O, I, O, O, O, O, O, O]) rfl (.inl rfl) rfl (e_lit (sz := 1) (E := 5) (R := R8) (by_ := 1) tk [] ([] : (List Int)) (by kernel_rfl) trivial rfl (by kernel_rfl) (by kernel_rfl)) (by kernel_rfl) rfl (by kernel_rfl) ?_
                                             exact SD.vie D_6 [.g 0, .g 1, .g 2, .g 3, .g 4] c_6_11 (by kernel_rfl)
                                           · refine SW.eff D_6 (i := 5) (bs' := [O, I, I, I, O, I, I, O, O, O, O, O, O]) rfl (.inl rfl) rfl (e_lit (sz := 1) (E := 5) (R := R8) (by_ := 1) tk [] ([] : (List Int)) (by kernel_rfl) trivial rfl (by kernel_rfl) (by kernel_rfl)) (by kernel_rfl) rfl (by kernel_rfl) ?_
                                             exact SD.vie D_6 [.g 0, .g 1, .g 2, .g 3, .g 4] c_6_17 (by kernel_rfl)
                                           · refine SW.eff D_6 (i := 7) (bs' := [O, I, I, I, O, O, I, I, O, O, O, O, O]) rfl (.inl rfl) rfl (e_ixa (off := 1) (T := 25) (cs := [.s 0, .s 1]) tk rfl rfl (by kernel_rfl) (by kernel_rfl)) (by kernel_rfl) rfl (by kernel_rfl) ?_
                                             refine SD.takes tk D_6 [] kn0 [8] [] [] [O, I, I, I, O, O, I, I, I, O, O, O, O] [(2, vp 3 0), (6, vs 0), (11, vs 1)] rfl (by kernel_rfl) (by kernel_rfl) (by kernel_rfl) ?_
                                             exact SD.vie D_6 [.g 0, .g 1, .g 2, .g 3] c_6_18 (by kernel_rfl)
                                         · refine SD.lay 8 [O, I, O, O, O, I, I, I, I, O, O, O, O] [(2, vp 3 0), (4, vp 2 0), (8, vs 4), (11, vs 1)] [.rd 1 R8 f_1.Banks.1, .rd 1 R8 f_1.Banks.2, .blk 25 [.s 0, .s 1], .blk 25 [nl, nl], .own 1 5 R8 ([] : (List Int))] ?_ (fun c_6_20 => ?_)
                                           · refine SD.all2 (i := 0) (j := 2) (by kernel_rfl) ?_ ?_
                                             · refine SW.eff D_6 (i := 0) (bs' := [I, I, O, O, O, I, I, I, I, O, O, O, O]) rfl (.inl rfl) rfl (e_lit (sz := 1) (E := 5) (R := R8) (by_ := 1) tk [] ([] : (List Int)) (by kernel_rfl) trivial rfl (by kernel_rfl) (by kernel_rfl)) (by kernel_rfl) rfl (by kernel_rfl) ?_
                                               exact SD.vie D_6 [.g 0, .g 1, .g 2, .g 3, .g 5, .g 4] c_6_12 (by kernel_rfl)
                                             · refine SW.eff D_6 (i := 2) (bs' := [O, I, I, O, O, I, I, I, I, O, O, O, O]) rfl (.inl rfl) rfl (e_ixa (off := 0) (T := 25) (cs := [.s 0, .s 1]) tk rfl rfl (by kernel_rfl) (by kernel_rfl)) (by kernel_rfl) rfl (by kernel_rfl) ?_
                                               refine SD.takes tk D_6 [] kn0 [3] [] [] [O, I, I, I, O, I, I, I, I, O, O, O, O] [(2, vp 3 0), (6, vs 0), (8, vs 4), (11, vs 1)] rfl (by kernel_rfl) (by kernel_rfl) (by kernel_rfl) ?_
                                               exact SD.vie D_6 [.g 0, .g 1, .g 2, .g 3, .g 4] c_6_16 (by kernel_rfl)
                                           · refine SD.lay 10 [O, I, O, O, O, I, I, O, O, O, O, O, O] [(2, vp 3 0), (4, vp 2 0), (8, vs 4), (9, vp 2 0)] [.rd 1 R8 f_1.Banks.1, .rd 1 R8 f_1.Banks.2, .blk 25 [.s 0, .s 1], .blk 25 [nl, nl], .own 1 5 R8 ([] : (List Int))] ?_ (fun c_6_21 => ?_)
                                             · refine SD.all3 (i := 0) (j := 2) (k := 7) (by kernel_rfl) ?_ ?_ ?_
                                               · refine SW.eff D_6 (i := 0) (bs' := [I, I, O, O, O, I, I, O, O, O, O, O, O]) rfl (.inl rfl) rfl (e_lit (sz := 1) (E := 5) (R := R8) (by_ := 1) tk [] ([] : (List Int)) (by kernel_rfl) trivial rfl (by kernel_rfl) (by kernel_rfl)) (by kernel_rfl) rfl (by kernel_rfl) ?_
                                                 exact SD.vie D_6 [.g 0, .g 1, .g 2, .g 3, .g 5, .g 4] c_6_13 (by kernel_rfl)
                                               · refine SW.eff D_6 (i := 2) (bs' := [O, I, I, O, O, I, I, O, O, O, O, O, O]) rfl (.inl rfl) rfl (e_ixa (off := 0) (T := 25) (cs := [.s 0, .s 1]) tk rfl rfl (by kernel_rfl) (by kernel_rfl)) (by kernel_rfl) rfl (by kernel_rfl) ?_
                                                 refine SD.takes tk D_6 [] kn0 [3] [] [] [O, I, I, I, O, I, I, O, O, O, O, O, O] [(2, vp 3 0), (6, vs 0), (8, vs 4), (9, vp 2 0)] rfl (by kernel_rfl) (by kernel_rfl) (by kernel_rfl) ?_
                                                 exact SD.vie D_6 [.g 0, .g 1, .g 2, .g 3, .g 4] c_6_17 (by kernel_rfl)
                                               · refine SW.eff D_6 (i := 7) (bs' := [O, I, O, O, O, I, I, I, O, O, O, O, O]) rfl (.inl rfl) rfl (e_ixa (off := 1) (T := 25) (cs := [.s 0, .s 1]) tk rfl rfl (by kernel_rfl) (by kernel_rfl)) (by kernel_rfl) rfl (by kernel_rfl) ?_
                                                 refine SD.takes tk D_6 [] kn0 [8] [] [] [O, I, O, O, O, I, I, I, I, O, O, O, O] [(2, vp 3 0), (4, vp 2 0), (8, vs 4), (11, vs 1)] rfl (by kernel_rfl) (by kernel_rfl) (by kernel_rfl) ?_
                                                 exact SD.vie D_6 [.g 0, .g 1, .g 2, .g 3, .g 4] c_6_20 (by kernel_rfl)
                                             · refine SD.lay 9 [O, I, O, O, O, O, I, I, I, O, O, O, O] [(2, vp 3 0), (4, vp 2 0), (11, vs 1)] [.rd 1 R8 f_1.Banks.1, .rd 1 R8 f_1.Banks.2, .blk 25 [.s 0, .s 1], .blk 25 [nl, nl]] ?_ (fun c_6_22 => ?_)
                                               · refine SD.all3 (i := 0) (j := 2) (k := 5) (by kernel_rfl) ?_ ?_ ?_
                                                 · refine SW.eff D_6 (i := 0) (bs' := [I, I, O, O, O, O, I, I, I, O, O, O, O]) rfl (.inl rfl) rfl (e_lit (sz := 1) (E := 5) (R := R8) (by_ := 1) tk [] ([] : (List Int)) (by kernel_rfl) trivial rfl (by kernel_rfl) (by kernel_rfl)) (by kernel_rfl) rfl (by kernel_rfl) ?_
                                                   exact SD.vie D_6 [.g 0, .g 1, .g 2, .g 3, .g 4] c_6_14 (by kernel_rfl)
                                                 · refine SW.eff D_6 (i := 2) (bs' := [O, I, I, O, O, O, I, I, I, O, O, O, O]) rfl (.inl rfl) rfl (e_ixa (off := 0) (T := 25) (cs := [.s 0, .s 1]) tk rfl rfl (by kernel_rfl) (by kernel_rfl)) (by kernel_rfl) rfl (by kernel_rfl) ?_
                                                   refine SD.takes tk D_6 [] kn0 [3] [] [] [O, I, I, I, O, O, I, I, I, O, O, O, O] [(2, vp 3 0), (6, vs 0), (11, vs 1)] rfl (by kernel_rfl) (by kernel_rfl) (by kernel_rfl) ?_
                                                   exact SD.vie D_6 [.g 0, .g 1, .g 2, .g 3] c_6_18 (by kernel_rfl)
                                                 · refine SW.eff D_6 (i := 5) (bs' := [O, I, O, O, O, I, I, I, I, O, O, O, O]) rfl (.inl rfl) rfl (e_lit (sz := 1) (E := 5) (R := R8) (by_ := 1) tk [] ([] : (List Int)) (by kernel_rfl) trivial rfl (by kernel_rfl) (by kernel_rfl)) (by kernel_rfl) rfl (by kernel_rfl) ?_
                                                   exact SD.vie D_6 [.g 0, .g 1, .g 2, .g 3, .g 4] c_6_20 (by kernel_rfl)
                                               · refine SD.all4 (i := 0) (j := 2) (k := 5) (m := 7) (by kernel_rfl) ?_ ?_ ?_ ?_
                                                 · refine SW.eff D_6 (i := 0) (bs' := [I, I, O, O, O, O, I, O, O, O, O, O, O]) rfl (.inl rfl) rfl (e_lit (sz := 1) (E := 5) (R := R8) (by_ := 1) tk [] ([] : (List Int)) (by kernel_rfl) trivial rfl (by kernel_rfl) (by kernel_rfl)) (by kernel_rfl) rfl (by kernel_rfl) ?_
                                                   refine SD.norm (itsN := [.rd 1 R8 f_1.Banks.1, .rd 1 R8 f_1.Banks.2, .blk 25 [.s 0, .s 1], .blk 25 [nl, nl], .own 1 5 R8 ([] : (List Int))]) (by kernel_rfl) ?_
                                                   exact SD.vie D_6 [.g 0, .g 1, .g 2, .g 3, .g 4] c_6_15 (by kernel_rfl)
                                                 · refine SW.eff D_6 (i := 2) (bs' := [O, I, I, O, O, O, I, O, O, O, O, O, O]) rfl (.inl rfl) rfl (e_ixa (off := 0) (T := 25) (cs := [.s 0, .s 1]) tk rfl rfl (by kernel_rfl) (by kernel_rfl)) (by kernel_rfl) rfl (by kernel_rfl) ?_
                                                   refine SD.norm (itsN := [.rd 1 R8 f_1.Banks.1, .rd 1 R8 f_1.Banks.2, .blk 25 [.s 0, .s 1], .blk 25 [nl, nl]]) (by kernel_rfl) ?_
                                                   refine SD.takes tk D_6 [] kn0 [3] [] [] [O, I, I, I, O, O, I, O, O, O, O, O, O] [(2, vp 3 0), (6, vs 0), (9, vp 2 0)] rfl (by kernel_rfl) (by kernel_rfl) (by kernel_rfl) ?_
                                                   exact SD.vie D_6 [.g 0, .g 1, .g 2, .g 3] c_6_19 (by kernel_rfl)
                                                 · refine SW.eff D_6 (i := 5) (bs' := [O, I, O, O, O, I, I, O, O, O, O, O, O]) rfl (.inl rfl) rfl (e_lit (sz := 1) (E := 5) (R := R8) (by_ := 1) tk [] ([] : (List Int)) (by kernel_rfl) trivial rfl (by kernel_rfl) (by kernel_rfl)) (by kernel_rfl) rfl (by kernel_rfl) ?_
                                                   refine SD.norm (itsN := [.rd 1 R8 f_1.Banks.1, .rd 1 R8 f_1.Banks.2, .blk 25 [.s 0, .s 1], .blk 25 [nl, nl], .own 1 5 R8 ([] : (List Int))]) (by kernel_rfl) ?_
                                                   exact SD.vie D_6 [.g 0, .g 1, .g 2, .g 3, .g 4] c_6_21 (by kernel_rfl)
                                                 · refine SW.eff D_6 (i := 7) (bs' := [O, I, O, O, O, O, I, I, O, O, O, O, O]) rfl (.inl rfl) rfl (e_ixa (off := 1) (T := 25) (cs := [.s 0, .s 1]) tk rfl rfl (by kernel_rfl) (by kernel_rfl)) (by kernel_rfl) rfl (by kernel_rfl) ?_
                                                   refine SD.norm (itsN := [.rd 1 R8 f_1.Banks.1, .rd 1 R8 f_1.Banks.2, .blk 25 [.s 0, .s 1], .blk 25 [nl, nl]]) (by kernel_rfl) ?_
                                                   refine SD.takes tk D_6 [] kn0 [8] [] [] [O, I, O, O, O, O, I, I, I, O, O, O, O] [(2, vp 3 0), (4, vp 2 0), (11, vs 1)] rfl (by kernel_rfl) (by kernel_rfl) (by kernel_rfl) ?_
                                                   exact SD.vie D_6 [.g 0, .g 1, .g 2, .g 3] c_6_22 (by kernel_rfl)
 · rintro a w ⟨c_4, hp, h⟩
   refine h.go ?_
   obtain rfl := some_inv' hp
   exact SC.re (js := [.g 0, .g 1, .g 3, .g 4]) tk (by kernel_rfl)

theorem ok_wirelessref39_Apply (F : Nat) (f_1 : T_api_Flash) (w_2 : T_api_Write) (n_3 : Int) (r : T_api_Flash) (hp : wirelessref39_Apply F f_1 w_2 n_3 = some r) : Spec Tryd.prog 15 [.g [.s 0, .s 1], .g (C_api_Write w_2 (.s 2)), vi .i64 n_3] [.rd 1 R8 f_1.Banks.1, .rd 1 R8 f_1.Banks.2, .rd 1 R8 w_2.Bytes] (.g [.s 3, .s 4]) [.gone, .gone, .gone, .rd 1 R8 r.Banks.1, .rd 1 R8 r.Banks.2] := by
 refine Spec.enter Tryd.func15 rfl Tryd.ntmps15 rfl rfl fun fx => ?_
 refine SC.seq ?_
 refine SC.reg ?_
 refine SL.eff (e_box (E := 25) [.s 0, .s 1] (by kernel_rfl)) rfl (by kernel_rfl) ?_
 refine SL.eff (e_box (E := 27) (C_api_Write w_2 (.s 2)) (by kernel_rfl)) rfl (by kernel_rfl) ?_
 refine SL.eff (e_alloc (E := 25) tk [nl, nl] (by kernel_rfl)) rfl (by kernel_rfl) ?_
 refine SL.nilThen ?_
 refine SC.seq ?_
 refine SC.reg ?_
 refine SL.sim tk 1 [(2, vi .i64 n_3), (3, vp 3 0), (4, vp 4 0), (6, vp 5 0), (10, .g [.s 0, .s 1])] [] [] [] (by kernel_rfl) ?_
 obtain ⟨x_4, e_x_4, hp⟩ := bind_inv hp
 refine SL.eff (e_c Tryd.call14 (ok_wirelessref39_Copy F f_1 _ e_x_4) [.g 0, .g 1] [.g [.s 0, .s 1]] (.g [.s 6, .s 7]) (by kernel_rfl) (.inl rfl)) rfl (by kernel_rfl) ?_
 refine SL.norm (itsN := [.rd 1 R8 f_1.Banks.1, .rd 1 R8 f_1.Banks.2, .rd 1 R8 w_2.Bytes, .blk 25 [.s 0, .s 1], .blk 27 (C_api_Write w_2 (.s 2)), .blk 25 [nl, nl], .own 1 5 R8 x_4.Banks.1, .own 1 5 R8 x_4.Banks.2]) (by kernel_rfl) ?_
 refine SL.sim tk 1 [(2, vi .i64 n_3), (3, vp 3 0), (4, vp 4 0), (6, vp 5 0)] [(3, 25, [.s 6, .s 7])] [] [] (by kernel_rfl) ?_
 refine SL.nilThen ?_
 refine SC.seq ?_
 refine SC.r tk [(2, vi .i64 n_3), (3, vp 3 0), (4, vp 4 0), (6, vp 5 0), (19, vb ((decide (w_2.Bank < 0)) || (decide (w_2.Bank > 1))))] [] [] [] (by kernel_rfl) ?_
 refine SC.if' rfl hp (fun hp => ?_) (fun hp => ?_)
 · refine SC.r tk [(6, vp 5 0)] [(5, 25, [.s 6, .s 7])] [] [] (by kernel_rfl) ?_
   obtain rfl := some_inv' hp
   exact SC.re (js := [.g 0, .g 1, .g 2, .z 6, .z 7]) tk (by kernel_rfl)
 · refine SC.skipThen ?_
   refine SC.seq ?_
   refine SC.reg ?_
   refine SL.sim tk 3 [(2, vi .i64 n_3), (3, vp 3 0), (4, vp 4 0), (6, vp 5 0), (22, vi .i64 w_2.Bank), (23, vp 3 0)] [] [] [] (by kernel_rfl) ?_
   rcases Bool.eq_false_or_eq_true (w_2.Bank == 0) with he_5 | he_5
   · replace hp := if_t hp he_5
     refine SL.eff (e_ixn (n := 0) (off := 0) (T := 25) (cs := [.s 6, .s 7]) tk (eq_of_beq he_5) rfl rfl (by kernel_rfl) (by kernel_rfl)) rfl (by kernel_rfl) ?_
     refine SL.sim tk 2 [(2, vi .i64 n_3), (3, vp 3 0), (4, vp 4 0), (6, vp 5 0), (7, vs 6)] [] [] [] (by kernel_rfl) ?_
     refine SL.nilThen ?_
     refine SC.cut (fun a w => wirelessref39_Apply_j1 F w_2 n_3 x_4 = some r ∧ A 133 3 fx [(2, vi .i64 n_3), (3, vp 3 0), (4, vp 6 0), (6, vp 7 0), (7, vs 4)] [.gone, .gone, .rd 1 R8 w_2.Bytes, .blk 25 [.s 4, .s 5], .own 1 5 R8 x_4.Banks.1, .own 1 5 R8 x_4.Banks.2, .blk 27 (C_api_Write w_2 (.s 2)), .blk 25 [nl, nl]] a w) ?_ ?_
     · refine SC.r tk [(2, vi .i64 n_3), (3, vp 3 0), (4, vp 4 0), (6, vp 5 0), (7, vs 6), (27, vb w_2.Erase)] [] [] [] (by kernel_rfl) ?_
       refine SC.if' rfl hp (fun hp => ?_) (fun hp => ?_)
       · refine SC.cut (fun a w => ∃ (l_25 : (List Int)), wirelessref39_Apply_j5 F x_4 l_25 = some r ∧ A 133 3 fx [(3, vp 3 0), (6, vp 6 0)] [.gone, .gone, .gone, .blk 25 [.s 4, .s 5], .own 1 5 R8 l_25, .own 1 5 R8 x_4.Banks.2, .blk 25 [nl, nl]] a w) ?_ ?_
         · refine SC.r tk [(2, vi .i64 n_3), (3, vp 3 0), (6, vp 5 0), (7, vs 6), (8, vi .i64 0)] [] [] [] (by kernel_rfl) ?_
           refine SC.block ?_
           obtain ⟨o2, hi2, ho2⟩ := bind_inv hp
           clear hp
           refine SC.loop (fun n a w => ∃ (l_26 : (List Int)) (x_27 : Int), iter (fun s => wirelessref39_Apply_l2 F n_3 s.1 s.2) n (l_26, x_27) = some o2 ∧ A 133 3 fx [(2, vi .i64 n_3), (3, vp 3 0), (6, vp 6 0), (7, vs 4), (8, vi .i64 x_27)] [.gone, .gone, .gone, .blk 25 [.s 4, .s 5], .own 1 5 R8 l_26, .own 1 5 R8 x_4.Banks.2, .blk 25 [nl, nl]] a w) F (fun a w h => ⟨x_4.Banks.1, 0, hi2, h.at (js := [.g 0, .g 1, .g 2, .g 3, .g 6, .g 7, .g 5]) (by kernel_rfl)⟩) ?_
           rintro n2 a w ⟨l_26, x_27, hi2, h⟩
           obtain ⟨n2, q2, rfl, hp, hs2⟩ := iter_inv hi2
           replace hp : wirelessref39_Apply_l2 F n_3 l_26 x_27 = some q2 := hp
           clear hi2
           refine h.go ?_
           refine SC.seq ?_
           refine SC.r tk [(2, vi .i64 n_3), (3, vp 3 0), (6, vp 6 0), (7, vs 4), (8, vi .i64 x_27), (40, vb ((decide (x_27 < (len l_26))) && ((decide (n_3 < 0)) || (decide (x_27 < n_3)))))] [] [] [] (by kernel_rfl) ?_
           refine SC.if' rfl hp (fun hp => ?_) (fun hp => ?_)
           · refine SC.skipThen ?_
             refine SC.seq ?_
             refine SC.block ?_
             refine SC.reg ?_
             obtain ⟨x_28, e_x_28, hp⟩ := bind_inv hp
             refine SL.pre (pre_ixo (i := 4) (iv := x_27) (sz := 1) (E := 5) (R := R8) (l := l_26) (by kernel_rfl) rfl e_x_28) ?_
             refine SL.sim tk 3 [(2, vi .i64 n_3), (3, vp 3 0), (6, vp 6 0), (7, vs 4), (8, vi .i64 x_27), (45, vp 7 0)] [] [.el 7] [x_27] (by kernel_rfl) ?_
             obtain ⟨l_29, e_l_29, hp⟩ := bind_inv hp
             refine SL.eff0 (e_updf (sz := 1) (R := R8) (i := 4) (iv := x_27) (cs1 := [ci .u8 255]) (e := 255) tk rfl rfl rfl (by kernel_rfl) rfl rfl rfl Clo.int (by kernel_rfl) (by kernel_rfl) e_l_29) ?_
             refine SL.nilThen ?_
             refine SC.reg ?_
             refine SL.sim tk 3 [(2, vi .i64 n_3), (3, vp 3 0), (6, vp 6 0), (7, vs 4), (8, vi .i64 (w64 (x_27 + 1)))] [] [] [] (by kernel_rfl) ?_
             refine SL.nilJ fun a w h => ?_
             exact ⟨n2, Nat.lt_succ_self _, l_29, w64 (x_27 + 1), next_inv hp hs2, h.at (js := [.g 0, .g 1, .g 2, .g 3, .g 4, .g 5, .g 6]) (by kernel_rfl)⟩
           · refine SC.exitJ rfl fun a w h => ?_
             have ho := done_inv hp hs2
             replace hp := ho2
             try rw [ho] at hp
             exact ⟨l_26, hp, h.at (js := [.g 0, .g 1, .g 2, .g 3, .g 4, .g 5, .g 6]) (by kernel_rfl)⟩
         · rintro a w ⟨l_25, hp, h⟩
           refine h.go ?_
           refine SC.r tk [(6, vp 6 0)] [(6, 25, [.s 4, .s 5])] [] [] (by kernel_rfl) ?_
           obtain rfl := some_inv' hp
           exact SC.re (js := [.g 0, .g 1, .g 2, .z 4, .z 5]) tk (by kernel_rfl)
       · refine SC.skipJ fun a w h => ?_
         exact ⟨hp, h.at (js := [.g 0, .g 1, .g 2, .g 3, .g 6, .g 7, .g 4, .g 5]) (by kernel_rfl)⟩
     · rintro a w ⟨hp, h⟩
       refine h.go ?_
       refine SC.cut (fun a w => ∃ (l_6 : (List Int)), wirelessref39_Apply_j2 F x_4 l_6 = some r ∧ A 133 3 fx [(3, vp 3 0), (6, vp 6 0)] [.gone, .gone, .gone, .blk 25 [.s 4, .s 5], .own 1 5 R8 l_6, .own 1 5 R8 x_4.Banks.2, .blk 25 [nl, nl]] a w) ?_ ?_
       · refine SC.r tk [(2, vi .i64 n_3), (3, vp 3 0), (4, vp 6 0), (6, vp 7 0), (7, vs 4), (9, vi .i64 0)] [] [] [] (by kernel_rfl) ?_
         refine SC.block ?_
         obtain ⟨o1, hi1, ho1⟩ := bind_inv hp
         clear hp
         refine SC.loop (fun n a w => ∃ (l_7 : (List Int)) (x_8 : Int), iter (fun s => wirelessref39_Apply_l1 F w_2 n_3 s.1 s.2) n (l_7, x_8) = some o1 ∧ A 133 3 fx [(2, vi .i64 n_3), (3, vp 3 0), (4, vp 6 0), (6, vp 7 0), (7, vs 4), (9, vi .i64 x_8)] [.gone, .gone, .rd 1 R8 w_2.Bytes, .blk 25 [.s 4, .s 5], .own 1 5 R8 l_7, .own 1 5 R8 x_4.Banks.2, .blk 27 (C_api_Write w_2 (.s 2)), .blk 25 [nl, nl]] a w) F (fun a w h => ⟨x_4.Banks.1, 0, hi1, h.at (js := [.g 0, .g 1, .g 2, .g 3, .g 4, .g 5, .g 6, .g 7]) (by kernel_rfl)⟩) ?_
         rintro n1 a w ⟨l_7, x_8, hi1, h⟩
         obtain ⟨n1, q1, rfl, hp, hs1⟩ := iter_inv hi1
         replace hp : wirelessref39_Apply_l1 F w_2 n_3 l_7 x_8 = some q1 := hp
         clear hi1
         refine h.go ?_
         refine SC.seq ?_
         refine SC.r tk [(2, vi .i64 n_3), (3, vp 3 0), (4, vp 6 0), (6, vp 7 0), (7, vs 4), (9, vi .i64 x_8), (60, vb ((decide (x_8 < (len w_2.Bytes))) && ((decide (n_3 < 0)) || (decide (x_8 < n_3)))))] [] [] [] (by kernel_rfl) ?_
         refine SC.if' rfl hp (fun hp => ?_) (fun hp => ?_)
         · refine SC.skipThen ?_
           refine SC.cut (fun a w => ∃ (l_9 : (List Int)), wirelessref39_Apply_j3 F x_8 l_9 = some q1 ∧ A 133 3 fx [(2, vi .i64 n_3), (3, vp 3 0), (4, vp 6 0), (6, vp 7 0), (7, vs 4), (9, vi .i64 x_8)] [.gone, .gone, .rd 1 R8 w_2.Bytes, .blk 25 [.s 4, .s 5], .own 1 5 R8 l_9, .own 1 5 R8 x_4.Banks.2, .blk 27 (C_api_Write w_2 (.s 2)), .blk 25 [nl, nl]] a w) ?_ ?_
           · refine SC.block ?_
             refine SC.cut (fun a w => ∃ (l_10 : (List Int)), wirelessref39_Apply_j4 F w_2 x_8 l_10 = some q1 ∧ A 133 3 fx [(2, vi .i64 n_3), (3, vp 3 0), (4, vp 6 0), (6, vp 7 0), (7, vs 4), (9, vi .i64 x_8)] [.gone, .gone, .rd 1 R8 w_2.Bytes, .blk 25 [.s 4, .s 5], .own 1 5 R8 l_10, .own 1 5 R8 x_4.Banks.2, .blk 27 (C_api_Write w_2 (.s 2)), .blk 25 [nl, nl]] a w) ?_ ?_
             · refine SC.r tk [(2, vi .i64 n_3), (3, vp 3 0), (4, vp 6 0), (6, vp 7 0), (7, vs 4), (9, vi .i64 x_8), (74, vb ((decide (w_2.Offset ≥ 0)) && (decide (w_2.Offset < (w64 ((len l_7) - x_8))))))] [] [] [] (by kernel_rfl) ?_
               refine SC.if' rfl hp (fun hp => ?_) (fun hp => ?_)
               · obtain ⟨x_18, e_x_18, hp⟩ := bind_inv hp
                 refine SC.pre (pre_ix (i := 2) (iv := x_8) (sz := 1) (R := R8) (l := w_2.Bytes) (by kernel_rfl) rfl e_x_18) ?_
                 refine SC.draw MO [O, O, I, O, O, I, I, I, I] (by kernel_rfl) fun kap_19 D_20 => ?_
                 refine SD.takes tk D_20 [] kn0 [0, 1, 2, 3, 4, 5, 6, 7, 8, 9, 12, 13, 14, 15, 16] [.el 8] [x_8] [I, I, I, I, I, I, I, I, I, I, O, O, I, I, I, I, I, O, O, O] [(2, vi .i64 n_3), (3, vp 3 0), (4, vp 6 0), (6, vp 7 0), (7, vs 4), (9, vi .i64 x_8), (75, vs 4), (79, vi .i64 (w64 (w_2.Offset + x_8))), (80, vs 4), (84, vi .i64 (w64 (w_2.Offset + x_8))), (91, vi .u8 x_18)] rfl (by kernel_rfl) (by kernel_rfl) (by kernel_rfl) ?_
                 obtain ⟨x_21, e_x_21, hp⟩ := bind_inv hp
                 refine SD.all1 (i := 10) (by kernel_rfl) ?_
                 refine SW.eff D_20 (i := 10) (bs' := [I, I, I, I, I, I, I, I, I, I, I, O, I, I, I, I, I, O, O, O]) rfl (.inl rfl) rfl (e_ixp (sz := 1) (E := 5) (R := R8) (by_ := 1) (l := l_7) tk rfl rfl rfl e_x_21 (by kernel_rfl)) (by kernel_rfl) rfl (by kernel_rfl) ?_
                 obtain ⟨x_22, e_x_22, hp⟩ := bind_inv hp
                 refine SD.all1 (i := 11) (by kernel_rfl) ?_
                 refine SW.eff D_20 (i := 11) (bs' := [I, I, I, I, I, I, I, I, I, I, I, I, I, I, I, I, I, O, O, O]) rfl (.inl rfl) rfl (e_ldp1 (E := 5) (R := R8) (i := 4) (iv := w64 (w_2.Offset + x_8)) (l := l_7) tk rfl rfl e_x_22 rfl (by kernel_rfl) (by kernel_rfl) rfl) (by kernel_rfl) rfl (by kernel_rfl) ?_
                 refine SD.norm (itsN := [.gone, .gone, .rd 1 R8 w_2.Bytes, .blk 25 [.s 4, .s 5], .own 1 5 R8 l_7, .own 1 5 R8 x_4.Banks.2, .blk 27 (C_api_Write w_2 (.s 2)), .blk 25 [nl, nl], .elt (some (2, x_8)) false [ci .u8 x_18], .gone]) (by kernel_rfl) ?_
                 refine SD.takes tk D_20 [] kn0 [17] [] [] [I, I, I, I, I, I, I, I, I, I, I, I, I, I, I, I, I, I, O, O] [(2, vi .i64 n_3), (3, vp 3 0), (4, vp 6 0), (6, vp 7 0), (7, vs 4), (9, vi .i64 x_8), (75, vs 4), (79, vi .i64 (w64 (w_2.Offset + x_8))), (92, vi .u8 (iand .u8 x_22 x_18))] rfl (by kernel_rfl) (by kernel_rfl) (by kernel_rfl) ?_
                 obtain ⟨x_23, e_x_23, hp⟩ := bind_inv hp
                 refine SD.all1 (i := 18) (by kernel_rfl) ?_
                 refine SW.eff D_20 (i := 18) (bs' := [I, I, I, I, I, I, I, I, I, I, I, I, I, I, I, I, I, I, I, O]) rfl (.inl rfl) rfl (e_ixp (sz := 1) (E := 5) (R := R8) (by_ := 1) (l := l_7) tk rfl rfl rfl e_x_23 (by kernel_rfl)) (by kernel_rfl) rfl (by kernel_rfl) ?_
                 obtain ⟨l_24, e_l_24, hp⟩ := bind_inv hp
                 refine SD.all1 (i := 19) (by kernel_rfl) ?_
                 refine SW.effS D_20 (i := 19) (bs' := [I, I, I, I, I, I, I, I, I, I, I, I, I, I, I, I, I, I, I, I]) rfl (e_stp (sz := 1) (E := 5) (R := R8) (i := 4) (iv := w64 (w_2.Offset + x_8)) (l := l_7) (e := iand .u8 x_22 x_18) tk rfl rfl rfl rfl Clo.int (by kernel_rfl) (by kernel_rfl) e_l_24) rfl (by kernel_rfl) ?_
                 refine SD.norm (itsN := [.gone, .gone, .rd 1 R8 w_2.Bytes, .blk 25 [.s 4, .s 5], .own 1 5 R8 l_24, .own 1 5 R8 x_4.Banks.2, .blk 27 (C_api_Write w_2 (.s 2)), .blk 25 [nl, nl], .elt (some (2, x_8)) false [ci .u8 x_18], .gone]) (by kernel_rfl) ?_
                 refine SD.done (by kernel_rfl) fun a w h => ?_
                 exact ⟨l_24, hp, h.at (js := [.g 0, .g 1, .g 2, .g 3, .g 4, .g 5, .g 6, .g 7]) (by kernel_rfl)⟩
               · refine SC.skipJ fun a w h => ?_
                 exact ⟨l_7, hp, h.at (js := [.g 0, .g 1, .g 2, .g 3, .g 4, .g 5, .g 6, .g 7]) (by kernel_rfl)⟩
             · rintro a w ⟨l_10, hp, h⟩
               refine h.go ?_
               refine SC.r tk [(2, vi .i64 n_3), (3, vp 3 0), (4, vp 6 0), (6, vp 7 0), (7, vs 4), (9, vi .i64 x_8), (112, vb (((decide (w_2.Offset < 0)) && (decide ((w64 (w_2.Offset + x_8)) ≥ 0))) && (decide ((w64 (w_2.Offset + x_8)) < (len l_10)))))] [] [] [] (by kernel_rfl) ?_
               refine SC.if' rfl hp (fun hp => ?_) (fun hp => ?_)
               · obtain ⟨x_11, e_x_11, hp⟩ := bind_inv hp
                 refine SC.pre (pre_ix (i := 2) (iv := x_8) (sz := 1) (R := R8) (l := w_2.Bytes) (by kernel_rfl) rfl e_x_11) ?_
                 refine SC.draw MO [O, O, I, O, O, I, I, I, I] (by kernel_rfl) fun kap_12 D_13 => ?_
                 refine SD.takes tk D_13 [] kn0 [0, 1, 2, 3, 4, 5, 6, 7, 8, 9, 12, 13, 14, 15, 16] [.el 8] [x_8] [I, I, I, I, I, I, I, I, I, I, O, O, I, I, I, I, I, O, O, O] [(2, vi .i64 n_3), (3, vp 3 0), (4, vp 6 0), (6, vp 7 0), (7, vs 4), (9, vi .i64 x_8), (113, vs 4), (117, vi .i64 (w64 (w_2.Offset + x_8))), (118, vs 4), (122, vi .i64 (w64 (w_2.Offset + x_8))), (129, vi .u8 x_11)] rfl (by kernel_rfl) (by kernel_rfl) (by kernel_rfl) ?_
                 obtain ⟨x_14, e_x_14, hp⟩ := bind_inv hp
                 refine SD.all1 (i := 10) (by kernel_rfl) ?_
                 refine SW.eff D_13 (i := 10) (bs' := [I, I, I, I, I, I, I, I, I, I, I, O, I, I, I, I, I, O, O, O]) rfl (.inl rfl) rfl (e_ixp (sz := 1) (E := 5) (R := R8) (by_ := 1) (l := l_10) tk rfl rfl rfl e_x_14 (by kernel_rfl)) (by kernel_rfl) rfl (by kernel_rfl) ?_
                 obtain ⟨x_15, e_x_15, hp⟩ := bind_inv hp
                 refine SD.all1 (i := 11) (by kernel_rfl) ?_
                 refine SW.eff D_13 (i := 11) (bs' := [I, I, I, I, I, I, I, I, I, I, I, I, I, I, I, I, I, O, O, O]) rfl (.inl rfl) rfl (e_ldp1 (E := 5) (R := R8) (i := 4) (iv := w64 (w_2.Offset + x_8)) (l := l_10) tk rfl rfl e_x_15 rfl (by kernel_rfl) (by kernel_rfl) rfl) (by kernel_rfl) rfl (by kernel_rfl) ?_
                 refine SD.norm (itsN := [.gone, .gone, .rd 1 R8 w_2.Bytes, .blk 25 [.s 4, .s 5], .own 1 5 R8 l_10, .own 1 5 R8 x_4.Banks.2, .blk 27 (C_api_Write w_2 (.s 2)), .blk 25 [nl, nl], .elt (some (2, x_8)) false [ci .u8 x_11], .gone]) (by kernel_rfl) ?_
                 refine SD.takes tk D_13 [] kn0 [17] [] [] [I, I, I, I, I, I, I, I, I, I, I, I, I, I, I, I, I, I, O, O] [(2, vi .i64 n_3), (3, vp 3 0), (4, vp 6 0), (6, vp 7 0), (7, vs 4), (9, vi .i64 x_8), (113, vs 4), (117, vi .i64 (w64 (w_2.Offset + x_8))), (130, vi .u8 (iand .u8 x_15 x_11))] rfl (by kernel_rfl) (by kernel_rfl) (by kernel_rfl) ?_
                 obtain ⟨x_16, e_x_16, hp⟩ := bind_inv hp
                 refine SD.all1 (i := 18) (by kernel_rfl) ?_
                 refine SW.eff D_13 (i := 18) (bs' := [I, I, I, I, I, I, I, I, I, I, I, I, I, I, I, I, I, I, I, O]) rfl (.inl rfl) rfl (e_ixp (sz := 1) (E := 5) (R := R8) (by_ := 1) (l := l_10) tk rfl rfl rfl e_x_16 (by kernel_rfl)) (by kernel_rfl) rfl (by kernel_rfl) ?_
                 obtain ⟨l_17, e_l_17, hp⟩ := bind_inv hp
                 refine SD.all1 (i := 19) (by kernel_rfl) ?_
                 refine SW.effS D_13 (i := 19) (bs' := [I, I, I, I, I, I, I, I, I, I, I, I, I, I, I, I, I, I, I, I]) rfl (e_stp (sz := 1) (E := 5) (R := R8) (i := 4) (iv := w64 (w_2.Offset + x_8)) (l := l_10) (e := iand .u8 x_15 x_11) tk rfl rfl rfl rfl Clo.int (by kernel_rfl) (by kernel_rfl) e_l_17) rfl (by kernel_rfl) ?_
                 refine SD.norm (itsN := [.gone, .gone, .rd 1 R8 w_2.Bytes, .blk 25 [.s 4, .s 5], .own 1 5 R8 l_17, .own 1 5 R8 x_4.Banks.2, .blk 27 (C_api_Write w_2 (.s 2)), .blk 25 [nl, nl], .elt (some (2, x_8)) false [ci .u8 x_11], .gone]) (by kernel_rfl) ?_
                 refine SD.done (by kernel_rfl) fun a w h => ?_
                 exact ⟨l_17, hp, h.at (js := [.g 0, .g 1, .g 2, .g 3, .g 4, .g 5, .g 6, .g 7]) (by kernel_rfl)⟩
               · refine SC.skipJ fun a w h => ?_
                 exact ⟨l_10, hp, h.at (js := [.g 0, .g 1, .g 2, .g 3, .g 4, .g 5, .g 6, .g 7]) (by kernel_rfl)⟩
           · rintro a w ⟨l_9, hp, h⟩
             refine h.go ?_
             refine SC.reg ?_
             refine SL.sim tk 3 [(2, vi .i64 n_3), (3, vp 3 0), (4, vp 6 0), (6, vp 7 0), (7, vs 4), (9, vi .i64 (w64 (x_8 + 1)))] [] [] [] (by kernel_rfl) ?_
             refine SL.nilJ fun a w h => ?_
             exact ⟨n1, Nat.lt_succ_self _, l_9, w64 (x_8 + 1), next_inv hp hs1, h.at (js := [.g 0, .g 1, .g 2, .g 3, .g 4, .g 5, .g 6, .g 7]) (by kernel_rfl)⟩
         · refine SC.exitJ rfl fun a w h => ?_
           have ho := done_inv hp hs1
           replace hp := ho1
           try rw [ho] at hp
           exact ⟨l_7, hp, h.at (js := [.g 0, .g 1, .g 2, .g 3, .g 4, .g 5, .g 7]) (by kernel_rfl)⟩
       · rintro a w ⟨l_6, hp, h⟩
         refine h.go ?_
         refine SC.r tk [(6, vp 6 0)] [(6, 25, [.s 4, .s 5])] [] [] (by kernel_rfl) ?_
         obtain rfl := some_inv' hp
         exact SC.re (js := [.g 0, .g 1, .g 2, .z 4, .z 5]) tk (by kernel_rfl)
   · replace hp := if_f hp he_5
     rcases Bool.eq_false_or_eq_true (w_2.Bank == 1) with he_30 | he_30
     · replace hp := if_t hp he_30
       refine SL.eff (e_ixn (n := 1) (off := 1) (T := 25) (cs := [.s 6, .s 7]) tk (eq_of_beq he_30) rfl rfl (by kernel_rfl) (by kernel_rfl)) rfl (by kernel_rfl) ?_
       refine SL.sim tk 2 [(2, vi .i64 n_3), (3, vp 3 0), (4, vp 4 0), (6, vp 5 0), (7, vs 7)] [] [] [] (by kernel_rfl) ?_
       refine SL.nilThen ?_
       refine SC.cut (fun a w => wirelessref39_Apply_j6 F w_2 n_3 x_4 = some r ∧ A 133 3 fx [(2, vi .i64 n_3), (3, vp 3 0), (4, vp 6 0), (6, vp 7 0), (7, vs 5)] [.gone, .gone, .rd 1 R8 w_2.Bytes, .blk 25 [.s 4, .s 5], .own 1 5 R8 x_4.Banks.1, .own 1 5 R8 x_4.Banks.2, .blk 27 (C_api_Write w_2 (.s 2)), .blk 25 [nl, nl]] a w) ?_ ?_
       · refine SC.r tk [(2, vi .i64 n_3), (3, vp 3 0), (4, vp 4 0), (6, vp 5 0), (7, vs 7), (27, vb w_2.Erase)] [] [] [] (by kernel_rfl) ?_
         refine SC.if' rfl hp (fun hp => ?_) (fun hp => ?_)
         · refine SC.cut (fun a w => ∃ (l_50 : (List Int)), wirelessref39_Apply_j10 F x_4 l_50 = some r ∧ A 133 3 fx [(3, vp 3 0), (6, vp 6 0)] [.gone, .gone, .gone, .blk 25 [.s 4, .s 5], .own 1 5 R8 x_4.Banks.1, .own 1 5 R8 l_50, .blk 25 [nl, nl]] a w) ?_ ?_
           · refine SC.r tk [(2, vi .i64 n_3), (3, vp 3 0), (6, vp 5 0), (7, vs 7), (8, vi .i64 0)] [] [] [] (by kernel_rfl) ?_
             refine SC.block ?_
             obtain ⟨o4, hi4, ho4⟩ := bind_inv hp
             clear hp
             refine SC.loop (fun n a w => ∃ (l_51 : (List Int)) (x_52 : Int), iter (fun s => wirelessref39_Apply_l4 F n_3 s.1 s.2) n (l_51, x_52) = some o4 ∧ A 133 3 fx [(2, vi .i64 n_3), (3, vp 3 0), (6, vp 6 0), (7, vs 5), (8, vi .i64 x_52)] [.gone, .gone, .gone, .blk 25 [.s 4, .s 5], .own 1 5 R8 x_4.Banks.1, .own 1 5 R8 l_51, .blk 25 [nl, nl]] a w) F (fun a w h => ⟨x_4.Banks.2, 0, hi4, h.at (js := [.g 0, .g 1, .g 2, .g 3, .g 6, .g 7, .g 5]) (by kernel_rfl)⟩) ?_
             rintro n4 a w ⟨l_51, x_52, hi4, h⟩
             obtain ⟨n4, q4, rfl, hp, hs4⟩ := iter_inv hi4
             replace hp : wirelessref39_Apply_l4 F n_3 l_51 x_52 = some q4 := hp
             clear hi4
             refine h.go ?_
             refine SC.seq ?_
             refine SC.r tk [(2, vi .i64 n_3), (3, vp 3 0), (6, vp 6 0), (7, vs 5), (8, vi .i64 x_52), (40, vb ((decide (x_52 < (len l_51))) && ((decide (n_3 < 0)) || (decide (x_52 < n_3)))))] [] [] [] (by kernel_rfl) ?_
             refine SC.if' rfl hp (fun hp => ?_) (fun hp => ?_)
             · refine SC.skipThen ?_
               refine SC.seq ?_
               refine SC.block ?_
               refine SC.reg ?_
               obtain ⟨x_53, e_x_53, hp⟩ := bind_inv hp
               refine SL.pre (pre_ixo (i := 5) (iv := x_52) (sz := 1) (E := 5) (R := R8) (l := l_51) (by kernel_rfl) rfl e_x_53) ?_
               refine SL.sim tk 3 [(2, vi .i64 n_3), (3, vp 3 0), (6, vp 6 0), (7, vs 5), (8, vi .i64 x_52), (45, vp 7 0)] [] [.el 7] [x_52] (by kernel_rfl) ?_
               obtain ⟨l_54, e_l_54, hp⟩ := bind_inv hp
               refine SL.eff0 (e_updf (sz := 1) (R := R8) (i := 5) (iv := x_52) (cs1 := [ci .u8 255]) (e := 255) tk rfl rfl rfl (by kernel_rfl) rfl rfl rfl Clo.int (by kernel_rfl) (by kernel_rfl) e_l_54) ?_
               refine SL.nilThen ?_
               refine SC.reg ?_
               refine SL.sim tk 3 [(2, vi .i64 n_3), (3, vp 3 0), (6, vp 6 0), (7, vs 5), (8, vi .i64 (w64 (x_52 + 1)))] [] [] [] (by kernel_rfl) ?_
               refine SL.nilJ fun a w h => ?_
               exact ⟨n4, Nat.lt_succ_self _, l_54, w64 (x_52 + 1), next_inv hp hs4, h.at (js := [.g 0, .g 1, .g 2, .g 3, .g 4, .g 5, .g 6]) (by kernel_rfl)⟩
             · refine SC.exitJ rfl fun a w h => ?_
               have ho := done_inv hp hs4
               replace hp := ho4
               try rw [ho] at hp
               exact ⟨l_51, hp, h.at (js := [.g 0, .g 1, .g 2, .g 3, .g 4, .g 5, .g 6]) (by kernel_rfl)⟩
           · rintro a w ⟨l_50, hp, h⟩
             refine h.go ?_
             refine SC.r tk [(6, vp 6 0)] [(6, 25, [.s 4, .s 5])] [] [] (by kernel_rfl) ?_
             obtain rfl := some_inv' hp
             exact SC.re (js := [.g 0, .g 1, .g 2, .z 4, .z 5]) tk (by kernel_rfl)
         · refine SC.skipJ fun a w h => ?_
           exact ⟨hp, h.at (js := [.g 0, .g 1, .g 2, .g 3, .g 6, .g 7, .g 4, .g 5]) (by kernel_rfl)⟩
       · rintro a w ⟨hp, h⟩
         refine h.go ?_
         refine SC.cut (fun a w => ∃ (l_31 : (List Int)), wirelessref39_Apply_j7 F x_4 l_31 = some r ∧ A 133 3 fx [(3, vp 3 0), (6, vp 6 0)] [.gone, .gone, .gone, .blk 25 [.s 4, .s 5], .own 1 5 R8 x_4.Banks.1, .own 1 5 R8 l_31, .blk 25 [nl, nl]] a w) ?_ ?_
         · refine SC.r tk [(2, vi .i64 n_3), (3, vp 3 0), (4, vp 6 0), (6, vp 7 0), (7, vs 5), (9, vi .i64 0)] [] [] [] (by kernel_rfl) ?_
           refine SC.block ?_
           obtain ⟨o3, hi3, ho3⟩ := bind_inv hp
           clear hp
           refine SC.loop (fun n a w => ∃ (l_32 : (List Int)) (x_33 : Int), iter (fun s => wirelessref39_Apply_l3 F w_2 n_3 s.1 s.2) n (l_32, x_33) = some o3 ∧ A 133 3 fx [(2, vi .i64 n_3), (3, vp 3 0), (4, vp 6 0), (6, vp 7 0), (7, vs 5), (9, vi .i64 x_33)] [.gone, .gone, .rd 1 R8 w_2.Bytes, .blk 25 [.s 4, .s 5], .own 1 5 R8 x_4.Banks.1, .own 1 5 R8 l_32, .blk 27 (C_api_Write w_2 (.s 2)), .blk 25 [nl, nl]] a w) F (fun a w h => ⟨x_4.Banks.2, 0, hi3, h.at (js := [.g 0, .g 1, .g 2, .g 3, .g 4, .g 5, .g 6, .g 7]) (by kernel_rfl)⟩) ?_
           rintro n3 a w ⟨l_32, x_33, hi3, h⟩
           obtain ⟨n3, q3, rfl, hp, hs3⟩ := iter_inv hi3
           replace hp : wirelessref39_Apply_l3 F w_2 n_3 l_32 x_33 = some q3 := hp
           clear hi3
           refine h.go ?_
           refine SC.seq ?_
           refine SC.r tk [(2, vi .i64 n_3), (3, vp 3 0), (4, vp 6 0), (6, vp 7 0), (7, vs 5), (9, vi .i64 x_33), (60, vb ((decide (x_33 < (len w_2.Bytes))) && ((decide (n_3 < 0)) || (decide (x_33 < n_3)))))] [] [] [] (by kernel_rfl) ?_
           refine SC.if' rfl hp (fun hp => ?_) (fun hp => ?_)
           · refine SC.skipThen ?_
             refine SC.cut (fun a w => ∃ (l_34 : (List Int)), wirelessref39_Apply_j8 F x_33 l_34 = some q3 ∧ A 133 3 fx [(2, vi .i64 n_3), (3, vp 3 0), (4, vp 6 0), (6, vp 7 0), (7, vs 5), (9, vi .i64 x_33)] [.gone, .gone, .rd 1 R8 w_2.Bytes, .blk 25 [.s 4, .s 5], .own 1 5 R8 x_4.Banks.1, .own 1 5 R8 l_34, .blk 27 (C_api_Write w_2 (.s 2)), .blk 25 [nl, nl]] a w) ?_ ?_
             · refine SC.block ?_
               refine SC.cut (fun a w => ∃ (l_35 : (List Int)), wirelessref39_Apply_j9 F w_2 x_33 l_35 = some q3 ∧ A 133 3 fx [(2, vi .i64 n_3), (3, vp 3 0), (4, vp 6 0), (6, vp 7 0), (7, vs 5), (9, vi .i64 x_33)] [.gone, .gone, .rd 1 R8 w_2.Bytes, .blk 25 [.s 4, .s 5], .own 1 5 R8 x_4.Banks.1, .own 1 5 R8 l_35, .blk 27 (C_api_Write w_2 (.s 2)), .blk 25 [nl, nl]] a w) ?_ ?_
               · refine SC.r tk [(2, vi .i64 n_3), (3, vp 3 0), (4, vp 6 0), (6, vp 7 0), (7, vs 5), (9, vi .i64 x_33), (74, vb ((decide (w_2.Offset ≥ 0)) && (decide (w_2.Offset < (w64 ((len l_32) - x_33))))))] [] [] [] (by kernel_rfl) ?_
                 refine SC.if' rfl hp (fun hp => ?_) (fun hp => ?_)
                 · obtain ⟨x_43, e_x_43, hp⟩ := bind_inv hp
                   refine SC.pre (pre_ix (i := 2) (iv := x_33) (sz := 1) (R := R8) (l := w_2.Bytes) (by kernel_rfl) rfl e_x_43) ?_
                   refine SC.draw MO [O, O, I, O, I, O, I, I, I] (by kernel_rfl) fun kap_44 D_45 => ?_
                   refine SD.takes tk D_45 [] kn0 [0, 1, 2, 3, 4, 5, 6, 7, 8, 9, 12, 13, 14, 15, 16] [.el 8] [x_33] [I, I, I, I, I, I, I, I, I, I, O, O, I, I, I, I, I, O, O, O] [(2, vi .i64 n_3), (3, vp 3 0), (4, vp 6 0), (6, vp 7 0), (7, vs 5), (9, vi .i64 x_33), (75, vs 5), (79, vi .i64 (w64 (w_2.Offset + x_33))), (80, vs 5), (84, vi .i64 (w64 (w_2.Offset + x_33))), (91, vi .u8 x_43)] rfl (by kernel_rfl) (by kernel_rfl) (by kernel_rfl) ?_
                   obtain ⟨x_46, e_x_46, hp⟩ := bind_inv hp
                   refine SD.all1 (i := 10) (by kernel_rfl) ?_
                   refine SW.eff D_45 (i := 10) (bs' := [I, I, I, I, I, I, I, I, I, I, I, O, I, I, I, I, I, O, O, O]) rfl (.inl rfl) rfl (e_ixp (sz := 1) (E := 5) (R := R8) (by_ := 1) (l := l_32) tk rfl rfl rfl e_x_46 (by kernel_rfl)) (by kernel_rfl) rfl (by kernel_rfl) ?_
                   obtain ⟨x_47, e_x_47, hp⟩ := bind_inv hp
                   refine SD.all1 (i := 11) (by kernel_rfl) ?_
                   refine SW.eff D_45 (i := 11) (bs' := [I, I, I, I, I, I, I, I, I, I, I, I, I, I, I, I, I, O, O, O]) rfl (.inl rfl) rfl (e_ldp1 (E := 5) (R := R8) (i := 5) (iv := w64 (w_2.Offset + x_33)) (l := l_32) tk rfl rfl e_x_47 rfl (by kernel_rfl) (by kernel_rfl) rfl) (by kernel_rfl) rfl (by kernel_rfl) ?_
                   refine SD.norm (itsN := [.gone, .gone, .rd 1 R8 w_2.Bytes, .blk 25 [.s 4, .s 5], .own 1 5 R8 x_4.Banks.1, .own 1 5 R8 l_32, .blk 27 (C_api_Write w_2 (.s 2)), .blk 25 [nl, nl], .elt (some (2, x_33)) false [ci .u8 x_43], .gone]) (by kernel_rfl) ?_
                   refine SD.takes tk D_45 [] kn0 [17] [] [] [I, I, I, I, I, I, I, I, I, I, I, I, I, I, I, I, I, I, O, O] [(2, vi .i64 n_3), (3, vp 3 0), (4, vp 6 0), (6, vp 7 0), (7, vs 5), (9, vi .i64 x_33), (75, vs 5), (79, vi .i64 (w64 (w_2.Offset + x_33))), (92, vi .u8 (iand .u8 x_47 x_43))] rfl (by kernel_rfl) (by kernel_rfl) (by kernel_rfl) ?_
                   obtain ⟨x_48, e_x_48, hp⟩ := bind_inv hp
                   refine SD.all1 (i := 18) (by kernel_rfl) ?_
                   refine SW.eff D_45 (i := 18) (bs' := [I, I, I, I, I, I, I, I, I, I, I, I, I, I, I, I, I, I, I, O]) rfl (.inl rfl) rfl (e_ixp (sz := 1) (E := 5) (R := R8) (by_ := 1) (l := l_32) tk rfl rfl rfl e_x_48 (by kernel_rfl)) (by kernel_rfl) rfl (by kernel_rfl) ?_
                   obtain ⟨l_49, e_l_49, hp⟩ := bind_inv hp
                   refine SD.all1 (i := 19) (by kernel_rfl) ?_
                   refine SW.effS D_45 (i := 19) (bs' := [I, I, I, I, I, I, I, I, I, I, I, I, I, I, I, I, I, I, I, I]) rfl (e_stp (sz := 1) (E := 5) (R := R8) (i := 5) (iv := w64 (w_2.Offset + x_33)) (l := l_32) (e := iand .u8 x_47 x_43) tk rfl rfl rfl rfl Clo.int (by kernel_rfl) (by kernel_rfl) e_l_49) rfl (by kernel_rfl) ?_
                   refine SD.norm (itsN := [.gone, .gone, .rd 1 R8 w_2.Bytes, .blk 25 [.s 4, .s 5], .own 1 5 R8 x_4.Banks.1, .own 1 5 R8 l_49, .blk 27 (C_api_Write w_2 (.s 2)), .blk 25 [nl, nl], .elt (some (2, x_33)) false [ci .u8 x_43], .gone]) (by kernel_rfl) ?_
                   refine SD.done (by kernel_rfl) fun a w h => ?_
                   exact ⟨l_49, hp, h.at (js := [.g 0, .g 1, .g 2, .g 3, .g 4, .g 5, .g 6, .g 7]) (by kernel_rfl)⟩
                 · refine SC.skipJ fun a w h => ?_
                   exact ⟨l_32, hp, h.at (js := [.g 0, .g 1, .g 2, .g 3, .g 4, .g 5, .g 6, .g 7]) (by kernel_rfl)⟩
               · rintro a w ⟨l_35, hp, h⟩
                 refine h.go ?_
                 refine SC.r tk [(2, vi .i64 n_3), (3, vp 3 0), (4, vp 6 0), (6, vp 7 0), (7, vs 5), (9, vi .i64 x_33), (112, vb (((decide (w_2.Offset < 0)) && (decide ((w64 (w_2.Offset + x_33)) ≥ 0))) && (decide ((w64 (w_2.Offset + x_33)) < (len l_35)))))] [] [] [] (by kernel_rfl) ?_
                 refine SC.if' rfl hp (fun hp => ?_) (fun hp => ?_)
                 · obtain ⟨x_36, e_x_36, hp⟩ := bind_inv hp
                   refine SC.pre (pre_ix (i := 2) (iv := x_33) (sz := 1) (R := R8) (l := w_2.Bytes) (by kernel_rfl) rfl e_x_36) ?_
                   refine SC.draw MO [O, O, I, O, I, O, I, I, I] (by kernel_rfl) fun kap_37 D_38 => ?_
                   refine SD.takes tk D_38 [] kn0 [0, 1, 2, 3, 4, 5, 6, 7, 8, 9, 12, 13, 14, 15, 16] [.el 8] [x_33] [I, I, I, I, I, I, I, I, I, I, O, O, I, I, I, I, I, O, O, O] [(2, vi .i64 n_3), (3, vp 3 0), (4, vp 6 0), (6, vp 7 0), (7, vs 5), (9, vi .i64 x_33), (113, vs 5), (117, vi .i64 (w64 (w_2.Offset + x_33))), (118, vs 5), (122, vi .i64 (w64 (w_2.Offset + x_33))), (129, vi .u8 x_36)] rfl (by kernel_rfl) (by kernel_rfl) (by kernel_rfl) ?_
                   obtain ⟨x_39, e_x_39, hp⟩ := bind_inv hp
                   refine SD.all1 (i := 10) (by kernel_rfl) ?_
                   refine SW.eff D_38 (i := 10) (bs' := [I, I, I, I, I, I, I, I, I, I, I, O, I, I, I, I, I, O, O, O]) rfl (.inl rfl) rfl (e_ixp (sz := 1) (E := 5) (R := R8) (by_ := 1) (l := l_35) tk rfl rfl rfl e_x_39 (by kernel_rfl)) (by kernel_rfl) rfl (by kernel_rfl) ?_
                   obtain ⟨x_40, e_x_40, hp⟩ := bind_inv hp
                   refine SD.all1 (i := 11) (by kernel_rfl) ?_
                   refine SW.eff D_38 (i := 11) (bs' := [I, I, I, I, I, I, I, I, I, I, I, I, I, I, I, I, I, O, O, O]) rfl (.inl rfl) rfl (e_ldp1 (E := 5) (R := R8) (i := 5) (iv := w64 (w_2.Offset + x_33)) (l := l_35) tk rfl rfl e_x_40 rfl (by kernel_rfl) (by kernel_rfl) rfl) (by kernel_rfl) rfl (by kernel_rfl) ?_
                   refine SD.norm (itsN := [.gone, .gone, .rd 1 R8 w_2.Bytes, .blk 25 [.s 4, .s 5], .own 1 5 R8 x_4.Banks.1, .own 1 5 R8 l_35, .blk 27 (C_api_Write w_2 (.s 2)), .blk 25 [nl, nl], .elt (some (2, x_33)) false [ci .u8 x_36], .gone]) (by kernel_rfl) ?_
                   refine SD.takes tk D_38 [] kn0 [17] [] [] [I, I, I, I, I, I, I, I, I, I, I, I, I, I, I, I, I, I, O, O] [(2, vi .i64 n_3), (3, vp 3 0), (4, vp 6 0), (6, vp 7 0), (7, vs 5), (9, vi .i64 x_33), (113, vs 5), (117, vi .i64 (w64 (w_2.Offset + x_33))), (130, vi .u8 (iand .u8 x_40 x_36))] rfl (by kernel_rfl) (by kernel_rfl) (by kernel_rfl) ?_
                   obtain ⟨x_41, e_x_41, hp⟩ := bind_inv hp
                   refine SD.all1 (i := 18) (by kernel_rfl) ?_
                   refine SW.eff D_38 (i := 18) (bs' := [I, I, I, I, I, I, I, I, I, I, I, I, I, I, I, I, I, I, I, O]) rfl (.inl rfl) rfl (e_ixp (sz := 1) (E := 5) (R := R8) (by_ := 1) (l := l_35) tk rfl rfl rfl e_x_41 (by kernel_rfl)) (by kernel_rfl) rfl (by kernel_rfl) ?_
                   obtain ⟨l_42, e_l_42, hp⟩ := bind_inv hp
                   refine SD.all1 (i := 19) (by kernel_rfl) ?_
                   refine SW.effS D_38 (i := 19) (bs' := [I, I, I, I, I, I, I, I, I, I, I, I, I, I, I, I, I, I, I, I]) rfl (e_stp (sz := 1) (E := 5) (R := R8) (i := 5) (iv := w64 (w_2.Offset + x_33)) (l := l_35) (e := iand .u8 x_40 x_36) tk rfl rfl rfl rfl Clo.int (by kernel_rfl) (by kernel_rfl) e_l_42) rfl (by kernel_rfl) ?_
                   refine SD.norm (itsN := [.gone, .gone, .rd 1 R8 w_2.Bytes, .blk 25 [.s 4, .s 5], .own 1 5 R8 x_4.Banks.1, .own 1 5 R8 l_42, .blk 27 (C_api_Write w_2 (.s 2)), .blk 25 [nl, nl], .elt (some (2, x_33)) false [ci .u8 x_36], .gone]) (by kernel_rfl) ?_
                   refine SD.done (by kernel_rfl) fun a w h => ?_
                   exact ⟨l_42, hp, h.at (js := [.g 0, .g 1, .g 2, .g 3, .g 4, .g 5, .g 6, .g 7]) (by kernel_rfl)⟩
                 · refine SC.skipJ fun a w h => ?_
                   exact ⟨l_35, hp, h.at (js := [.g 0, .g 1, .g 2, .g 3, .g 4, .g 5, .g 6, .g 7]) (by kernel_rfl)⟩
             · rintro a w ⟨l_34, hp, h⟩
               refine h.go ?_
               refine SC.reg ?_
               refine SL.sim tk 3 [(2, vi .i64 n_3), (3, vp 3 0), (4, vp 6 0), (6, vp 7 0), (7, vs 5), (9, vi .i64 (w64 (x_33 + 1)))] [] [] [] (by kernel_rfl) ?_
               refine SL.nilJ fun a w h => ?_
               exact ⟨n3, Nat.lt_succ_self _, l_34, w64 (x_33 + 1), next_inv hp hs3, h.at (js := [.g 0, .g 1, .g 2, .g 3, .g 4, .g 5, .g 6, .g 7]) (by kernel_rfl)⟩
           · refine SC.exitJ rfl fun a w h => ?_
             have ho := done_inv hp hs3
             replace hp := ho3
             try rw [ho] at hp
             exact ⟨l_32, hp, h.at (js := [.g 0, .g 1, .g 2, .g 3, .g 4, .g 5, .g 7]) (by kernel_rfl)⟩
         · rintro a w ⟨l_31, hp, h⟩
           refine h.go ?_
           refine SC.r tk [(6, vp 6 0)] [(6, 25, [.s 4, .s 5])] [] [] (by kernel_rfl) ?_
           obtain rfl := some_inv' hp
           exact SC.re (js := [.g 0, .g 1, .g 2, .z 4, .z 5]) tk (by kernel_rfl)
     · replace hp := if_f hp he_30
       cases hp

theorem ok_wirelesslaw39_FlashApplies (F : Nat) (f_1 : T_api_Flash) (w_2 : T_api_Write) (n_3 : Int) (size_4 : Int) (r : Bool) (hp : wirelesslaw39_FlashApplies F f_1 w_2 n_3 size_4 = some r) : Spec Tryd.prog 3 [.g [.s 0, .s 1], .g (C_api_Write w_2 (.s 2)), vi .i64 n_3, vi .i64 size_4] [.rd 1 R8 f_1.Banks.1, .rd 1 R8 f_1.Banks.2, .rd 1 R8 w_2.Bytes] (vb r) [.gone, .gone, .gone] := by
 refine Spec.enter Tryd.func3 rfl Tryd.ntmps3 rfl rfl fun fx => ?_
 refine SC.seq ?_
 refine SC.reg ?_
 refine SL.eff (e_box (E := 25) [.s 0, .s 1] (by kernel_rfl)) rfl (by kernel_rfl) ?_
 refine SL.eff (e_box (E := 27) (C_api_Write w_2 (.s 2)) (by kernel_rfl)) rfl (by kernel_rfl) ?_
 refine SL.sim tk 1 [(2, vi .i64 n_3), (3, vi .i64 size_4), (4, vp 3 0), (5, vp 4 0)] [] [] [] (by kernel_rfl) ?_
 refine SL.nilThen ?_
 refine SC.seq ?_
 refine SC.seq ?_
 refine SC.reg ?_
 obtain ⟨x_5, e_x_5, hp⟩ := bind_inv hp
 refine SL.eff (e_c Tryd.call8 (ok_wirelesslaw39_lives F  _ e_x_5) [] [] (vb x_5) (by kernel_rfl) (.inl rfl)) rfl (by kernel_rfl) ?_
 refine SL.norm (itsN := [.rd 1 R8 f_1.Banks.1, .rd 1 R8 f_1.Banks.2, .rd 1 R8 w_2.Bytes, .blk 25 [.s 0, .s 1], .blk 27 (C_api_Write w_2 (.s 2))]) (by kernel_rfl) ?_
 refine SL.sim tk 1 [(2, vi .i64 n_3), (3, vi .i64 size_4), (4, vp 3 0), (5, vp 4 0), (15, vb (!x_5))] [] [] [] (by kernel_rfl) ?_
 refine SL.nilThen ?_
 refine SC.if' rfl hp (fun hp => ?_) (fun hp => ?_)
 · refine SC.r tk [(8, vb false)] [] [] [] (by kernel_rfl) ?_
   obtain rfl := some_inv' hp
   exact SC.re (js := [.g 0, .g 1, .g 2]) tk (by kernel_rfl)
 · refine SC.skipThen ?_
   refine SC.seq ?_
   refine SC.seq ?_
   refine SC.reg ?_
   refine SL.sim tk 1 [(2, vi .i64 n_3), (3, vi .i64 size_4), (4, vp 3 0), (5, vp 4 0), (16, vp 3 0)] [] [] [] (by kernel_rfl) ?_
   refine SL.eff (e_ixa (off := 0) (T := 25) (cs := [.s 0, .s 1]) tk rfl rfl (by kernel_rfl) (by kernel_rfl)) rfl (by kernel_rfl) ?_
   refine SL.sim tk 4 [(2, vi .i64 n_3), (3, vi .i64 size_4), (4, vp 3 0), (5, vp 4 0), (21, vb (decide ((len f_1.Banks.1) > 4096)))] [] [] [] (by kernel_rfl) ?_
   obtain ⟨z_7, hz, hpr⟩ := bind_inv hp
   clear hp
   refine SL.cutAt 6 (fun a w => A 77 3 fx [(2, vi .i64 n_3), (3, vi .i64 size_4), (4, vp 3 0), (5, vp 4 0), (27, vb z_7)] [.rd 1 R8 f_1.Banks.1, .rd 1 R8 f_1.Banks.2, .rd 1 R8 w_2.Bytes, .blk 25 [.s 0, .s 1], .blk 27 (C_api_Write w_2 (.s 2))] a w) ?_ ?_
   · have hp := hz
     rcases Bool.eq_false_or_eq_true (decide ((len f_1.Banks.1) > 4096)) with hg_6 | hg_6
     · replace hp := if_t hp hg_6
       refine SL.no rfl rfl hg_6 rfl ?_
       refine SL.no rfl rfl hg_6 rfl ?_
       refine SL.no rfl rfl hg_6 rfl ?_
       refine SL.no rfl rfl hg_6 rfl ?_
       refine SL.no rfl rfl hg_6 rfl ?_
       refine SL.pickt rfl hg_6 rfl rfl ?_
       refine SL.nilJ fun a w h => ?_
       obtain rfl := some_inv' hp
       exact h.at (js := [.g 0, .g 1, .g 2, .g 3, .g 4]) (by kernel_rfl)
     · replace hp := if_f hp hg_6
       refine SL.yes rfl rfl hg_6 ?_
       refine SL.sim tk 1 [(2, vi .i64 n_3), (3, vi .i64 size_4), (4, vp 3 0), (5, vp 4 0), (21, vb (decide ((len f_1.Banks.1) > 4096))), (22, vp 3 0)] [] [] [] (by kernel_rfl) ?_
       refine SL.yes rfl rfl hg_6 ?_
       refine SL.eff (e_ixa (off := 1) (T := 25) (cs := [.s 0, .s 1]) tk rfl rfl (by kernel_rfl) (by kernel_rfl)) rfl (by kernel_rfl) ?_
       refine SL.yes rfl rfl hg_6 ?_
       refine SL.sim tk 1 [(2, vi .i64 n_3), (3, vi .i64 size_4), (4, vp 3 0), (5, vp 4 0), (21, vb (decide ((len f_1.Banks.1) > 4096))), (24, vs 1)] [] [] [] (by kernel_rfl) ?_
       refine SL.yes rfl rfl hg_6 ?_
       refine SL.sim tk 1 [(2, vi .i64 n_3), (3, vi .i64 size_4), (4, vp 3 0), (5, vp 4 0), (21, vb (decide ((len f_1.Banks.1) > 4096))), (25, vi .i64 (len f_1.Banks.2))] [] [] [] (by kernel_rfl) ?_
       refine SL.yes rfl rfl hg_6 ?_
       refine SL.sim tk 1 [(2, vi .i64 n_3), (3, vi .i64 size_4), (4, vp 3 0), (5, vp 4 0), (21, vb (decide ((len f_1.Banks.1) > 4096))), (26, vb (decide ((len f_1.Banks.2) > 4096)))] [] [] [] (by kernel_rfl) ?_
       refine SL.pickf rfl hg_6 rfl rfl ?_
       refine SL.nilJ fun a w h => ?_
       obtain rfl := some_inv' hp
       exact h.at (js := [.g 0, .g 1, .g 2, .g 3, .g 4]) (by kernel_rfl)
   · intro a w h
     have hp := hpr; clear hpr hz
     refine h.goL ?_
     refine SL.sim tk 14 [(2, vi .i64 n_3), (3, vi .i64 size_4), (4, vp 3 0), (5, vp 4 0), (41, vb ((z_7 || (decide ((len w_2.Bytes) > 4096))) || ((decide (size_4 > 4096)) && (decide (size_4 ≤ 65536)))))] [] [] [] (by kernel_rfl) ?_
     refine SL.nilThen ?_
     refine SC.if' rfl hp (fun hp => ?_) (fun hp => ?_)
     · refine SC.r tk [(8, vb true)] [] [] [] (by kernel_rfl) ?_
       obtain rfl := some_inv' hp
       exact SC.re (js := [.g 0, .g 1, .g 2]) tk (by kernel_rfl)
     · refine SC.skipThen ?_
       refine SC.seq ?_
       refine SC.reg ?_
       refine SL.sim tk 1 [(2, vi .i64 n_3), (3, vi .i64 size_4), (4, vp 3 0), (5, vp 4 0), (43, vi .i64 size_4)] [] [] [] (by kernel_rfl) ?_
       obtain ⟨x_8, e_x_8, hp⟩ := bind_inv hp
       refine SL.eff (e_c Tryd.call9 (ok_flash_Blank F size_4 _ e_x_8) [] [vi .i64 size_4] (.u [.inr [.s 5, .s 6], .inl (ci .i64 x_8.2)]) (by kernel_rfl) (.inl rfl)) rfl (by kernel_rfl) ?_
       refine SL.sim tk 3 [(2, vi .i64 n_3), (3, vi .i64 size_4), (4, vp 3 0), (5, vp 4 0), (45, .g [.s 5, .s 6]), (46, vi .i64 x_8.2)] [] [] [] (by kernel_rfl) ?_
       refine SL.eff (e_alloc (E := 25) tk [nl, nl] (by kernel_rfl)) rfl (by kernel_rfl) ?_
       refine SL.sim tk 2 [(2, vi .i64 n_3), (3, vi .i64 size_4), (4, vp 3 0), (5, vp 4 0), (9, vp 7 0), (10, vi .i64 x_8.2)] [(7, 25, [.s 5, .s 6])] [] [] (by kernel_rfl) ?_
       refine SL.nilThen ?_
       refine SC.seq ?_
       refine SC.reg ?_
       refine SL.sim tk 1 [(2, vi .i64 n_3), (4, vp 3 0), (5, vp 4 0), (9, vp 7 0), (10, vi .i64 x_8.2), (48, vi .i64 size_4)] [] [] [] (by kernel_rfl) ?_
       obtain ⟨x_9, e_x_9, hp⟩ := bind_inv hp
       refine SL.eff (e_c Tryd.call10 (ok_wirelessref39_Blank F size_4 _ e_x_9) [] [vi .i64 size_4] (.u [.inr [.s 8, .s 9], .inl (ci .i64 x_9.2)]) (by kernel_rfl) (.inl rfl)) rfl (by kernel_rfl) ?_
       refine SL.norm (itsN := [.rd 1 R8 f_1.Banks.1, .rd 1 R8 f_1.Banks.2, .rd 1 R8 w_2.Bytes, .blk 25 [.s 0, .s 1], .blk 27 (C_api_Write w_2 (.s 2)), .rd 1 R8 x_8.1.Banks.1, .rd 1 R8 x_8.1.Banks.2, .blk 25 [.s 5, .s 6], .rd 1 R8 x_9.1.Banks.1, .rd 1 R8 x_9.1.Banks.2]) (by kernel_rfl) ?_
       refine SL.sim tk 3 [(2, vi .i64 n_3), (4, vp 3 0), (5, vp 4 0), (9, vp 7 0), (10, vi .i64 x_8.2), (50, .g [.s 8, .s 9]), (51, vi .i64 x_9.2)] [] [] [] (by kernel_rfl) ?_
       refine SL.eff (e_alloc (E := 25) tk [nl, nl] (by kernel_rfl)) rfl (by kernel_rfl) ?_
       refine SL.sim tk 2 [(2, vi .i64 n_3), (4, vp 3 0), (5, vp 4 0), (9, vp 7 0), (10, vi .i64 x_8.2), (11, vp 10 0), (12, vi .i64 x_9.2)] [(10, 25, [.s 8, .s 9])] [] [] (by kernel_rfl) ?_
       refine SL.nilThen ?_
       refine SC.seq ?_
       refine SC.reg ?_
       refine SL.sim tk 1 [(2, vi .i64 n_3), (4, vp 3 0), (5, vp 4 0), (9, vp 7 0), (10, vi .i64 x_8.2), (11, vp 10 0), (12, vi .i64 x_9.2), (52, .g (C_api_Write w_2 (.s 2)))] [] [] [] (by kernel_rfl) ?_
       refine SL.eff (e_alloc (E := 27) tk [ci .i64 0, cb false, ci .i64 0, nl] (by kernel_rfl)) rfl (by kernel_rfl) ?_
       refine SL.sim tk 1 [(2, vi .i64 n_3), (4, vp 3 0), (5, vp 4 0), (9, vp 7 0), (10, vi .i64 x_8.2), (11, vp 10 0), (12, vi .i64 x_9.2), (13, vp 11 0)] [(11, 27, (C_api_Write w_2 (.s 2)))] [] [] (by kernel_rfl) ?_
       refine SL.nilThen ?_
       refine SC.seq ?_
       refine SC.reg ?_
       refine SL.sim tk 2 [(2, vi .i64 n_3), (4, vp 3 0), (5, vp 4 0), (9, vp 7 0), (10, vi .i64 x_8.2), (11, vp 10 0), (12, vi .i64 x_9.2), (13, vp 11 0), (54, vs 2)] [] [] [] (by kernel_rfl) ?_
       obtain ⟨x_10, e_x_10, hp⟩ := bind_inv hp
       refine SL.eff (e_c Tryd.call11 (ok_wirelesslaw39_copied F w_2.Bytes _ e_x_10) [.g 2] [vs 2] (vs 12) (by kernel_rfl) (.inl rfl)) rfl (by kernel_rfl) ?_
       refine SL.norm (itsN := [.rd 1 R8 f_1.Banks.1, .rd 1 R8 f_1.Banks.2, .rd 1 R8 w_2.Bytes, .blk 25 [.s 0, .s 1], .blk 27 (C_api_Write w_2 (.s 2)), .rd 1 R8 x_8.1.Banks.1, .rd 1 R8 x_8.1.Banks.2, .blk 25 [.s 5, .s 6], .rd 1 R8 x_9.1.Banks.1, .rd 1 R8 x_9.1.Banks.2, .blk 25 [.s 8, .s 9], .blk 27 (C_api_Write w_2 (.s 2)), .rd 1 R8 x_10]) (by kernel_rfl) ?_
       refine SL.sim tk 2 [(2, vi .i64 n_3), (4, vp 3 0), (5, vp 4 0), (9, vp 7 0), (10, vi .i64 x_8.2), (11, vp 10 0), (12, vi .i64 x_9.2), (13, vp 11 0)] [(11, 27, (C_api_Write ({ w_2 with Bytes := x_10 }) (.s 12)))] [] [] (by kernel_rfl) ?_
       refine SL.nilThen ?_
       refine SC.cut (fun a w => ∃ (z_11 : Bool), wirelesslaw39_FlashApplies_j1 F z_11 = some r ∧ A 77 3 fx [(8, vb z_11)] [.gone, .gone, .gone] a w) ?_ ?_
       · refine SC.draw MO [I, I, I, I, I, I, I, I, I, I, I, I, I] (by kernel_rfl) fun kap_12 D_13 => ?_
         refine SD.takes tk D_13 [] kn0 [0, 1, 2, 3] [] [] [I, I, I, I, O, O, O, O, O, O, O, O, O, O, O, O, O, O, O, O, O] [(2, vi .i64 n_3), (4, vp 3 0), (5, vp 4 0), (9, vp 7 0), (11, vp 10 0), (13, vp 11 0), (60, vb (x_8.2 == x_9.2))] rfl (by kernel_rfl) (by kernel_rfl) (by kernel_rfl) ?_
         rcases Bool.eq_false_or_eq_true ((x_8.2 == x_9.2)) with hg_14 | hg_14
         · replace hp := if_t hp hg_14
           refine SD.takes tk D_13 [(60, true)] (knS rfl hg_14 kn0) [4, 5] [] [] [I, I, I, I, I, I, O, O, O, O, O, O, O, O, O, O, O, O, O, O, O] [(2, vi .i64 n_3), (4, vp 3 0), (5, vp 4 0), (13, vp 11 0), (60, vb (x_8.2 == x_9.2)), (61, .g [.s 5, .s 6]), (62, .g [.s 8, .s 9])] rfl (by kernel_rfl) (by kernel_rfl) (by kernel_rfl) ?_
           obtain ⟨x_15, e_x_15, hp⟩ := bind_inv hp
           refine SD.all1 (i := 6) (by kernel_rfl) ?_
           refine SW.eff D_13 (i := 6) (bs' := [I, I, I, I, I, I, I, O, O, O, O, O, O, O, O, O, O, O, O, O, O]) rfl (.inr ⟨_, _, _, _, rfl, rfl, rfl, hg_14⟩) rfl (e_c Tryd.call12 (ok_wirelessref39_SameFlash F x_8.1 x_9.1 _ e_x_15) [.g 5, .g 6, .g 8, .g 9] [.g [.s 5, .s 6], .g [.s 8, .s 9]] (vb x_15) (by kernel_rfl) (.inl rfl)) (by kernel_rfl) rfl (by kernel_rfl) ?_
           refine SD.takes tk D_13 [(60, true)] (knS rfl hg_14 kn0) [7, 8] [] [] [I, I, I, I, I, I, I, I, I, O, O, O, O, O, O, O, O, O, O, O, O] [(2, vi .i64 n_3), (4, vp 3 0), (5, vp 4 0), (13, vp 11 0), (65, vb x_15)] rfl (by kernel_rfl) (by kernel_rfl) (by kernel_rfl) ?_
           rcases Bool.eq_false_or_eq_true (x_15) with hg_16 | hg_16
           · replace hp := if_t hp hg_16
             refine SD.takes tk D_13 [(65, true)] (knS rfl hg_16 kn0) [9, 11, 12, 14, 15, 16] [] [] [I, I, I, I, I, I, I, I, I, I, O, I, I, O, I, I, I, O, O, O, O] [(65, vb x_15), (66, .g [.s 0, .s 1]), (68, .g (C_api_Write ({ w_2 with Bytes := x_10 }) (.s 12))), (69, vi .i64 n_3), (71, .g [.s 0, .s 1]), (72, .g (C_api_Write w_2 (.s 2))), (73, vi .i64 n_3)] rfl (by kernel_rfl) (by kernel_rfl) (by kernel_rfl) ?_
             obtain ⟨x_17, e_x_17, hp⟩ := bind_inv hp
             refine SD.all1 (i := 10) (by kernel_rfl) ?_
             refine SW.eff D_13 (i := 10) (bs' := [I, I, I, I, I, I, I, I, I, I, I, I, I, O, I, I, I, O, O, O, O]) rfl (.inr ⟨_, _, _, _, rfl, rfl, rfl, hg_16⟩) rfl (e_c Tryd.call14 (ok_wirelessref39_Copy F f_1 _ e_x_17) [.g 0, .g 1] [.g [.s 0, .s 1]] (.g [.s 13, .s 14]) (by kernel_rfl) (.inl rfl)) (by kernel_rfl) rfl (by kernel_rfl) ?_
             refine SD.norm (itsN := [.rd 1 R8 f_1.Banks.1, .rd 1 R8 f_1.Banks.2, .rd 1 R8 w_2.Bytes, .blk 25 [.s 0, .s 1], .blk 27 (C_api_Write w_2 (.s 2)), .rd 1 R8 x_8.1.Banks.1, .rd 1 R8 x_8.1.Banks.2, .blk 25 [.s 5, .s 6], .rd 1 R8 x_9.1.Banks.1, .rd 1 R8 x_9.1.Banks.2, .blk 25 [.s 8, .s 9], .blk 27 (C_api_Write ({ w_2 with Bytes := x_10 }) (.s 12)), .rd 1 R8 x_10, .own 1 5 R8 x_17.Banks.1, .own 1 5 R8 x_17.Banks.2]) (by kernel_rfl) ?_
             obtain ⟨x_18, e_x_18, hp⟩ := bind_inv hp
             refine SD.pre (pre_frz (i := 13) (sz := 1) (E := 5) (R := R8) (l := x_17.Banks.1) (by kernel_rfl)) ?_
             refine SD.pre (pre_frz (i := 14) (sz := 1) (E := 5) (R := R8) (l := x_17.Banks.2) (by kernel_rfl)) ?_
             refine SD.all1 (i := 13) (by kernel_rfl) ?_
             refine SW.eff D_13 (i := 13) (bs' := [I, I, I, I, I, I, I, I, I, I, I, I, I, I, I, I, I, O, O, O, O]) rfl (.inr ⟨_, _, _, _, rfl, rfl, rfl, hg_16⟩) rfl (e_c Tryd.call13 (ok_flash_Apply F x_17 ({ w_2 with Bytes := x_10 }) n_3 _ e_x_18) [.g 13, .g 14, .g 12] [.g [.s 13, .s 14], .g (C_api_Write ({ w_2 with Bytes := x_10 }) (.s 12)), vi .i64 n_3] (.g [.s 15, .s 16]) (by kernel_rfl) (.inl rfl)) (by kernel_rfl) rfl (by kernel_rfl) ?_
             obtain ⟨x_19, e_x_19, hp⟩ := bind_inv hp
             refine SD.all1 (i := 17) (by kernel_rfl) ?_
             refine SW.eff D_13 (i := 17) (bs' := [I, I, I, I, I, I, I, I, I, I, I, I, I, I, I, I, I, I, O, O, O]) rfl (.inr ⟨_, _, _, _, rfl, rfl, rfl, hg_16⟩) rfl (e_c Tryd.call15 (ok_wirelessref39_Apply F f_1 w_2 n_3 _ e_x_19) [.g 0, .g 1, .g 2] [.g [.s 0, .s 1], .g (C_api_Write w_2 (.s 2)), vi .i64 n_3] (.g [.s 17, .s 18]) (by kernel_rfl) (.inl rfl)) (by kernel_rfl) rfl (by kernel_rfl) ?_
             refine SD.norm (itsN := [.rd 1 R8 f_1.Banks.1, .rd 1 R8 f_1.Banks.2, .rd 1 R8 w_2.Bytes, .blk 25 [.s 0, .s 1], .blk 27 (C_api_Write w_2 (.s 2)), .rd 1 R8 x_8.1.Banks.1, .rd 1 R8 x_8.1.Banks.2, .blk 25 [.s 5, .s 6], .rd 1 R8 x_9.1.Banks.1, .rd 1 R8 x_9.1.Banks.2, .blk 25 [.s 8, .s 9], .blk 27 (C_api_Write ({ w_2 with Bytes := x_10 }) (.s 12)), .rd 1 R8 x_10, .rd 1 R8 x_17.Banks.1, .rd 1 R8 x_17.Banks.2, .rd 1 R8 x_18.Banks.1, .rd 1 R8 x_18.Banks.2, .rd 1 R8 x_19.Banks.1, .rd 1 R8 x_19.Banks.2]) (by kernel_rfl) ?_
             obtain ⟨x_20, e_x_20, hp⟩ := bind_inv hp
             refine SD.all1 (i := 18) (by kernel_rfl) ?_
             refine SW.eff D_13 (i := 18) (bs' := [I, I, I, I, I, I, I, I, I, I, I, I, I, I, I, I, I, I, I, O, O]) rfl (.inr ⟨_, _, _, _, rfl, rfl, rfl, hg_16⟩) rfl (e_c Tryd.call12 (ok_wirelessref39_SameFlash F x_18 x_19 _ e_x_20) [.g 15, .g 16, .g 17, .g 18] [.g [.s 15, .s 16], .g [.s 17, .s 18]] (vb x_20) (by kernel_rfl) (.inl rfl)) (by kernel_rfl) rfl (by kernel_rfl) ?_
             refine SD.takes tk D_13 [(65, true)] (knS rfl hg_16 kn0) [19, 20] [] [] [I, I, I, I, I, I, I, I, I, I, I, I, I, I, I, I, I, I, I, I, I] [(8, vb x_20)] rfl (by kernel_rfl) (by kernel_rfl) (by kernel_rfl) ?_
             refine SD.done (by kernel_rfl) fun a w h => ?_
             exact ⟨x_20, hp, h.at (js := [.g 0, .g 1, .g 2]) (by kernel_rfl)⟩
           · replace hp := if_f hp hg_16
             refine SD.takes tk D_13 [(65, false)] (knS rfl hg_16 kn0) [9, 10, 11, 12, 13, 14, 15, 16, 17, 18, 19, 20] [] [] [I, I, I, I, I, I, I, I, I, I, I, I, I, I, I, I, I, I, I, I, I] [(8, vb false)] rfl (by kernel_rfl) (by kernel_rfl) (by kernel_rfl) ?_
             refine SD.done (by kernel_rfl) fun a w h => ?_
             exact ⟨false, hp, h.at (js := [.g 0, .g 1, .g 2]) (by kernel_rfl)⟩
         · replace hp := if_f hp hg_14
           refine SD.takes tk D_13 [(60, false)] (knS rfl hg_14 kn0) [4, 5, 6, 7, 8] [] [] [I, I, I, I, I, I, I, I, I, O, O, O, O, O, O, O, O, O, O, O, O] [(2, vi .i64 n_3), (4, vp 3 0), (5, vp 4 0), (13, vp 11 0), (65, vb false)] rfl (by kernel_rfl) (by kernel_rfl) (by kernel_rfl) ?_
           refine SD.takes tk D_13 [(65, false)] (knS rfl rfl kn0) [9, 10, 11, 12, 13, 14, 15, 16, 17, 18, 19, 20] [] [] [I, I, I, I, I, I, I, I, I, I, I, I, I, I, I, I, I, I, I, I, I] [(8, vb false)] rfl (by kernel_rfl) (by kernel_rfl) (by kernel_rfl) ?_
           refine SD.done (by kernel_rfl) fun a w h => ?_
           exact ⟨false, hp, h.at (js := [.g 0, .g 1, .g 2]) (by kernel_rfl)⟩
       · rintro a w ⟨z_11, hp, h⟩
         refine h.go ?_
         obtain rfl := some_inv' hp
         exact SC.re (js := [.g 0, .g 1, .g 2]) tk (by kernel_rfl)
end V
end Go.Proofs.YtojcklkcjnnkaaaDoor
