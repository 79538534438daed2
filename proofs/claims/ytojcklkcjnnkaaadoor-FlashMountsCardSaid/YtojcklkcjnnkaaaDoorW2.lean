/-
  Walks, written by program: each Go function returns what its pure twin says.
-/
import Derived.Test.YtojcklkcjnnkaaaDoorW1
namespace Go.Proofs.YtojcklkcjnnkaaaDoor
namespace V
theorem ok_wirelessref39_Get (F : Nat) (s_1 : T_api_Store) (key_2 : Int) (r : (List Int) × Bool) (hp : wirelessref39_Get F s_1 key_2 = some r) : Spec Tryd.prog 20 [.g (C_api_Store s_1 (.s 0) (.s 1) (.s 2)), vi .u16 key_2] [.rd 1 R8 s_1.Flash.Banks.1, .rd 1 R8 s_1.Flash.Banks.2, .rd 2 R_T_api_Item s_1.Items] (.u [.inl (.s 3), .inl (cb r.2)]) [.gone, .gone, .gone, .rd 1 R8 r.1] := by
 refine Spec.enter Tryd.func20 rfl Tryd.ntmps20 rfl rfl fun fx => ?_
 refine SC.seq ?_
 refine SC.reg ?_
 refine SL.eff (e_box (E := 40) (C_api_Store s_1 (.s 0) (.s 1) (.s 2)) (by kernel_rfl)) rfl (by kernel_rfl) ?_
 refine SL.sim tk 2 [(1, vi .u16 key_2), (2, vp 3 0)] [] [] [] (by kernel_rfl) ?_
 refine SL.nilThen ?_
 refine SC.cut (fun a w => wirelessref39_Get_j1 F = some r ∧ A 30 3 fx [] [.gone, .gone, .gone] a w) ?_ ?_
 · refine SC.r tk [(1, vi .u16 key_2), (2, vp 3 0), (6, vi .i64 0)] [] [] [] (by kernel_rfl) ?_
   refine SC.block ?_
   obtain ⟨o1, hi1, ho1⟩ := bind_inv hp
   clear hp
   refine SC.loop (fun n a w => ∃ (x_3 : Int), iter (fun s => wirelessref39_Get_l1 F s_1 key_2 s) n (x_3) = some o1 ∧ A 30 3 fx [(1, vi .u16 key_2), (2, vp 3 0), (6, vi .i64 x_3)] [.rd 1 R8 s_1.Flash.Banks.1, .rd 1 R8 s_1.Flash.Banks.2, .rd 2 R_T_api_Item s_1.Items, .blk 40 (C_api_Store s_1 (.s 0) (.s 1) (.s 2))] a w) F (fun a w h => ⟨0, hi1, h.at (js := [.g 0, .g 1, .g 2, .g 3]) (by kernel_rfl)⟩) ?_
   rintro n1 a w ⟨x_3, hi1, h⟩
   obtain ⟨n1, q1, rfl, hp, hs1⟩ := iter_inv hi1
   replace hp : wirelessref39_Get_l1 F s_1 key_2 x_3 = some q1 := hp
   clear hi1
   refine h.go ?_
   refine SC.seq ?_
   refine SC.r tk [(1, vi .u16 key_2), (2, vp 3 0), (6, vi .i64 x_3), (11, vb (decide (x_3 < (len s_1.Items))))] [] [] [] (by kernel_rfl) ?_
   refine SC.if' rfl hp (fun hp => ?_) (fun hp => ?_)
   · refine SC.skipThen ?_
     refine SC.seq ?_
     refine SC.block ?_
     obtain ⟨x_4, e_x_4, hp⟩ := bind_inv hp
     refine SC.pre (pre_ix (i := 2) (iv := x_3) (sz := 2) (R := R_T_api_Item) (l := s_1.Items) (by kernel_rfl) rfl e_x_4) ?_
     refine SC.r tk [(1, vi .u16 key_2), (2, vp 3 0), (6, vi .i64 x_3), (21, vb (x_4.Key == key_2))] [] [.el 4] [x_3] (by kernel_rfl) ?_
     refine SC.if' rfl hp (fun hp => ?_) (fun hp => ?_)
     · refine SC.seq ?_
       refine SC.reg ?_
       refine SL.eff (e_lit (sz := 1) (E := 5) (R := R8) (by_ := 1) tk [] ([] : (List Int)) (by kernel_rfl) trivial rfl (by kernel_rfl) (by kernel_rfl)) rfl (by kernel_rfl) ?_
       obtain ⟨x_5, e_x_5, hp⟩ := bind_inv hp
       refine SL.pre (pre_ix (i := 2) (iv := x_3) (sz := 2) (R := R_T_api_Item) (l := s_1.Items) (by kernel_rfl) rfl e_x_5) ?_
       refine SL.sim tk 6 [(22, vs 6), (28, vs 8)] [] [.el 7] [x_3] (by kernel_rfl) ?_
       obtain ⟨l_6, e_l_6, hp⟩ := bind_inv hp
       refine SL.eff (e_app (i := 6) (l := ([] : (List Int))) (sz := 1) (E := 5) (R := R8) (by_ := 1) (m := x_5.Value) tk rfl (by kernel_rfl) rfl (.r (by kernel_rfl)) e_l_6 (by kernel_rfl)) rfl (by kernel_rfl) ?_
       refine SL.norm (itsN := [.rd 1 R8 s_1.Flash.Banks.1, .rd 1 R8 s_1.Flash.Banks.2, .rd 2 R_T_api_Item s_1.Items, .blk 40 (C_api_Store s_1 (.s 0) (.s 1) (.s 2)), .elt (some (2, x_3)) false [ci .u16 x_4.Key, .s 5], .rd 1 R8 x_4.Value, .gone, .elt (some (2, x_3)) false [ci .u16 x_5.Key, .s 8], .rd 1 R8 x_5.Value, .own 1 5 R8 l_6]) (by kernel_rfl) ?_
       refine SL.sim tk 2 [(4, vs 9), (5, vb true)] [] [] [] (by kernel_rfl) ?_
       refine SL.nilThen ?_
       have ho := done_inv hp hs1
       replace hp := ho1
       try rw [ho] at hp
       obtain rfl := some_inv' hp
       exact SC.re (js := [.g 0, .g 1, .g 2, .z 9]) tk (by kernel_rfl)
     · refine SC.skipThen ?_
       refine SC.reg ?_
       refine SL.sim tk 3 [(1, vi .u16 key_2), (2, vp 3 0), (6, vi .i64 (w64 (x_3 + 1)))] [] [] [] (by kernel_rfl) ?_
       refine SL.nilJ fun a w h => ?_
       exact ⟨n1, Nat.lt_succ_self _, w64 (x_3 + 1), next_inv hp hs1, h.at (js := [.g 0, .g 1, .g 2, .g 3]) (by kernel_rfl)⟩
   · refine SC.exitJ rfl fun a w h => ?_
     have ho := done_inv hp hs1
     replace hp := ho1
     try rw [ho] at hp
     exact ⟨hp, h.at (js := [.g 0, .g 1, .g 2]) (by kernel_rfl)⟩
 · rintro a w ⟨hp, h⟩
   refine h.go ?_
   refine SC.r tk [(4, vn), (5, vb false)] [] [] [] (by kernel_rfl) ?_
   obtain rfl := some_inv' hp
   exact SC.re (js := [.g 0, .g 1, .g 2, .n]) tk (by kernel_rfl)

theorem ok_wirelesslaw39_FlashMounts (F : Nat) (f_1 : T_api_Flash) (key_2 : Int) (r : Bool) (hp : wirelesslaw39_FlashMounts F f_1 key_2 = some r) : Spec Tryd.prog 4 [.g [.s 0, .s 1], vi .u16 key_2] [.rd 1 R8 f_1.Banks.1, .rd 1 R8 f_1.Banks.2] (vb r) [.gone, .gone] := by
 refine Spec.enter Tryd.func4 rfl Tryd.ntmps4 rfl rfl fun fx => ?_
 refine SC.seq ?_
 refine SC.reg ?_
 refine SL.eff (e_box (E := 25) [.s 0, .s 1] (by kernel_rfl)) rfl (by kernel_rfl) ?_
 refine SL.sim tk 1 [(1, vi .u16 key_2), (2, vp 2 0)] [] [] [] (by kernel_rfl) ?_
 refine SL.nilThen ?_
 refine SC.seq ?_
 refine SC.seq ?_
 refine SC.reg ?_
 obtain ⟨x_3, e_x_3, hp⟩ := bind_inv hp
 refine SL.eff (e_c Tryd.call8 (ok_wirelesslaw39_lives F  _ e_x_3) [] [] (vb x_3) (by kernel_rfl) (.inl rfl)) rfl (by kernel_rfl) ?_
 refine SL.sim tk 1 [(1, vi .u16 key_2), (2, vp 2 0), (14, vb (!x_3))] [] [] [] (by kernel_rfl) ?_
 refine SL.nilThen ?_
 refine SC.if' rfl hp (fun hp => ?_) (fun hp => ?_)
 · refine SC.r tk [(4, vb false)] [] [] [] (by kernel_rfl) ?_
   obtain rfl := some_inv' hp
   exact SC.re (js := [.g 0, .g 1]) tk (by kernel_rfl)
 · refine SC.skipThen ?_
   refine SC.seq ?_
   refine SC.seq ?_
   refine SC.reg ?_
   refine SL.sim tk 1 [(1, vi .u16 key_2), (2, vp 2 0), (15, vp 2 0)] [] [] [] (by kernel_rfl) ?_
   refine SL.eff (e_ixa (off := 0) (T := 25) (cs := [.s 0, .s 1]) tk rfl rfl (by kernel_rfl) (by kernel_rfl)) rfl (by kernel_rfl) ?_
   refine SL.norm (itsN := [.rd 1 R8 f_1.Banks.1, .rd 1 R8 f_1.Banks.2, .blk 25 [.s 0, .s 1]]) (by kernel_rfl) ?_
   refine SL.sim tk 4 [(1, vi .u16 key_2), (2, vp 2 0), (20, vb (decide ((len f_1.Banks.1) > 4096)))] [] [] [] (by kernel_rfl) ?_
   obtain ⟨z_5, hz, hpr⟩ := bind_inv hp
   clear hp
   refine SL.cutAt 6 (fun a w => A 83 2 fx [(1, vi .u16 key_2), (2, vp 2 0), (26, vb z_5)] [.rd 1 R8 f_1.Banks.1, .rd 1 R8 f_1.Banks.2, .blk 25 [.s 0, .s 1]] a w) ?_ ?_
   · have hp := hz
     rcases Bool.eq_false_or_eq_true (decide ((len f_1.Banks.1) > 4096)) with hg_4 | hg_4
     · replace hp := if_t hp hg_4
       refine SL.no rfl rfl hg_4 rfl ?_
       refine SL.no rfl rfl hg_4 rfl ?_
       refine SL.no rfl rfl hg_4 rfl ?_
       refine SL.no rfl rfl hg_4 rfl ?_
       refine SL.no rfl rfl hg_4 rfl ?_
       refine SL.pickt rfl hg_4 rfl rfl ?_
       refine SL.nilJ fun a w h => ?_
       obtain rfl := some_inv' hp
       exact h.at (js := [.g 0, .g 1, .g 2]) (by kernel_rfl)
     · replace hp := if_f hp hg_4
       refine SL.yes rfl rfl hg_4 ?_
       refine SL.sim tk 1 [(1, vi .u16 key_2), (2, vp 2 0), (20, vb (decide ((len f_1.Banks.1) > 4096))), (21, vp 2 0)] [] [] [] (by kernel_rfl) ?_
       refine SL.yes rfl rfl hg_4 ?_
       refine SL.eff (e_ixa (off := 1) (T := 25) (cs := [.s 0, .s 1]) tk rfl rfl (by kernel_rfl) (by kernel_rfl)) rfl (by kernel_rfl) ?_
       refine SL.yes rfl rfl hg_4 ?_
       refine SL.sim tk 1 [(1, vi .u16 key_2), (2, vp 2 0), (20, vb (decide ((len f_1.Banks.1) > 4096))), (23, vs 1)] [] [] [] (by kernel_rfl) ?_
       refine SL.yes rfl rfl hg_4 ?_
       refine SL.sim tk 1 [(1, vi .u16 key_2), (2, vp 2 0), (20, vb (decide ((len f_1.Banks.1) > 4096))), (24, vi .i64 (len f_1.Banks.2))] [] [] [] (by kernel_rfl) ?_
       refine SL.yes rfl rfl hg_4 ?_
       refine SL.sim tk 1 [(1, vi .u16 key_2), (2, vp 2 0), (20, vb (decide ((len f_1.Banks.1) > 4096))), (25, vb (decide ((len f_1.Banks.2) > 4096)))] [] [] [] (by kernel_rfl) ?_
       refine SL.pickf rfl hg_4 rfl rfl ?_
       refine SL.nilJ fun a w h => ?_
       obtain rfl := some_inv' hp
       exact h.at (js := [.g 0, .g 1, .g 2]) (by kernel_rfl)
   · intro a w h
     have hp := hpr; clear hpr hz
     refine h.goL ?_
     refine SL.nilThen ?_
     refine SC.if' rfl hp (fun hp => ?_) (fun hp => ?_)
     · refine SC.r tk [(4, vb true)] [] [] [] (by kernel_rfl) ?_
       obtain rfl := some_inv' hp
       exact SC.re (js := [.g 0, .g 1]) tk (by kernel_rfl)
     · refine SC.skipThen ?_
       refine SC.seq ?_
       refine SC.reg ?_
       refine SL.sim tk 1 [(1, vi .u16 key_2), (2, vp 2 0), (28, .g [.s 0, .s 1])] [] [] [] (by kernel_rfl) ?_
       obtain ⟨x_6, e_x_6, hp⟩ := bind_inv hp
       refine SL.eff (e_c Tryd.call14 (ok_wirelessref39_Copy F f_1 _ e_x_6) [.g 0, .g 1] [.g [.s 0, .s 1]] (.g [.s 3, .s 4]) (by kernel_rfl) (.inl rfl)) rfl (by kernel_rfl) ?_
       obtain ⟨x_7, e_x_7, hp⟩ := bind_inv hp
       refine SL.eff (e_c Tryd.call16 (ok_flash_Mount F x_6 _ e_x_7) [.g 3, .g 4] [.g [.s 3, .s 4]] (.u [.inr (C_api_Store x_7.1 (.s 5) (.s 6) (.s 7)), .inl (ci .i64 x_7.2)]) (by kernel_rfl) (.inl rfl)) rfl (by kernel_rfl) ?_
       refine SL.norm (itsN := [.rd 1 R8 f_1.Banks.1, .rd 1 R8 f_1.Banks.2, .blk 25 [.s 0, .s 1], .rd 1 R8 x_6.Banks.1, .rd 1 R8 x_6.Banks.2, .rd 1 R8 x_7.1.Flash.Banks.1, .rd 1 R8 x_7.1.Flash.Banks.2, .rd 2 R_T_api_Item x_7.1.Items]) (by kernel_rfl) ?_
       refine SL.sim tk 3 [(1, vi .u16 key_2), (2, vp 2 0), (31, .g (C_api_Store x_7.1 (.s 5) (.s 6) (.s 7))), (32, vi .i64 x_7.2)] [] [] [] (by kernel_rfl) ?_
       refine SL.eff (e_alloc (E := 40) tk [nl, nl, ci .i64 0, ci .i64 0, ci .i64 0, nl] (by kernel_rfl)) rfl (by kernel_rfl) ?_
       refine SL.sim tk 2 [(1, vi .u16 key_2), (2, vp 2 0), (5, vp 8 0), (6, vi .i64 x_7.2)] [(8, 40, (C_api_Store x_7.1 (.s 5) (.s 6) (.s 7)))] [] [] (by kernel_rfl) ?_
       refine SL.nilThen ?_
       refine SC.seq ?_
       refine SC.reg ?_
       refine SL.sim tk 1 [(1, vi .u16 key_2), (2, vp 2 0), (5, vp 8 0), (6, vi .i64 x_7.2), (34, .g [.s 0, .s 1])] [] [] [] (by kernel_rfl) ?_
       obtain ⟨x_8, e_x_8, hp⟩ := bind_inv hp
       refine SL.eff (e_c Tryd.call17 (ok_wirelessref39_Mount F f_1 _ e_x_8) [.g 0, .g 1] [.g [.s 0, .s 1]] (.u [.inr (C_api_Store x_8.1 (.s 9) (.s 10) (.s 11)), .inl (ci .i64 x_8.2)]) (by kernel_rfl) (.inl rfl)) rfl (by kernel_rfl) ?_
       refine SL.norm (itsN := [.rd 1 R8 f_1.Banks.1, .rd 1 R8 f_1.Banks.2, .blk 25 [.s 0, .s 1], .rd 1 R8 x_6.Banks.1, .rd 1 R8 x_6.Banks.2, .rd 1 R8 x_7.1.Flash.Banks.1, .rd 1 R8 x_7.1.Flash.Banks.2, .rd 2 R_T_api_Item x_7.1.Items, .blk 40 (C_api_Store x_7.1 (.s 5) (.s 6) (.s 7)), .rd 1 R8 x_8.1.Flash.Banks.1, .rd 1 R8 x_8.1.Flash.Banks.2, .rd 2 R_T_api_Item x_8.1.Items]) (by kernel_rfl) ?_
       refine SL.sim tk 3 [(1, vi .u16 key_2), (2, vp 2 0), (5, vp 8 0), (6, vi .i64 x_7.2), (36, .g (C_api_Store x_8.1 (.s 9) (.s 10) (.s 11))), (37, vi .i64 x_8.2)] [] [] [] (by kernel_rfl) ?_
       refine SL.eff (e_alloc (E := 40) tk [nl, nl, ci .i64 0, ci .i64 0, ci .i64 0, nl] (by kernel_rfl)) rfl (by kernel_rfl) ?_
       refine SL.sim tk 2 [(1, vi .u16 key_2), (2, vp 2 0), (5, vp 8 0), (6, vi .i64 x_7.2), (7, vp 12 0), (8, vi .i64 x_8.2)] [(12, 40, (C_api_Store x_8.1 (.s 9) (.s 10) (.s 11)))] [] [] (by kernel_rfl) ?_
       refine SL.nilThen ?_
       refine SC.seq ?_
       refine SC.seq ?_
       refine SC.reg ?_
       refine SL.sim tk 4 [(1, vi .u16 key_2), (2, vp 2 0), (5, vp 8 0), (6, vi .i64 x_7.2), (7, vp 12 0), (41, vb (x_7.2 != x_8.2))] [] [] [] (by kernel_rfl) ?_
       obtain ⟨z_10, hz, hpr⟩ := bind_inv hp
       clear hp
       refine SL.cutAt 5 (fun a w => A 83 2 fx [(1, vi .u16 key_2), (2, vp 2 0), (5, vp 3 0), (6, vi .i64 x_7.2), (7, vp 7 0), (46, vb z_10)] [.rd 1 R8 f_1.Banks.1, .rd 1 R8 f_1.Banks.2, .blk 25 [.s 0, .s 1], .blk 40 (C_api_Store x_7.1 (.s 4) (.s 5) (.s 6)), .rd 1 R8 x_7.1.Flash.Banks.1, .rd 1 R8 x_7.1.Flash.Banks.2, .rd 2 R_T_api_Item x_7.1.Items, .blk 40 (C_api_Store x_8.1 (.s 8) (.s 9) (.s 10)), .rd 1 R8 x_8.1.Flash.Banks.1, .rd 1 R8 x_8.1.Flash.Banks.2, .rd 2 R_T_api_Item x_8.1.Items] a w) ?_ ?_
       · have hp := hz
         rcases Bool.eq_false_or_eq_true ((x_7.2 != x_8.2)) with hg_9 | hg_9
         · replace hp := if_t hp hg_9
           refine SL.no rfl rfl hg_9 rfl ?_
           refine SL.no rfl rfl hg_9 rfl ?_
           refine SL.no rfl rfl hg_9 rfl ?_
           refine SL.no rfl rfl hg_9 rfl ?_
           refine SL.pickt rfl hg_9 rfl rfl ?_
           refine SL.nilJ fun a w h => ?_
           obtain rfl := some_inv' hp
           exact h.at (js := [.g 0, .g 1, .g 2, .g 8, .g 5, .g 6, .g 7, .g 12, .g 9, .g 10, .g 11]) (by kernel_rfl)
         · replace hp := if_f hp hg_9
           refine SL.yes rfl rfl hg_9 ?_
           refine SL.sim tk 1 [(1, vi .u16 key_2), (2, vp 2 0), (5, vp 8 0), (6, vi .i64 x_7.2), (7, vp 12 0), (41, vb (x_7.2 != x_8.2)), (42, .g (C_api_Store x_7.1 (.s 5) (.s 6) (.s 7)))] [] [] [] (by kernel_rfl) ?_
           refine SL.yes rfl rfl hg_9 ?_
           refine SL.sim tk 1 [(1, vi .u16 key_2), (2, vp 2 0), (5, vp 8 0), (6, vi .i64 x_7.2), (7, vp 12 0), (41, vb (x_7.2 != x_8.2)), (42, .g (C_api_Store x_7.1 (.s 5) (.s 6) (.s 7))), (43, .g (C_api_Store x_8.1 (.s 9) (.s 10) (.s 11)))] [] [] [] (by kernel_rfl) ?_
           refine SL.yes rfl rfl hg_9 ?_
           obtain ⟨x_3859, e_x_3859, hp⟩ := bind_inv hp
           refine SL.eff (e_c Tryd.call18 (ok_wirelessref39_Same F x_7.1 x_8.1 _ e_x_3859) [.g 5, .g 6, .g 7, .g 9, .g 10, .g 11] [.g (C_api_Store x_7.1 (.s 5) (.s 6) (.s 7)), .g (C_api_Store x_8.1 (.s 9) (.s 10) (.s 11))] (vb x_3859) (by kernel_rfl) (.inl rfl)) rfl (by kernel_rfl) ?_
           refine SL.norm (itsN := [.rd 1 R8 f_1.Banks.1, .rd 1 R8 f_1.Banks.2, .blk 25 [.s 0, .s 1], .rd 1 R8 x_6.Banks.1, .rd 1 R8 x_6.Banks.2, .rd 1 R8 x_7.1.Flash.Banks.1, .rd 1 R8 x_7.1.Flash.Banks.2, .rd 2 R_T_api_Item x_7.1.Items, .blk 40 (C_api_Store x_7.1 (.s 5) (.s 6) (.s 7)), .rd 1 R8 x_8.1.Flash.Banks.1, .rd 1 R8 x_8.1.Flash.Banks.2, .rd 2 R_T_api_Item x_8.1.Items, .blk 40 (C_api_Store x_8.1 (.s 9) (.s 10) (.s 11))]) (by kernel_rfl) ?_
           refine SL.yes rfl rfl hg_9 ?_
           refine SL.sim tk 1 [(1, vi .u16 key_2), (2, vp 2 0), (5, vp 8 0), (6, vi .i64 x_7.2), (7, vp 12 0), (41, vb (x_7.2 != x_8.2)), (45, vb (!x_3859))] [] [] [] (by kernel_rfl) ?_
           refine SL.pickf rfl hg_9 rfl rfl ?_
           refine SL.nilJ fun a w h => ?_
           obtain rfl := some_inv' hp
           exact h.at (js := [.g 0, .g 1, .g 2, .g 8, .g 5, .g 6, .g 7, .g 12, .g 9, .g 10, .g 11]) (by kernel_rfl)
       · intro a w h
         have hp := hpr; clear hpr hz
         refine h.goL ?_
         refine SL.nilThen ?_
         refine SC.if' rfl hp (fun hp => ?_) (fun hp => ?_)
         · refine SC.r tk [(4, vb false)] [] [] [] (by kernel_rfl) ?_
           obtain rfl := some_inv' hp
           exact SC.re (js := [.g 0, .g 1]) tk (by kernel_rfl)
         · refine SC.skipThen ?_
           refine SC.seq ?_
           refine SC.r tk [(1, vi .u16 key_2), (2, vp 2 0), (5, vp 3 0), (7, vp 7 0), (48, vb (x_7.2 != 0))] [] [] [] (by kernel_rfl) ?_
           refine SC.if' rfl hp (fun hp => ?_) (fun hp => ?_)
           · refine SC.r tk [(4, vb true)] [] [] [] (by kernel_rfl) ?_
             obtain rfl := some_inv' hp
             exact SC.re (js := [.g 0, .g 1]) tk (by kernel_rfl)
           · refine SC.skipThen ?_
             refine SC.seq ?_
             refine SC.reg ?_
             refine SL.sim tk 2 [(1, vi .u16 key_2), (2, vp 2 0), (5, vp 3 0), (7, vp 7 0), (50, .g (C_api_Store x_7.1 (.s 4) (.s 5) (.s 6))), (51, vi .u16 key_2)] [] [] [] (by kernel_rfl) ?_
             obtain ⟨x_11, e_x_11, hp⟩ := bind_inv hp
             refine SL.eff (e_c Tryd.call19 (ok_flash_Get F x_7.1 key_2 _ e_x_11) [.g 4, .g 5, .g 6] [.g (C_api_Store x_7.1 (.s 4) (.s 5) (.s 6)), vi .u16 key_2] (.u [.inl (.s 11), .inl (cb x_11.2)]) (by kernel_rfl) (.inl rfl)) rfl (by kernel_rfl) ?_
             refine SL.sim tk 5 [(1, vi .u16 key_2), (2, vp 2 0), (5, vp 3 0), (7, vp 7 0), (9, vs 11), (10, vb x_11.2)] [] [] [] (by kernel_rfl) ?_
             refine SL.nilThen ?_
             refine SC.seq ?_
             refine SC.reg ?_
             refine SL.sim tk 2 [(2, vp 2 0), (5, vp 3 0), (7, vp 7 0), (9, vs 11), (10, vb x_11.2), (56, .g (C_api_Store x_8.1 (.s 8) (.s 9) (.s 10))), (57, vi .u16 key_2)] [] [] [] (by kernel_rfl) ?_
             obtain ⟨x_12, e_x_12, hp⟩ := bind_inv hp
             refine SL.eff (e_c Tryd.call20 (ok_wirelessref39_Get F x_8.1 key_2 _ e_x_12) [.g 8, .g 9, .g 10] [.g (C_api_Store x_8.1 (.s 8) (.s 9) (.s 10)), vi .u16 key_2] (.u [.inl (.s 12), .inl (cb x_12.2)]) (by kernel_rfl) (.inl rfl)) rfl (by kernel_rfl) ?_
             refine SL.norm (itsN := [.rd 1 R8 f_1.Banks.1, .rd 1 R8 f_1.Banks.2, .blk 25 [.s 0, .s 1], .blk 40 (C_api_Store x_7.1 (.s 4) (.s 5) (.s 6)), .rd 1 R8 x_7.1.Flash.Banks.1, .rd 1 R8 x_7.1.Flash.Banks.2, .rd 2 R_T_api_Item x_7.1.Items, .blk 40 (C_api_Store x_8.1 (.s 8) (.s 9) (.s 10)), .rd 1 R8 x_8.1.Flash.Banks.1, .rd 1 R8 x_8.1.Flash.Banks.2, .rd 2 R_T_api_Item x_8.1.Items, .rd 1 R8 x_11.1, .rd 1 R8 x_12.1]) (by kernel_rfl) ?_
             refine SL.sim tk 5 [(2, vp 2 0), (5, vp 3 0), (7, vp 7 0), (9, vs 11), (10, vb x_11.2), (11, vs 12), (12, vb x_12.2)] [] [] [] (by kernel_rfl) ?_
             refine SL.nilThen ?_
             refine SC.cut (fun a w => ∃ (z_13 : Bool), wirelesslaw39_FlashMounts_j1 F z_13 = some r ∧ A 83 2 fx [(4, vb z_13)] [.gone, .gone] a w) ?_ ?_
             · refine SC.draw MO [I, I, I, I, I, I, I, I, I, I, I, I, I] (by kernel_rfl) fun kap_14 D_15 => ?_
               refine SD.takes tk D_15 [] kn0 [0, 1, 2, 3] [] [] [I, I, I, I, O, O, O, O, O, O, O, O, O, O, O, O, O, O, O, O, O, O, O] [(2, vp 2 0), (5, vp 3 0), (7, vp 7 0), (9, vs 11), (11, vs 12), (64, vb (x_11.2 == x_12.2))] rfl (by kernel_rfl) (by kernel_rfl) (by kernel_rfl) ?_
               rcases Bool.eq_false_or_eq_true ((x_11.2 == x_12.2)) with hg_16 | hg_16
               · replace hp := if_t hp hg_16
                 refine SD.takes tk D_15 [(64, true)] (knS rfl hg_16 kn0) [4, 6] [] [] [I, I, I, I, I, O, I, O, O, O, O, O, O, O, O, O, O, O, O, O, O, O, O] [(2, vp 2 0), (5, vp 3 0), (7, vp 7 0), (64, vb (x_11.2 == x_12.2)), (65, vs 11), (67, vs 12)] rfl (by kernel_rfl) (by kernel_rfl) (by kernel_rfl) ?_
                 refine SD.lay 12 [I, I, I, I, I, I, I, I, I, I, I, O, O, O, O, O, O, O, O, O, O, O, O] [(2, vp 2 0), (5, vp 3 0), (7, vp 7 0), (71, vb ((str x_11.1) == (str x_12.1)))] [.rd 1 R8 f_1.Banks.1, .rd 1 R8 f_1.Banks.2, .blk 25 [.s 0, .s 1], .blk 40 (C_api_Store x_7.1 (.s 4) (.s 5) (.s 6)), .rd 1 R8 x_7.1.Flash.Banks.1, .rd 1 R8 x_7.1.Flash.Banks.2, .rd 2 R_T_api_Item x_7.1.Items, .blk 40 (C_api_Store x_8.1 (.s 8) (.s 9) (.s 10)), .rd 1 R8 x_8.1.Flash.Banks.1, .rd 1 R8 x_8.1.Flash.Banks.2, .rd 2 R_T_api_Item x_8.1.Items, .rd 1 R8 x_11.1, .rd 1 R8 x_12.1] ?_ (fun c_16_0 => ?_)
                 · rcases Bool.eq_false_or_eq_true (((str x_11.1) == (str x_12.1))) with hg_1937 | hg_1937
                   · replace hp := if_t hp hg_1937
                     refine SD.takes tk D_15 [(71, true)] (knS rfl hg_1937 kn0) [11, 13, 17, 18] [] [] [I, I, I, I, I, I, I, I, I, I, I, I, O, I, O, O, O, I, I, O, O, O, O] [(71, vb ((str x_11.1) == (str x_12.1))), (72, .g (C_api_Store x_7.1 (.s 4) (.s 5) (.s 6))), (74, vp 2 0), (79, vi .i64 x_8.1.End)] rfl (by kernel_rfl) (by kernel_rfl) (by kernel_rfl) ?_
                     obtain ⟨x_2898, e_x_2898, hp⟩ := bind_inv hp
                     refine SD.lay 0 [I, I, I, I, I, I, I, I, I, I, I, I, I, I, I, I, I, I, I, I, I, I, I] [(4, vb (x_2898 == (w64 ((len f_1.Banks.1) - x_8.1.End))))] [.rd 1 R8 f_1.Banks.1, .rd 1 R8 f_1.Banks.2, .blk 25 [.s 0, .s 1], .blk 40 (C_api_Store x_7.1 (.s 4) (.s 5) (.s 6)), .rd 1 R8 x_7.1.Flash.Banks.1, .rd 1 R8 x_7.1.Flash.Banks.2, .rd 2 R_T_api_Item x_7.1.Items, .blk 40 (C_api_Store x_8.1 (.s 8) (.s 9) (.s 10)), .rd 1 R8 x_8.1.Flash.Banks.1, .rd 1 R8 x_8.1.Flash.Banks.2, .rd 2 R_T_api_Item x_8.1.Items, .rd 1 R8 x_11.1, .rd 1 R8 x_12.1] ?_ (fun c_1937_0 => ?_)
                     · refine SD.done (by kernel_rfl) fun a w h => ?_
                       exact ⟨(x_2898 == (w64 ((len f_1.Banks.1) - x_8.1.End))), hp, h.at (js := [.g 0, .g 1]) (by kernel_rfl)⟩
                     · refine SD.lay 7 [I, I, I, I, I, I, I, I, I, I, I, I, I, I, O, O, O, I, I, O, O, O, O] [(71, vb ((str x_11.1) == (str x_12.1))), (73, vi .i64 x_2898), (74, vp 2 0), (79, vi .i64 x_8.1.End)] [.rd 1 R8 f_1.Banks.1, .rd 1 R8 f_1.Banks.2, .blk 25 [.s 0, .s 1], .blk 40 (C_api_Store x_7.1 (.s 4) (.s 5) (.s 6)), .rd 1 R8 x_7.1.Flash.Banks.1, .rd 1 R8 x_7.1.Flash.Banks.2, .rd 2 R_T_api_Item x_7.1.Items, .blk 40 (C_api_Store x_8.1 (.s 8) (.s 9) (.s 10)), .rd 1 R8 x_8.1.Flash.Banks.1, .rd 1 R8 x_8.1.Flash.Banks.2, .rd 2 R_T_api_Item x_8.1.Items, .rd 1 R8 x_11.1, .rd 1 R8 x_12.1] ?_ (fun c_1937_1 => ?_)
                       · refine SD.all1 (i := 14) (by kernel_rfl) ?_
                         refine SW.eff D_15 (i := 14) (bs' := [I, I, I, I, I, I, I, I, I, I, I, I, I, I, I, O, O, I, I, O, O, O, O]) rfl (.inr ⟨_, _, _, _, rfl, rfl, rfl, hg_1937⟩) rfl (e_ixa (off := 0) (T := 25) (cs := [.s 0, .s 1]) tk rfl rfl (by kernel_rfl) (by kernel_rfl)) (by kernel_rfl) rfl (by kernel_rfl) ?_
                         refine SD.takes tk D_15 [(71, true)] (knS rfl hg_1937 kn0) [15, 16, 19, 20, 21, 22] [] [] [I, I, I, I, I, I, I, I, I, I, I, I, I, I, I, I, I, I, I, I, I, I, I] [(4, vb (x_2898 == (w64 ((len f_1.Banks.1) - x_8.1.End))))] rfl (by kernel_rfl) (by kernel_rfl) (by kernel_rfl) ?_
                         exact SD.vie D_15 [.g 0, .g 1, .g 2, .g 3, .g 4, .g 5, .g 6, .g 7, .g 8, .g 9, .g 10, .g 11, .g 12] c_1937_0 (by kernel_rfl)
                       · refine SD.lay 4 [I, I, I, I, I, I, I, I, I, I, I, I, O, I, I, I, I, I, I, I, O, O, O] [(71, vb ((str x_11.1) == (str x_12.1))), (72, .g (C_api_Store x_7.1 (.s 4) (.s 5) (.s 6))), (80, vi .i64 (w64 ((len f_1.Banks.1) - x_8.1.End)))] [.rd 1 R8 f_1.Banks.1, .rd 1 R8 f_1.Banks.2, .blk 25 [.s 0, .s 1], .blk 40 (C_api_Store x_7.1 (.s 4) (.s 5) (.s 6)), .rd 1 R8 x_7.1.Flash.Banks.1, .rd 1 R8 x_7.1.Flash.Banks.2, .rd 2 R_T_api_Item x_7.1.Items, .blk 40 (C_api_Store x_8.1 (.s 8) (.s 9) (.s 10)), .rd 1 R8 x_8.1.Flash.Banks.1, .rd 1 R8 x_8.1.Flash.Banks.2, .rd 2 R_T_api_Item x_8.1.Items, .rd 1 R8 x_11.1, .rd 1 R8 x_12.1] ?_ (fun c_1937_2 => ?_)
                         · refine SD.all1 (i := 12) (by kernel_rfl) ?_
                           refine SW.eff D_15 (i := 12) (bs' := [I, I, I, I, I, I, I, I, I, I, I, I, I, I, I, I, I, I, I, I, O, O, O]) rfl (.inr ⟨_, _, _, _, rfl, rfl, rfl, hg_1937⟩) rfl (e_c Tryd.call21 (ok_flash_Free F x_7.1 _ e_x_2898) [.g 4, .g 5, .g 6] [.g (C_api_Store x_7.1 (.s 4) (.s 5) (.s 6))] (vi .i64 x_2898) (by kernel_rfl) (.inl rfl)) (by kernel_rfl) rfl (by kernel_rfl) ?_
                           refine SD.takes tk D_15 [(71, true)] (knS rfl hg_1937 kn0) [20, 21, 22] [] [] [I, I, I, I, I, I, I, I, I, I, I, I, I, I, I, I, I, I, I, I, I, I, I] [(4, vb (x_2898 == (w64 ((len f_1.Banks.1) - x_8.1.End))))] rfl (by kernel_rfl) (by kernel_rfl) (by kernel_rfl) ?_
                           exact SD.vie D_15 [.g 0, .g 1, .g 2, .g 3, .g 4, .g 5, .g 6, .g 7, .g 8, .g 9, .g 10, .g 11, .g 12] c_1937_0 (by kernel_rfl)
                         · refine SD.all2 (i := 12) (j := 14) (by kernel_rfl) ?_ ?_
                           · refine SW.eff D_15 (i := 12) (bs' := [I, I, I, I, I, I, I, I, I, I, I, I, I, I, O, O, O, I, I, O, O, O, O]) rfl (.inr ⟨_, _, _, _, rfl, rfl, rfl, hg_1937⟩) rfl (e_c Tryd.call21 (ok_flash_Free F x_7.1 _ e_x_2898) [.g 4, .g 5, .g 6] [.g (C_api_Store x_7.1 (.s 4) (.s 5) (.s 6))] (vi .i64 x_2898) (by kernel_rfl) (.inl rfl)) (by kernel_rfl) rfl (by kernel_rfl) ?_
                             exact SD.vie D_15 [.g 0, .g 1, .g 2, .g 3, .g 4, .g 5, .g 6, .g 7, .g 8, .g 9, .g 10, .g 11, .g 12] c_1937_1 (by kernel_rfl)
                           · refine SW.eff D_15 (i := 14) (bs' := [I, I, I, I, I, I, I, I, I, I, I, I, O, I, I, O, O, I, I, O, O, O, O]) rfl (.inr ⟨_, _, _, _, rfl, rfl, rfl, hg_1937⟩) rfl (e_ixa (off := 0) (T := 25) (cs := [.s 0, .s 1]) tk rfl rfl (by kernel_rfl) (by kernel_rfl)) (by kernel_rfl) rfl (by kernel_rfl) ?_
                             refine SD.takes tk D_15 [(71, true)] (knS rfl hg_1937 kn0) [15, 16, 19] [] [] [I, I, I, I, I, I, I, I, I, I, I, I, O, I, I, I, I, I, I, I, O, O, O] [(71, vb ((str x_11.1) == (str x_12.1))), (72, .g (C_api_Store x_7.1 (.s 4) (.s 5) (.s 6))), (80, vi .i64 (w64 ((len f_1.Banks.1) - x_8.1.End)))] rfl (by kernel_rfl) (by kernel_rfl) (by kernel_rfl) ?_
                             exact SD.vie D_15 [.g 0, .g 1, .g 2, .g 3, .g 4, .g 5, .g 6, .g 7, .g 8, .g 9, .g 10, .g 11, .g 12] c_1937_2 (by kernel_rfl)
                   · replace hp := if_f hp hg_1937
                     refine SD.takes tk D_15 [(71, false)] (knS rfl hg_1937 kn0) [11, 12, 13, 14, 15, 16, 17, 18, 19, 20, 21, 22] [] [] [I, I, I, I, I, I, I, I, I, I, I, I, I, I, I, I, I, I, I, I, I, I, I] [(4, vb false)] rfl (by kernel_rfl) (by kernel_rfl) (by kernel_rfl) ?_
                     refine SD.done (by kernel_rfl) fun a w h => ?_
                     exact ⟨false, hp, h.at (js := [.g 0, .g 1]) (by kernel_rfl)⟩
                 · refine SD.lay 15 [I, I, I, I, I, I, I, I, O, O, O, O, O, O, O, O, O, O, O, O, O, O, O] [(2, vp 2 0), (5, vp 3 0), (7, vp 7 0), (64, vb (x_11.2 == x_12.2)), (66, vt 13), (68, vt 14)] [.rd 1 R8 f_1.Banks.1, .rd 1 R8 f_1.Banks.2, .blk 25 [.s 0, .s 1], .blk 40 (C_api_Store x_7.1 (.s 4) (.s 5) (.s 6)), .rd 1 R8 x_7.1.Flash.Banks.1, .rd 1 R8 x_7.1.Flash.Banks.2, .rd 2 R_T_api_Item x_7.1.Items, .blk 40 (C_api_Store x_8.1 (.s 8) (.s 9) (.s 10)), .rd 1 R8 x_8.1.Flash.Banks.1, .rd 1 R8 x_8.1.Flash.Banks.2, .rd 2 R_T_api_Item x_8.1.Items, .rd 1 R8 x_11.1, .rd 1 R8 x_12.1, .str (str x_11.1), .str (str x_12.1)] ?_ (fun c_16_1 => ?_)
                   · refine SD.all1 (i := 8) (by kernel_rfl) ?_
                     refine SW.eff D_15 (i := 8) (v := vb ((str x_11.1) == (str x_12.1))) (bs' := [I, I, I, I, I, I, I, I, I, O, O, O, O, O, O, O, O, O, O, O, O, O, O]) rfl (.inr ⟨_, _, _, _, rfl, rfl, rfl, hg_16⟩) rfl (e_val tk (by kernel_rfl)) (by kernel_rfl) rfl (by kernel_rfl) ?_
                     refine SD.takes tk D_15 [(64, true)] (knS rfl hg_16 kn0) [9, 10] [] [] [I, I, I, I, I, I, I, I, I, I, I, O, O, O, O, O, O, O, O, O, O, O, O] [(2, vp 2 0), (5, vp 3 0), (7, vp 7 0), (71, vb ((str x_11.1) == (str x_12.1)))] rfl (by kernel_rfl) (by kernel_rfl) (by kernel_rfl) ?_
                     exact SD.vie D_15 [.g 0, .g 1, .g 2, .g 3, .g 4, .g 5, .g 6, .g 7, .g 8, .g 9, .g 10, .g 11, .g 12] c_16_0 (by kernel_rfl)
                   · refine SD.lay 16 [I, I, I, I, I, I, I, O, O, O, O, O, O, O, O, O, O, O, O, O, O, O, O] [(2, vp 2 0), (5, vp 3 0), (7, vp 7 0), (64, vb (x_11.2 == x_12.2)), (66, vt 13), (67, vs 12)] [.rd 1 R8 f_1.Banks.1, .rd 1 R8 f_1.Banks.2, .blk 25 [.s 0, .s 1], .blk 40 (C_api_Store x_7.1 (.s 4) (.s 5) (.s 6)), .rd 1 R8 x_7.1.Flash.Banks.1, .rd 1 R8 x_7.1.Flash.Banks.2, .rd 2 R_T_api_Item x_7.1.Items, .blk 40 (C_api_Store x_8.1 (.s 8) (.s 9) (.s 10)), .rd 1 R8 x_8.1.Flash.Banks.1, .rd 1 R8 x_8.1.Flash.Banks.2, .rd 2 R_T_api_Item x_8.1.Items, .rd 1 R8 x_11.1, .rd 1 R8 x_12.1, .str (str x_11.1)] ?_ (fun c_16_2 => ?_)
                     · refine SD.all1 (i := 7) (by kernel_rfl) ?_
                       refine SW.eff D_15 (i := 7) (bs' := [I, I, I, I, I, I, I, I, O, O, O, O, O, O, O, O, O, O, O, O, O, O, O]) rfl (.inr ⟨_, _, _, _, rfl, rfl, rfl, hg_16⟩) rfl (e_b2s (l := x_12.1) tk rfl (.r (by kernel_rfl)) (by kernel_rfl)) (by kernel_rfl) rfl (by kernel_rfl) ?_
                       exact SD.vie D_15 [.g 0, .g 1, .g 2, .g 3, .g 4, .g 5, .g 6, .g 7, .g 8, .g 9, .g 10, .g 11, .g 12, .g 13, .g 14] c_16_1 (by kernel_rfl)
                     · refine SD.lay 16 [I, I, I, I, I, O, I, I, O, O, O, O, O, O, O, O, O, O, O, O, O, O, O] [(2, vp 2 0), (5, vp 3 0), (7, vp 7 0), (64, vb (x_11.2 == x_12.2)), (65, vs 11), (68, vt 13)] [.rd 1 R8 f_1.Banks.1, .rd 1 R8 f_1.Banks.2, .blk 25 [.s 0, .s 1], .blk 40 (C_api_Store x_7.1 (.s 4) (.s 5) (.s 6)), .rd 1 R8 x_7.1.Flash.Banks.1, .rd 1 R8 x_7.1.Flash.Banks.2, .rd 2 R_T_api_Item x_7.1.Items, .blk 40 (C_api_Store x_8.1 (.s 8) (.s 9) (.s 10)), .rd 1 R8 x_8.1.Flash.Banks.1, .rd 1 R8 x_8.1.Flash.Banks.2, .rd 2 R_T_api_Item x_8.1.Items, .rd 1 R8 x_11.1, .rd 1 R8 x_12.1, .str (str x_12.1)] ?_ (fun c_16_3 => ?_)
                       · refine SD.all1 (i := 5) (by kernel_rfl) ?_
                         refine SW.eff D_15 (i := 5) (bs' := [I, I, I, I, I, I, I, I, O, O, O, O, O, O, O, O, O, O, O, O, O, O, O]) rfl (.inr ⟨_, _, _, _, rfl, rfl, rfl, hg_16⟩) rfl (e_b2s (l := x_11.1) tk rfl (.r (by kernel_rfl)) (by kernel_rfl)) (by kernel_rfl) rfl (by kernel_rfl) ?_
                         exact SD.vie D_15 [.g 0, .g 1, .g 2, .g 3, .g 4, .g 5, .g 6, .g 7, .g 8, .g 9, .g 10, .g 11, .g 12, .g 14, .g 13] c_16_1 (by kernel_rfl)
                       · refine SD.all2 (i := 5) (j := 7) (by kernel_rfl) ?_ ?_
                         · refine SW.eff D_15 (i := 5) (bs' := [I, I, I, I, I, I, I, O, O, O, O, O, O, O, O, O, O, O, O, O, O, O, O]) rfl (.inr ⟨_, _, _, _, rfl, rfl, rfl, hg_16⟩) rfl (e_b2s (l := x_11.1) tk rfl (.r (by kernel_rfl)) (by kernel_rfl)) (by kernel_rfl) rfl (by kernel_rfl) ?_
                           exact SD.vie D_15 [.g 0, .g 1, .g 2, .g 3, .g 4, .g 5, .g 6, .g 7, .g 8, .g 9, .g 10, .g 11, .g 12, .g 13] c_16_2 (by kernel_rfl)
                         · refine SW.eff D_15 (i := 7) (bs' := [I, I, I, I, I, O, I, I, O, O, O, O, O, O, O, O, O, O, O, O, O, O, O]) rfl (.inr ⟨_, _, _, _, rfl, rfl, rfl, hg_16⟩) rfl (e_b2s (l := x_12.1) tk rfl (.r (by kernel_rfl)) (by kernel_rfl)) (by kernel_rfl) rfl (by kernel_rfl) ?_
                           exact SD.vie D_15 [.g 0, .g 1, .g 2, .g 3, .g 4, .g 5, .g 6, .g 7, .g 8, .g 9, .g 10, .g 11, .g 12, .g 13] c_16_3 (by kernel_rfl)
               · replace hp := if_f hp hg_16
                 refine SD.takes tk D_15 [(64, false)] (knS rfl hg_16 kn0) [4, 5, 6, 7, 8, 9, 10] [] [] [I, I, I, I, I, I, I, I, I, I, I, O, O, O, O, O, O, O, O, O, O, O, O] [(2, vp 2 0), (5, vp 3 0), (7, vp 7 0), (71, vb false)] rfl (by kernel_rfl) (by kernel_rfl) (by kernel_rfl) ?_
                 refine SD.takes tk D_15 [(71, false)] (knS rfl rfl kn0) [11, 12, 13, 14, 15, 16, 17, 18, 19, 20, 21, 22] [] [] [I, I, I, I, I, I, I, I, I, I, I, I, I, I, I, I, I, I, I, I, I, I, I] [(4, vb false)] rfl (by kernel_rfl) (by kernel_rfl) (by kernel_rfl) ?_
                 refine SD.done (by kernel_rfl) fun a w h => ?_
                 exact ⟨false, hp, h.at (js := [.g 0, .g 1]) (by kernel_rfl)⟩
             · rintro a w ⟨z_13, hp, h⟩
               refine h.go ?_
               obtain rfl := some_inv' hp
               exact SC.re (js := [.g 0, .g 1]) tk (by kernel_rfl)
end V
end Go.Proofs.YtojcklkcjnnkaaaDoor
