/-
  Walks, written by program: each Go function returns what its pure twin says.
-/
import Derived.Test.YtndnilndhmalfaaW0
namespace Go.Proofs.Ytndnilndhmalfaa
namespace V
theorem ok_wirelessref23_Num (F : Nat) (b_1 : (List Int)) (at_2 : Int) (size_3 : Int) (r : Int) (hp : wirelessref23_Num F b_1 at_2 size_3 = some r) : Spec Try.prog 37 [vs 0, vi .i64 at_2, vi .i64 size_3] [.rd 1 R8 b_1] (vi .u64 r) [.gone] := by
 refine Spec.enter Try.func37 rfl Try.ntmps37 rfl rfl fun fx => ?_
 refine SC.r tk [(0, vs 0), (1, vi .i64 at_2), (2, vi .i64 size_3)] [] [] [] (by kernel_rfl) ?_
 refine SC.r tk [(0, vs 0), (1, vi .i64 at_2), (2, vi .i64 size_3), (7, vi .u64 0)] [] [] [] (by kernel_rfl) ?_
 refine SC.cut (fun a w => ∃ (x_4 : Int), wirelessref23_Num_j1 F x_4 = some r ∧ A 26 1 fx [(7, vi .u64 x_4)] [.gone] a w) ?_ ?_
 · refine SC.r tk [(0, vs 0), (1, vi .i64 at_2), (7, vi .u64 0), (8, vi .i64 (w64 (size_3 - 1)))] [] [] [] (by kernel_rfl) ?_
   refine SC.block ?_
   obtain ⟨o1, hi1, ho1⟩ := bind_inv hp
   clear hp
   refine SC.loop (fun n a w => ∃ (x_5 : Int) (x_6 : Int), iter (fun s => wirelessref23_Num_l1 F b_1 at_2 s.1 s.2) n (x_5, x_6) = some o1 ∧ A 26 1 fx [(0, vs 0), (1, vi .i64 at_2), (7, vi .u64 x_5), (8, vi .i64 x_6)] [.rd 1 R8 b_1] a w) F (fun a w h => ⟨0, w64 (size_3 - 1), hi1, h.at (js := [.g 0]) (by kernel_rfl)⟩) ?_
   rintro n1 a w ⟨x_5, x_6, hi1, h⟩
   obtain ⟨n1, q1, rfl, hp, hs1⟩ := iter_inv hi1
   replace hp : wirelessref23_Num_l1 F b_1 at_2 x_5 x_6 = some q1 := hp
   clear hi1
   refine h.go ?_
   refine SC.seq ?_
   refine SC.r tk [(0, vs 0), (1, vi .i64 at_2), (7, vi .u64 x_5), (8, vi .i64 x_6), (12, vb (decide (x_6 ≥ 0)))] [] [] [] (by kernel_rfl) ?_
   refine SC.if' rfl hp (fun hp => ?_) (fun hp => ?_)
   · refine SC.skipThen ?_
     refine SC.seq ?_
     refine SC.block ?_
     refine SC.reg ?_
     obtain ⟨x_7, e_x_7, hp⟩ := bind_inv hp
     refine SL.pre (pre_ix (i := 0) (iv := w64 (at_2 + x_6)) (sz := 1) (R := R8) (l := b_1) (by kernel_rfl) rfl e_x_7) ?_
     refine SL.sim tk 11 [(0, vs 0), (1, vi .i64 at_2), (7, vi .u64 (wu64 ((wu64 (x_5 * 256)) + (wu64 x_7)))), (8, vi .i64 x_6)] [] [.el 1] [w64 (at_2 + x_6)] (by kernel_rfl) ?_
     refine SL.nilThen ?_
     refine SC.reg ?_
     refine SL.sim tk 3 [(0, vs 0), (1, vi .i64 at_2), (7, vi .u64 (wu64 ((wu64 (x_5 * 256)) + (wu64 x_7)))), (8, vi .i64 (w64 (x_6 - 1)))] [] [] [] (by kernel_rfl) ?_
     refine SL.nilJ fun a w h => ?_
     exact ⟨n1, Nat.lt_succ_self _, wu64 ((wu64 (x_5 * 256)) + (wu64 x_7)), w64 (x_6 - 1), next_inv hp hs1, h.at (js := [.g 0]) (by kernel_rfl)⟩
   · refine SC.exitJ rfl fun a w h => ?_
     have ho := done_inv hp hs1
     replace hp := ho1
     try rw [ho] at hp
     exact ⟨x_5, hp, h.at (js := [.g 0]) (by kernel_rfl)⟩
 · rintro a w ⟨x_4, hp, h⟩
   refine h.go ?_
   refine SC.r tk [(6, vi .u64 x_4)] [] [] [] (by kernel_rfl) ?_
   obtain rfl := some_inv' hp
   exact SC.re (js := [.g 0]) tk (by kernel_rfl)

theorem ok_wirelessref26_TakeUpdate (F : Nat) (b_1 : (List Int)) (at_2 : Int) (r : T_api_Update) (hp : wirelessref26_TakeUpdate F b_1 at_2 = some r) : Spec Try.prog 50 [vs 0, vi .i64 at_2] [.rd 1 R8 b_1] (.g (C_api_Update (T_api_Update.mk r.WinSize r.WinOffset r.Interval r.Latency r.Timeout))) [.gone] := by
 refine Spec.enter Try.func50 rfl Try.ntmps50 rfl rfl fun fx => ?_
 refine SC.seq ?_
 refine SC.reg ?_
 refine SL.eff (e_alloc (E := 24) tk (C_api_Update (T_api_Update.mk 0 0 0 0 0)) (by kernel_rfl)) rfl (by kernel_rfl) ?_
 refine SL.nilThen ?_
 refine SC.seq ?_
 refine SC.reg ?_
 refine SL.sim tk 2 [(0, vs 0), (1, vi .i64 at_2), (4, vp 1 0), (5, vs 0), (6, vi .i64 at_2)] [] [] [] (by kernel_rfl) ?_
 obtain ⟨x_3, e_x_3, hp⟩ := bind_inv hp
 refine SL.eff (e_c Try.call37 (ok_wirelessref23_Num F b_1 at_2 1 _ e_x_3) [.g 0] [vs 0, vi .i64 at_2, vi .i64 1] (vi .u64 x_3) (by kernel_rfl) (.inl rfl)) rfl (by kernel_rfl) ?_
 refine SL.sim tk 4 [(0, vs 0), (1, vi .i64 at_2), (4, vp 1 0), (8, vi .i64 (w64 x_3)), (9, vs 0), (11, vi .i64 (w64 (at_2 + 1)))] [] [] [] (by kernel_rfl) ?_
 obtain ⟨x_4, e_x_4, hp⟩ := bind_inv hp
 refine SL.eff (e_c Try.call37 (ok_wirelessref23_Num F b_1 (w64 (at_2 + 1)) 2 _ e_x_4) [.g 0] [vs 0, vi .i64 (w64 (at_2 + 1)), vi .i64 2] (vi .u64 x_4) (by kernel_rfl) (.inl rfl)) rfl (by kernel_rfl) ?_
 refine SL.norm (itsN := [.rd 1 R8 b_1, .blk 24 (C_api_Update (T_api_Update.mk 0 0 0 0 0))]) (by kernel_rfl) ?_
 refine SL.sim tk 4 [(0, vs 0), (1, vi .i64 at_2), (4, vp 1 0), (8, vi .i64 (w64 x_3)), (13, vi .i64 (w64 x_4)), (14, vs 0), (16, vi .i64 (w64 (at_2 + 3)))] [] [] [] (by kernel_rfl) ?_
 obtain ⟨x_5, e_x_5, hp⟩ := bind_inv hp
 refine SL.eff (e_c Try.call37 (ok_wirelessref23_Num F b_1 (w64 (at_2 + 3)) 2 _ e_x_5) [.g 0] [vs 0, vi .i64 (w64 (at_2 + 3)), vi .i64 2] (vi .u64 x_5) (by kernel_rfl) (.inl rfl)) rfl (by kernel_rfl) ?_
 refine SL.sim tk 4 [(0, vs 0), (1, vi .i64 at_2), (4, vp 1 0), (8, vi .i64 (w64 x_3)), (13, vi .i64 (w64 x_4)), (18, vi .i64 (w64 x_5)), (19, vs 0), (21, vi .i64 (w64 (at_2 + 5)))] [] [] [] (by kernel_rfl) ?_
 obtain ⟨x_6, e_x_6, hp⟩ := bind_inv hp
 refine SL.eff (e_c Try.call37 (ok_wirelessref23_Num F b_1 (w64 (at_2 + 5)) 2 _ e_x_6) [.g 0] [vs 0, vi .i64 (w64 (at_2 + 5)), vi .i64 2] (vi .u64 x_6) (by kernel_rfl) (.inl rfl)) rfl (by kernel_rfl) ?_
 refine SL.norm (itsN := [.rd 1 R8 b_1, .blk 24 (C_api_Update (T_api_Update.mk 0 0 0 0 0))]) (by kernel_rfl) ?_
 refine SL.sim tk 4 [(4, vp 1 0), (8, vi .i64 (w64 x_3)), (13, vi .i64 (w64 x_4)), (18, vi .i64 (w64 x_5)), (23, vi .i64 (w64 x_6)), (24, vs 0), (26, vi .i64 (w64 (at_2 + 7)))] [] [] [] (by kernel_rfl) ?_
 obtain ⟨x_7, e_x_7, hp⟩ := bind_inv hp
 refine SL.eff (e_c Try.call37 (ok_wirelessref23_Num F b_1 (w64 (at_2 + 7)) 2 _ e_x_7) [.g 0] [vs 0, vi .i64 (w64 (at_2 + 7)), vi .i64 2] (vi .u64 x_7) (by kernel_rfl) (.inl rfl)) rfl (by kernel_rfl) ?_
 refine SL.sim tk 3 [(4, vp 1 0)] [(1, 24, (C_api_Update (T_api_Update.mk (w64 x_3) (w64 x_4) (w64 x_5) (w64 x_6) (w64 x_7))))] [] [] (by kernel_rfl) ?_
 refine SL.nilThen ?_
 obtain rfl := some_inv' hp
 exact SC.re (js := [.g 0]) tk (by kernel_rfl)

theorem ok_wirelessref34_taken (F : Nat) (s_1 : T_api_Signal) (b_2 : (List Int)) (r : T_api_Signal) (hp : wirelessref34_taken F s_1 b_2 = some r) : Spec Try.prog 38 [.g (C_api_Signal s_1), vs 0] [.rd 1 R8 b_2] (.g (C_api_Signal (T_api_Signal.mk r.Kind r.ID r.PSM r.Source r.Dest r.MTU r.MPS r.Credits r.Result (T_api_Update.mk r.Update.WinSize r.Update.WinOffset r.Update.Interval r.Update.Latency r.Update.Timeout)))) [.gone] := by
 refine Spec.enter Try.func38 rfl Try.ntmps38 rfl rfl fun fx => ?_
 refine SC.seq ?_
 refine SC.reg ?_
 refine SL.eff (e_box (E := 26) (C_api_Signal s_1) (by kernel_rfl)) rfl (by kernel_rfl) ?_
 refine SL.eff (e_alloc (E := 26) tk (C_api_Signal (T_api_Signal.mk 0 0 0 0 0 0 0 0 0 (T_api_Update.mk 0 0 0 0 0))) (by kernel_rfl)) rfl (by kernel_rfl) ?_
 refine SL.nilThen ?_
 refine SC.seq ?_
 refine SC.reg ?_
 refine SL.sim tk 2 [(1, vs 0), (2, vp 1 0), (4, vp 2 0), (8, vi .i64 s_1.Kind)] [] [] [] (by kernel_rfl) ?_
 obtain ⟨x_3, e_x_3, hp⟩ := bind_inv hp
 refine SL.eff (e_c Try.call25 (ok_wirelessref34_Fields F s_1.Kind _ e_x_3) [] [vi .i64 s_1.Kind] (.g (C_wirelessref34_Uses x_3)) (by kernel_rfl) (.inl rfl)) rfl (by kernel_rfl) ?_
 refine SL.norm (itsN := [.rd 1 R8 b_2, .blk 26 (C_api_Signal s_1), .blk 26 (C_api_Signal (T_api_Signal.mk 0 0 0 0 0 0 0 0 0 (T_api_Update.mk 0 0 0 0 0)))]) (by kernel_rfl) ?_
 refine SL.eff (e_alloc (E := 44) tk [cb false, cb false, cb false, cb false, cb false, cb false, cb false, cb false] (by kernel_rfl)) rfl (by kernel_rfl) ?_
 refine SL.sim tk 1 [(1, vs 0), (2, vp 1 0), (4, vp 2 0), (5, vp 3 0)] [(3, 44, (C_wirelessref34_Uses x_3))] [] [] (by kernel_rfl) ?_
 refine SL.nilThen ?_
 refine SC.r tk [(1, vs 0), (2, vp 1 0), (4, vp 2 0), (5, vp 3 0), (6, vi .i64 4)] [] [] [] (by kernel_rfl) ?_
 refine SC.cut (fun a w => ∃ (x_4 : Int) (x_5 : Int), wirelessref34_taken_j1 F s_1 b_2 x_3 x_4 x_5 = some r ∧ A 75 1 fx [(1, vs 0), (2, vp 1 0), (4, vp 2 0), (5, vp 3 0), (6, vi .i64 x_5)] [.rd 1 R8 b_2, .blk 26 (C_api_Signal ({ s_1 with PSM := x_4 })), .blk 26 (C_api_Signal (T_api_Signal.mk 0 0 0 0 0 0 0 0 0 (T_api_Update.mk 0 0 0 0 0))), .blk 44 (C_wirelessref34_Uses x_3)] a w) ?_ ?_
 · refine SC.r tk [(1, vs 0), (2, vp 1 0), (4, vp 2 0), (5, vp 3 0), (6, vi .i64 4), (11, vb x_3.PSM)] [] [] [] (by kernel_rfl) ?_
   refine SC.if' rfl hp (fun hp => ?_) (fun hp => ?_)
   · refine SC.seq ?_
     refine SC.reg ?_
     refine SL.sim tk 2 [(1, vs 0), (2, vp 1 0), (4, vp 2 0), (5, vp 3 0), (6, vi .i64 4), (12, vs 0), (13, vi .i64 4)] [] [] [] (by kernel_rfl) ?_
     obtain ⟨x_30, e_x_30, hp⟩ := bind_inv hp
     refine SL.eff (e_c Try.call37 (ok_wirelessref23_Num F b_2 4 2 _ e_x_30) [.g 0] [vs 0, vi .i64 4, vi .i64 2] (vi .u64 x_30) (by kernel_rfl) (.inl rfl)) rfl (by kernel_rfl) ?_
     refine SL.norm (itsN := [.rd 1 R8 b_2, .blk 26 (C_api_Signal s_1), .blk 26 (C_api_Signal (T_api_Signal.mk 0 0 0 0 0 0 0 0 0 (T_api_Update.mk 0 0 0 0 0))), .blk 44 (C_wirelessref34_Uses x_3)]) (by kernel_rfl) ?_
     refine SL.sim tk 3 [(1, vs 0), (2, vp 1 0), (4, vp 2 0), (5, vp 3 0), (6, vi .i64 4)] [(1, 26, (C_api_Signal ({ s_1 with PSM := wu16 x_30 })))] [] [] (by kernel_rfl) ?_
     refine SL.nilThen ?_
     refine SC.reg ?_
     refine SL.sim tk 3 [(1, vs 0), (2, vp 1 0), (4, vp 2 0), (5, vp 3 0), (6, vi .i64 (w64 (4 + 2)))] [] [] [] (by kernel_rfl) ?_
     refine SL.nilJ fun a w h => ?_
     exact ⟨wu16 x_30, w64 (4 + 2), hp, h.at (js := [.g 0, .g 1, .g 2, .g 3]) (by kernel_rfl)⟩
   · refine SC.skipJ fun a w h => ?_
     exact ⟨s_1.PSM, 4, hp, h.at (js := [.g 0, .g 1, .g 2, .g 3]) (by kernel_rfl)⟩
 · rintro a w ⟨x_4, x_5, hp, h⟩
   refine h.go ?_
   refine SC.cut (fun a w => ∃ (x_6 : Int) (x_7 : Int), wirelessref34_taken_j2 F s_1 b_2 x_3 x_4 x_6 x_7 = some r ∧ A 75 1 fx [(1, vs 0), (2, vp 1 0), (4, vp 2 0), (5, vp 3 0), (6, vi .i64 x_7)] [.rd 1 R8 b_2, .blk 26 (C_api_Signal ({ s_1 with PSM := x_4, Source := x_6 })), .blk 26 (C_api_Signal (T_api_Signal.mk 0 0 0 0 0 0 0 0 0 (T_api_Update.mk 0 0 0 0 0))), .blk 44 (C_wirelessref34_Uses x_3)] a w) ?_ ?_
   · refine SC.r tk [(1, vs 0), (2, vp 1 0), (4, vp 2 0), (5, vp 3 0), (6, vi .i64 x_5), (20, vb x_3.Source)] [] [] [] (by kernel_rfl) ?_
     refine SC.if' rfl hp (fun hp => ?_) (fun hp => ?_)
     · refine SC.seq ?_
       refine SC.reg ?_
       refine SL.sim tk 2 [(1, vs 0), (2, vp 1 0), (4, vp 2 0), (5, vp 3 0), (6, vi .i64 x_5), (21, vs 0), (22, vi .i64 x_5)] [] [] [] (by kernel_rfl) ?_
       obtain ⟨x_29, e_x_29, hp⟩ := bind_inv hp
       refine SL.eff (e_c Try.call37 (ok_wirelessref23_Num F b_2 x_5 2 _ e_x_29) [.g 0] [vs 0, vi .i64 x_5, vi .i64 2] (vi .u64 x_29) (by kernel_rfl) (.inl rfl)) rfl (by kernel_rfl) ?_
       refine SL.sim tk 3 [(1, vs 0), (2, vp 1 0), (4, vp 2 0), (5, vp 3 0), (6, vi .i64 x_5)] [(1, 26, (C_api_Signal ({ s_1 with PSM := x_4, Source := wu16 x_29 })))] [] [] (by kernel_rfl) ?_
       refine SL.nilThen ?_
       refine SC.reg ?_
       refine SL.sim tk 3 [(1, vs 0), (2, vp 1 0), (4, vp 2 0), (5, vp 3 0), (6, vi .i64 (w64 (x_5 + 2)))] [] [] [] (by kernel_rfl) ?_
       refine SL.nilJ fun a w h => ?_
       exact ⟨wu16 x_29, w64 (x_5 + 2), hp, h.at (js := [.g 0, .g 1, .g 2, .g 3]) (by kernel_rfl)⟩
     · refine SC.skipJ fun a w h => ?_
       exact ⟨s_1.Source, x_5, hp, h.at (js := [.g 0, .g 1, .g 2, .g 3]) (by kernel_rfl)⟩
   · rintro a w ⟨x_6, x_7, hp, h⟩
     refine h.go ?_
     refine SC.cut (fun a w => ∃ (x_8 : Int) (x_9 : Int), wirelessref34_taken_j3 F s_1 b_2 x_3 x_4 x_6 x_8 x_9 = some r ∧ A 75 1 fx [(1, vs 0), (2, vp 1 0), (4, vp 2 0), (5, vp 3 0), (6, vi .i64 x_9)] [.rd 1 R8 b_2, .blk 26 (C_api_Signal ({ s_1 with PSM := x_4, Source := x_6, Dest := x_8 })), .blk 26 (C_api_Signal (T_api_Signal.mk 0 0 0 0 0 0 0 0 0 (T_api_Update.mk 0 0 0 0 0))), .blk 44 (C_wirelessref34_Uses x_3)] a w) ?_ ?_
     · refine SC.r tk [(1, vs 0), (2, vp 1 0), (4, vp 2 0), (5, vp 3 0), (6, vi .i64 x_7), (29, vb x_3.Dest)] [] [] [] (by kernel_rfl) ?_
       refine SC.if' rfl hp (fun hp => ?_) (fun hp => ?_)
       · refine SC.seq ?_
         refine SC.reg ?_
         refine SL.sim tk 2 [(1, vs 0), (2, vp 1 0), (4, vp 2 0), (5, vp 3 0), (6, vi .i64 x_7), (30, vs 0), (31, vi .i64 x_7)] [] [] [] (by kernel_rfl) ?_
         obtain ⟨x_28, e_x_28, hp⟩ := bind_inv hp
         refine SL.eff (e_c Try.call37 (ok_wirelessref23_Num F b_2 x_7 2 _ e_x_28) [.g 0] [vs 0, vi .i64 x_7, vi .i64 2] (vi .u64 x_28) (by kernel_rfl) (.inl rfl)) rfl (by kernel_rfl) ?_
         refine SL.sim tk 3 [(1, vs 0), (2, vp 1 0), (4, vp 2 0), (5, vp 3 0), (6, vi .i64 x_7)] [(1, 26, (C_api_Signal ({ s_1 with PSM := x_4, Source := x_6, Dest := wu16 x_28 })))] [] [] (by kernel_rfl) ?_
         refine SL.nilThen ?_
         refine SC.reg ?_
         refine SL.sim tk 3 [(1, vs 0), (2, vp 1 0), (4, vp 2 0), (5, vp 3 0), (6, vi .i64 (w64 (x_7 + 2)))] [] [] [] (by kernel_rfl) ?_
         refine SL.nilJ fun a w h => ?_
         exact ⟨wu16 x_28, w64 (x_7 + 2), hp, h.at (js := [.g 0, .g 1, .g 2, .g 3]) (by kernel_rfl)⟩
       · refine SC.skipJ fun a w h => ?_
         exact ⟨s_1.Dest, x_7, hp, h.at (js := [.g 0, .g 1, .g 2, .g 3]) (by kernel_rfl)⟩
     · rintro a w ⟨x_8, x_9, hp, h⟩
       refine h.go ?_
       refine SC.cut (fun a w => ∃ (c_12 : T_api_Signal) (x_13 : Int), wirelessref34_taken_j4 F s_1 b_2 x_3 x_4 x_6 x_8 c_12 x_13 = some r ∧ A 75 1 fx [(1, vs 0), (2, vp 1 0), (4, vp 2 0), (5, vp 3 0), (6, vi .i64 x_13)] [.rd 1 R8 b_2, .blk 26 (C_api_Signal ({ s_1 with PSM := x_4, Source := x_6, Dest := x_8, MTU := c_12.MTU, MPS := c_12.MPS })), .blk 26 (C_api_Signal (T_api_Signal.mk 0 0 0 0 0 0 0 0 0 (T_api_Update.mk 0 0 0 0 0))), .blk 44 (C_wirelessref34_Uses x_3)] a w) ?_ ?_
       · refine SC.r tk [(1, vs 0), (2, vp 1 0), (4, vp 2 0), (5, vp 3 0), (6, vi .i64 x_9), (38, vb x_3.Sizes)] [] [] [] (by kernel_rfl) ?_
         refine SC.if' rfl hp (fun hp => ?_) (fun hp => ?_)
         · refine SC.seq ?_
           refine SC.reg ?_
           refine SL.sim tk 2 [(1, vs 0), (2, vp 1 0), (4, vp 2 0), (5, vp 3 0), (6, vi .i64 x_9), (39, vs 0), (40, vi .i64 x_9)] [] [] [] (by kernel_rfl) ?_
           obtain ⟨x_26, e_x_26, hp⟩ := bind_inv hp
           refine SL.eff (e_c Try.call37 (ok_wirelessref23_Num F b_2 x_9 2 _ e_x_26) [.g 0] [vs 0, vi .i64 x_9, vi .i64 2] (vi .u64 x_26) (by kernel_rfl) (.inl rfl)) rfl (by kernel_rfl) ?_
           refine SL.sim tk 3 [(1, vs 0), (2, vp 1 0), (4, vp 2 0), (5, vp 3 0), (6, vi .i64 x_9)] [(1, 26, (C_api_Signal ({ s_1 with PSM := x_4, Source := x_6, Dest := x_8, MTU := w64 x_26 })))] [] [] (by kernel_rfl) ?_
           refine SL.nilThen ?_
           refine SC.seq ?_
           refine SC.reg ?_
           refine SL.sim tk 3 [(1, vs 0), (2, vp 1 0), (4, vp 2 0), (5, vp 3 0), (6, vi .i64 x_9), (44, vs 0), (46, vi .i64 (w64 (x_9 + 2)))] [] [] [] (by kernel_rfl) ?_
           obtain ⟨x_27, e_x_27, hp⟩ := bind_inv hp
           refine SL.eff (e_c Try.call37 (ok_wirelessref23_Num F b_2 (w64 (x_9 + 2)) 2 _ e_x_27) [.g 0] [vs 0, vi .i64 (w64 (x_9 + 2)), vi .i64 2] (vi .u64 x_27) (by kernel_rfl) (.inl rfl)) rfl (by kernel_rfl) ?_
           refine SL.norm (itsN := [.rd 1 R8 b_2, .blk 26 (C_api_Signal ({ s_1 with PSM := x_4, Source := x_6, Dest := x_8, MTU := w64 x_26 })), .blk 26 (C_api_Signal (T_api_Signal.mk 0 0 0 0 0 0 0 0 0 (T_api_Update.mk 0 0 0 0 0))), .blk 44 (C_wirelessref34_Uses x_3)]) (by kernel_rfl) ?_
           refine SL.sim tk 3 [(1, vs 0), (2, vp 1 0), (4, vp 2 0), (5, vp 3 0), (6, vi .i64 x_9)] [(1, 26, (C_api_Signal ({ s_1 with PSM := x_4, Source := x_6, Dest := x_8, MTU := w64 x_26, MPS := w64 x_27 })))] [] [] (by kernel_rfl) ?_
           refine SL.nilThen ?_
           refine SC.reg ?_
           refine SL.sim tk 3 [(1, vs 0), (2, vp 1 0), (4, vp 2 0), (5, vp 3 0), (6, vi .i64 (w64 (x_9 + 4)))] [] [] [] (by kernel_rfl) ?_
           refine SL.nilJ fun a w h => ?_
           exact ⟨{ s_1 with PSM := x_4, Source := x_6, Dest := x_8, MTU := w64 x_26, MPS := w64 x_27 }, w64 (x_9 + 4), hp, h.at (js := [.g 0, .g 1, .g 2, .g 3]) (by kernel_rfl)⟩
         · refine SC.skipJ fun a w h => ?_
           exact ⟨{ s_1 with PSM := x_4, Source := x_6, Dest := x_8 }, x_9, hp, h.at (js := [.g 0, .g 1, .g 2, .g 3]) (by kernel_rfl)⟩
       · rintro a w ⟨c_12, x_13, hp, h⟩
         refine h.go ?_
         refine SC.cut (fun a w => ∃ (x_14 : Int) (x_15 : Int), wirelessref34_taken_j5 F s_1 b_2 x_3 x_4 x_6 x_8 c_12 x_14 x_15 = some r ∧ A 75 1 fx [(1, vs 0), (2, vp 1 0), (4, vp 2 0), (5, vp 3 0), (6, vi .i64 x_15)] [.rd 1 R8 b_2, .blk 26 (C_api_Signal ({ s_1 with PSM := x_4, Source := x_6, Dest := x_8, MTU := c_12.MTU, MPS := c_12.MPS, Credits := x_14 })), .blk 26 (C_api_Signal (T_api_Signal.mk 0 0 0 0 0 0 0 0 0 (T_api_Update.mk 0 0 0 0 0))), .blk 44 (C_wirelessref34_Uses x_3)] a w) ?_ ?_
         · refine SC.r tk [(1, vs 0), (2, vp 1 0), (4, vp 2 0), (5, vp 3 0), (6, vi .i64 x_13), (53, vb x_3.Credits)] [] [] [] (by kernel_rfl) ?_
           refine SC.if' rfl hp (fun hp => ?_) (fun hp => ?_)
           · refine SC.seq ?_
             refine SC.reg ?_
             refine SL.sim tk 2 [(1, vs 0), (2, vp 1 0), (4, vp 2 0), (5, vp 3 0), (6, vi .i64 x_13), (54, vs 0), (55, vi .i64 x_13)] [] [] [] (by kernel_rfl) ?_
             obtain ⟨x_25, e_x_25, hp⟩ := bind_inv hp
             refine SL.eff (e_c Try.call37 (ok_wirelessref23_Num F b_2 x_13 2 _ e_x_25) [.g 0] [vs 0, vi .i64 x_13, vi .i64 2] (vi .u64 x_25) (by kernel_rfl) (.inl rfl)) rfl (by kernel_rfl) ?_
             refine SL.sim tk 3 [(1, vs 0), (2, vp 1 0), (4, vp 2 0), (5, vp 3 0), (6, vi .i64 x_13)] [(1, 26, (C_api_Signal ({ s_1 with PSM := x_4, Source := x_6, Dest := x_8, MTU := c_12.MTU, MPS := c_12.MPS, Credits := w64 x_25 })))] [] [] (by kernel_rfl) ?_
             refine SL.nilThen ?_
             refine SC.reg ?_
             refine SL.sim tk 3 [(1, vs 0), (2, vp 1 0), (4, vp 2 0), (5, vp 3 0), (6, vi .i64 (w64 (x_13 + 2)))] [] [] [] (by kernel_rfl) ?_
             refine SL.nilJ fun a w h => ?_
             exact ⟨w64 x_25, w64 (x_13 + 2), hp, h.at (js := [.g 0, .g 1, .g 2, .g 3]) (by kernel_rfl)⟩
           · refine SC.skipJ fun a w h => ?_
             exact ⟨s_1.Credits, x_13, hp, h.at (js := [.g 0, .g 1, .g 2, .g 3]) (by kernel_rfl)⟩
         · rintro a w ⟨x_14, x_15, hp, h⟩
           refine h.go ?_
           refine SC.cut (fun a w => ∃ (x_16 : Int), wirelessref34_taken_j6 F s_1 b_2 x_3 x_4 x_6 x_8 c_12 x_14 x_15 x_16 = some r ∧ A 75 1 fx [(1, vs 0), (2, vp 1 0), (4, vp 2 0), (5, vp 3 0), (6, vi .i64 x_15)] [.rd 1 R8 b_2, .blk 26 (C_api_Signal ({ s_1 with PSM := x_4, Source := x_6, Dest := x_8, MTU := c_12.MTU, MPS := c_12.MPS, Credits := x_14, Result := x_16 })), .blk 26 (C_api_Signal (T_api_Signal.mk 0 0 0 0 0 0 0 0 0 (T_api_Update.mk 0 0 0 0 0))), .blk 44 (C_wirelessref34_Uses x_3)] a w) ?_ ?_
           · refine SC.r tk [(1, vs 0), (2, vp 1 0), (4, vp 2 0), (5, vp 3 0), (6, vi .i64 x_15), (62, vb x_3.Result)] [] [] [] (by kernel_rfl) ?_
             refine SC.if' rfl hp (fun hp => ?_) (fun hp => ?_)
             · refine SC.reg ?_
               refine SL.sim tk 2 [(1, vs 0), (2, vp 1 0), (4, vp 2 0), (5, vp 3 0), (6, vi .i64 x_15), (63, vs 0), (64, vi .i64 x_15)] [] [] [] (by kernel_rfl) ?_
               obtain ⟨x_24, e_x_24, hp⟩ := bind_inv hp
               refine SL.eff (e_c Try.call37 (ok_wirelessref23_Num F b_2 x_15 2 _ e_x_24) [.g 0] [vs 0, vi .i64 x_15, vi .i64 2] (vi .u64 x_24) (by kernel_rfl) (.inl rfl)) rfl (by kernel_rfl) ?_
               refine SL.sim tk 3 [(1, vs 0), (2, vp 1 0), (4, vp 2 0), (5, vp 3 0), (6, vi .i64 x_15)] [(1, 26, (C_api_Signal ({ s_1 with PSM := x_4, Source := x_6, Dest := x_8, MTU := c_12.MTU, MPS := c_12.MPS, Credits := x_14, Result := w64 x_24 })))] [] [] (by kernel_rfl) ?_
               refine SL.nilJ fun a w h => ?_
               exact ⟨w64 x_24, hp, h.at (js := [.g 0, .g 1, .g 2, .g 3]) (by kernel_rfl)⟩
             · refine SC.skipJ fun a w h => ?_
               exact ⟨s_1.Result, hp, h.at (js := [.g 0, .g 1, .g 2, .g 3]) (by kernel_rfl)⟩
           · rintro a w ⟨x_16, hp, h⟩
             refine h.go ?_
             refine SC.cut (fun a w => ∃ (c_22 : T_api_Signal), wirelessref34_taken_j7 F s_1 x_4 x_6 x_8 c_12 x_14 x_16 c_22 = some r ∧ A 75 1 fx [(2, vp 1 0), (4, vp 2 0)] [.gone, .blk 26 (C_api_Signal ({ c_12 with Kind := s_1.Kind, ID := s_1.ID, PSM := x_4, Source := x_6, Dest := x_8, Credits := x_14, Result := x_16, Update := c_22.Update })), .blk 26 (C_api_Signal (T_api_Signal.mk 0 0 0 0 0 0 0 0 0 (T_api_Update.mk 0 0 0 0 0)))] a w) ?_ ?_
             · refine SC.r tk [(1, vs 0), (2, vp 1 0), (4, vp 2 0), (6, vi .i64 x_15), (69, vb x_3.Update)] [] [] [] (by kernel_rfl) ?_
               refine SC.if' rfl hp (fun hp => ?_) (fun hp => ?_)
               · refine SC.reg ?_
                 refine SL.sim tk 2 [(2, vp 1 0), (4, vp 2 0), (70, vs 0), (71, vi .i64 x_15)] [] [] [] (by kernel_rfl) ?_
                 obtain ⟨x_23, e_x_23, hp⟩ := bind_inv hp
                 refine SL.eff (e_c Try.call50 (ok_wirelessref26_TakeUpdate F b_2 x_15 _ e_x_23) [.g 0] [vs 0, vi .i64 x_15] (.g (C_api_Update x_23)) (by kernel_rfl) (.inl rfl)) rfl (by kernel_rfl) ?_
                 refine SL.sim tk 2 [(2, vp 1 0), (4, vp 2 0)] [(1, 26, (C_api_Signal ({ c_12 with Kind := s_1.Kind, ID := s_1.ID, PSM := x_4, Source := x_6, Dest := x_8, Credits := x_14, Result := x_16, Update := x_23 })))] [] [] (by kernel_rfl) ?_
                 refine SL.nilJ fun a w h => ?_
                 exact ⟨{ c_12 with Kind := s_1.Kind, ID := s_1.ID, PSM := x_4, Source := x_6, Dest := x_8, Credits := x_14, Result := x_16, Update := x_23 }, hp, h.at (js := [.g 0, .g 1, .g 2]) (by kernel_rfl)⟩
               · refine SC.skipJ fun a w h => ?_
                 exact ⟨{ s_1 with PSM := x_4, Source := x_6, Dest := x_8, MTU := c_12.MTU, MPS := c_12.MPS, Credits := x_14, Result := x_16 }, hp, h.at (js := [.g 0, .g 1, .g 2]) (by kernel_rfl)⟩
             · rintro a w ⟨c_22, hp, h⟩
               refine h.go ?_
               refine SC.r tk [(4, vp 2 0)] [(2, 26, (C_api_Signal ({ c_12 with Kind := s_1.Kind, ID := s_1.ID, PSM := x_4, Source := x_6, Dest := x_8, Credits := x_14, Result := x_16, Update := c_22.Update })))] [] [] (by kernel_rfl) ?_
               obtain rfl := some_inv' hp
               exact SC.re (js := [.g 0]) tk (by kernel_rfl)

theorem ok_wirelessref34_Decode (F : Nat) (b_1 : (List Int)) (r : T_api_Signal × Int) (hp : wirelessref34_Decode F b_1 = some r) : Spec Try.prog 17 [vs 0] [.rd 1 R8 b_1] (.u [.inr (C_api_Signal (T_api_Signal.mk r.1.Kind r.1.ID r.1.PSM r.1.Source r.1.Dest r.1.MTU r.1.MPS r.1.Credits r.1.Result (T_api_Update.mk r.1.Update.WinSize r.1.Update.WinOffset r.1.Update.Interval r.1.Update.Latency r.1.Update.Timeout))), .inl (ci .i64 r.2)]) [.gone] := by
 refine Spec.enter Try.func17 rfl Try.ntmps17 rfl rfl fun fx => ?_
 refine SC.seq ?_
 refine SC.reg ?_
 refine SL.eff (e_alloc (E := 26) tk (C_api_Signal (T_api_Signal.mk 0 0 0 0 0 0 0 0 0 (T_api_Update.mk 0 0 0 0 0))) (by kernel_rfl)) rfl (by kernel_rfl) ?_
 refine SL.sim tk 1 [(0, vs 0), (2, vp 1 0)] [] [] [] (by kernel_rfl) ?_
 refine SL.nilThen ?_
 refine SC.seq ?_
 refine SC.r tk [(0, vs 0), (2, vp 1 0), (9, vb (decide ((len b_1) < 4)))] [] [] [] (by kernel_rfl) ?_
 refine SC.if' rfl hp (fun hp => ?_) (fun hp => ?_)
 · refine SC.r tk [(2, vp 1 0), (3, vi .i64 3)] [(1, 26, (C_api_Signal (T_api_Signal.mk 0 0 0 0 0 0 0 0 0 (T_api_Update.mk 0 0 0 0 0))))] [] [] (by kernel_rfl) ?_
   obtain rfl := some_inv' hp
   exact SC.re (js := [.g 0]) tk (by kernel_rfl)
 · refine SC.skipThen ?_
   refine SC.cut (fun a w => ∃ (c_4 : T_api_Signal), wirelessref34_Decode_j1 F b_1 c_4 = some r ∧ A 61 1 fx [(0, vs 0), (2, vp 1 0), (4, vp 2 0)] [.rd 1 R8 b_1, .blk 26 (C_api_Signal (T_api_Signal.mk 0 0 0 0 0 0 0 0 0 (T_api_Update.mk 0 0 0 0 0))), .blk 26 (C_api_Signal ({ c_4 with PSM := 0, Source := 0, Dest := 0, MTU := 0, MPS := 0, Credits := 0, Result := 0, Update := (T_api_Update.mk 0 0 0 0 0) }))] a w) ?_ ?_
   · obtain ⟨x_10, e_x_10, hp⟩ := bind_inv hp
     obtain ⟨x_11, e_x_11, hp⟩ := bind_inv hp
     refine SC.pre (pre_ix (i := 0) (iv := 0) (sz := 1) (R := R8) (l := b_1) (by kernel_rfl) rfl e_x_10) ?_
     refine SC.pre (pre_ix (i := 0) (iv := 1) (sz := 1) (R := R8) (l := b_1) (by kernel_rfl) rfl e_x_11) ?_
     refine SC.draw MO [true, true, true, true] (by kernel_rfl) fun kap_12 D_13 => ?_
     refine SD.takes tk D_13 [] kn0 [0, 1, 2, 3, 4, 5, 6, 7, 8] [.el 2, .el 3] [0, 1] [true, true, true, true, true, true, true, true, true, false, false] [(0, vs 0), (2, vp 1 0), (19, .g (C_api_Signal (T_api_Signal.mk (w64 x_10) (w64 x_11) 0 0 0 0 0 0 0 (T_api_Update.mk 0 0 0 0 0))))] rfl (by kernel_rfl) (by kernel_rfl) (by kernel_rfl) ?_
     refine SD.all1 (i := 9) (by kernel_rfl) ?_
     refine SW.eff D_13 (i := 9) (bs' := [true, true, true, true, true, true, true, true, true, true, false]) rfl (.inl rfl) rfl (e_alloc (E := 26) tk (C_api_Signal (T_api_Signal.mk 0 0 0 0 0 0 0 0 0 (T_api_Update.mk 0 0 0 0 0))) (by kernel_rfl)) (by kernel_rfl) rfl (by kernel_rfl) ?_
     refine SD.all1 (i := 10) (by kernel_rfl) ?_
     refine SW.store D_13 tk (i := 10) (q := 4) (T := 26) (cs := (C_api_Signal (T_api_Signal.mk (w64 x_10) (w64 x_11) 0 0 0 0 0 0 0 (T_api_Update.mk 0 0 0 0 0)))) (bs' := [true, true, true, true, true, true, true, true, true, true, true]) rfl (by kernel_rfl) rfl rfl (by kernel_rfl) ?_
     refine SD.norm (itsN := [.rd 1 R8 b_1, .blk 26 (C_api_Signal (T_api_Signal.mk 0 0 0 0 0 0 0 0 0 (T_api_Update.mk 0 0 0 0 0))), .elt (some (0, 0)) false [ci .u8 x_10], .elt (some (0, 1)) false [ci .u8 x_11], .blk 26 (C_api_Signal (T_api_Signal.mk (w64 x_10) (w64 x_11) 0 0 0 0 0 0 0 (T_api_Update.mk 0 0 0 0 0)))]) (by kernel_rfl) ?_
     refine SD.done (by kernel_rfl) fun a w h => ?_
     exact ⟨(T_api_Signal.mk (w64 x_10) (w64 x_11) 0 0 0 0 0 0 0 (T_api_Update.mk 0 0 0 0 0)), hp, h.at (js := [.g 0, .g 1, .g 4]) (by kernel_rfl)⟩
   · rintro a w ⟨c_4, hp, h⟩
     refine h.go ?_
     refine SC.seq ?_
     refine SC.seq ?_
     refine SC.reg ?_
     refine SL.sim tk 2 [(0, vs 0), (2, vp 1 0), (4, vp 2 0), (21, vi .i64 c_4.Kind)] [] [] [] (by kernel_rfl) ?_
     obtain ⟨x_5, e_x_5, hp⟩ := bind_inv hp
     refine SL.eff (e_c Try.call25 (ok_wirelessref34_Fields F c_4.Kind _ e_x_5) [] [vi .i64 c_4.Kind] (.g (C_wirelessref34_Uses x_5)) (by kernel_rfl) (.inl rfl)) rfl (by kernel_rfl) ?_
     refine SL.sim tk 2 [(0, vs 0), (2, vp 1 0), (4, vp 2 0), (24, vb (!x_5.Known))] [] [] [] (by kernel_rfl) ?_
     refine SL.nilThen ?_
     refine SC.if' rfl hp (fun hp => ?_) (fun hp => ?_)
     · refine SC.r tk [(2, vp 1 0), (3, vi .i64 12)] [(1, 26, (C_api_Signal (T_api_Signal.mk 0 0 0 0 0 0 0 0 0 (T_api_Update.mk 0 0 0 0 0))))] [] [] (by kernel_rfl) ?_
       obtain rfl := some_inv' hp
       exact SC.re (js := [.g 0]) tk (by kernel_rfl)
     · refine SC.skipThen ?_
       refine SC.seq ?_
       refine SC.r tk [(0, vs 0), (2, vp 1 0), (4, vp 2 0), (28, vb (c_4.ID == 0))] [] [] [] (by kernel_rfl) ?_
       refine SC.if' rfl hp (fun hp => ?_) (fun hp => ?_)
       · refine SC.r tk [(2, vp 1 0), (3, vi .i64 5)] [(1, 26, (C_api_Signal (T_api_Signal.mk 0 0 0 0 0 0 0 0 0 (T_api_Update.mk 0 0 0 0 0))))] [] [] (by kernel_rfl) ?_
         obtain rfl := some_inv' hp
         exact SC.re (js := [.g 0]) tk (by kernel_rfl)
       · refine SC.skipThen ?_
         refine SC.seq ?_
         refine SC.reg ?_
         refine SL.sim tk 1 [(0, vs 0), (2, vp 1 0), (4, vp 2 0), (30, .g (C_api_Signal ({ c_4 with PSM := 0, Source := 0, Dest := 0, MTU := 0, MPS := 0, Credits := 0, Result := 0, Update := (T_api_Update.mk 0 0 0 0 0) })))] [] [] [] (by kernel_rfl) ?_
         obtain ⟨x_6, e_x_6, hp⟩ := bind_inv hp
         refine SL.eff (e_c Try.call34 (ok_wirelessref34_body F ({ c_4 with PSM := 0, Source := 0, Dest := 0, MTU := 0, MPS := 0, Credits := 0, Result := 0, Update := (T_api_Update.mk 0 0 0 0 0) }) _ e_x_6) [] [.g (C_api_Signal ({ c_4 with PSM := 0, Source := 0, Dest := 0, MTU := 0, MPS := 0, Credits := 0, Result := 0, Update := (T_api_Update.mk 0 0 0 0 0) }))] (vs 3) (by kernel_rfl) (.inl rfl)) rfl (by kernel_rfl) ?_
         refine SL.norm (itsN := [.rd 1 R8 b_1, .blk 26 (C_api_Signal (T_api_Signal.mk 0 0 0 0 0 0 0 0 0 (T_api_Update.mk 0 0 0 0 0))), .blk 26 (C_api_Signal ({ c_4 with PSM := 0, Source := 0, Dest := 0, MTU := 0, MPS := 0, Credits := 0, Result := 0, Update := (T_api_Update.mk 0 0 0 0 0) })), .rd 1 R8 x_6]) (by kernel_rfl) ?_
         refine SL.sim tk 2 [(0, vs 0), (2, vp 1 0), (4, vp 2 0), (5, vi .i64 (len x_6))] [] [] [] (by kernel_rfl) ?_
         refine SL.nilThen ?_
         refine SC.seq ?_
         refine SC.seq ?_
         refine SC.reg ?_
         refine SL.sim tk 1 [(0, vs 0), (2, vp 1 0), (4, vp 2 0), (5, vi .i64 (len x_6)), (33, vs 0)] [] [] [] (by kernel_rfl) ?_
         obtain ⟨x_7, e_x_7, hp⟩ := bind_inv hp
         refine SL.eff (e_c Try.call37 (ok_wirelessref23_Num F b_1 2 2 _ e_x_7) [.g 0] [vs 0, vi .i64 2, vi .i64 2] (vi .u64 x_7) (by kernel_rfl) (.inl rfl)) rfl (by kernel_rfl) ?_
         refine SL.sim tk 3 [(0, vs 0), (2, vp 1 0), (4, vp 2 0), (5, vi .i64 (len x_6)), (37, vb ((w64 x_7) != (len x_6)))] [] [] [] (by kernel_rfl) ?_
         refine SL.nilThen ?_
         refine SC.if' rfl hp (fun hp => ?_) (fun hp => ?_)
         · refine SC.r tk [(2, vp 1 0), (3, vi .i64 2)] [(1, 26, (C_api_Signal (T_api_Signal.mk 0 0 0 0 0 0 0 0 0 (T_api_Update.mk 0 0 0 0 0))))] [] [] (by kernel_rfl) ?_
           obtain rfl := some_inv' hp
           exact SC.re (js := [.g 0]) tk (by kernel_rfl)
         · refine SC.skipThen ?_
           refine SC.seq ?_
           refine SC.r tk [(0, vs 0), (2, vp 1 0), (4, vp 2 0), (5, vi .i64 (len x_6)), (43, vb (decide ((w64 ((len b_1) - 4)) < (len x_6))))] [] [] [] (by kernel_rfl) ?_
           refine SC.if' rfl hp (fun hp => ?_) (fun hp => ?_)
           · refine SC.r tk [(2, vp 1 0), (3, vi .i64 3)] [(1, 26, (C_api_Signal (T_api_Signal.mk 0 0 0 0 0 0 0 0 0 (T_api_Update.mk 0 0 0 0 0))))] [] [] (by kernel_rfl) ?_
             obtain rfl := some_inv' hp
             exact SC.re (js := [.g 0]) tk (by kernel_rfl)
           · refine SC.skipThen ?_
             refine SC.seq ?_
             refine SC.r tk [(0, vs 0), (2, vp 1 0), (4, vp 2 0), (49, vb (decide ((w64 ((len b_1) - 4)) > (len x_6))))] [] [] [] (by kernel_rfl) ?_
             refine SC.if' rfl hp (fun hp => ?_) (fun hp => ?_)
             · refine SC.r tk [(2, vp 1 0), (3, vi .i64 2)] [(1, 26, (C_api_Signal (T_api_Signal.mk 0 0 0 0 0 0 0 0 0 (T_api_Update.mk 0 0 0 0 0))))] [] [] (by kernel_rfl) ?_
               obtain rfl := some_inv' hp
               exact SC.re (js := [.g 0]) tk (by kernel_rfl)
             · refine SC.skipThen ?_
               refine SC.seq ?_
               refine SC.reg ?_
               refine SL.sim tk 2 [(2, vp 1 0), (4, vp 2 0), (51, .g (C_api_Signal ({ c_4 with PSM := 0, Source := 0, Dest := 0, MTU := 0, MPS := 0, Credits := 0, Result := 0, Update := (T_api_Update.mk 0 0 0 0 0) }))), (52, vs 0)] [] [] [] (by kernel_rfl) ?_
               obtain ⟨x_8, e_x_8, hp⟩ := bind_inv hp
               refine SL.eff (e_c Try.call38 (ok_wirelessref34_taken F ({ c_4 with PSM := 0, Source := 0, Dest := 0, MTU := 0, MPS := 0, Credits := 0, Result := 0, Update := (T_api_Update.mk 0 0 0 0 0) }) b_1 _ e_x_8) [.g 0] [.g (C_api_Signal ({ c_4 with PSM := 0, Source := 0, Dest := 0, MTU := 0, MPS := 0, Credits := 0, Result := 0, Update := (T_api_Update.mk 0 0 0 0 0) })), vs 0] (.g (C_api_Signal x_8)) (by kernel_rfl) (.inl rfl)) rfl (by kernel_rfl) ?_
               refine SL.norm (itsN := [.rd 1 R8 b_1, .blk 26 (C_api_Signal (T_api_Signal.mk 0 0 0 0 0 0 0 0 0 (T_api_Update.mk 0 0 0 0 0))), .blk 26 (C_api_Signal ({ c_4 with PSM := 0, Source := 0, Dest := 0, MTU := 0, MPS := 0, Credits := 0, Result := 0, Update := (T_api_Update.mk 0 0 0 0 0) })), .rd 1 R8 x_6]) (by kernel_rfl) ?_
               refine SL.sim tk 1 [(2, vp 1 0), (4, vp 2 0)] [(2, 26, (C_api_Signal x_8))] [] [] (by kernel_rfl) ?_
               refine SL.nilThen ?_
               refine SC.seq ?_
               refine SC.seq ?_
               refine SC.reg ?_
               refine SL.sim tk 1 [(2, vp 1 0), (4, vp 2 0), (54, .g (C_api_Signal x_8))] [] [] [] (by kernel_rfl) ?_
               obtain ⟨x_9, e_x_9, hp⟩ := bind_inv hp
               refine SL.eff (e_c Try.call11 (ok_wirelessref34_Check F x_8 _ e_x_9) [] [.g (C_api_Signal x_8)] (vi .i64 x_9) (by kernel_rfl) (.inl rfl)) rfl (by kernel_rfl) ?_
               refine SL.sim tk 1 [(2, vp 1 0), (4, vp 2 0), (6, vi .i64 x_9)] [] [] [] (by kernel_rfl) ?_
               refine SL.nilThen ?_
               refine SC.r tk [(2, vp 1 0), (4, vp 2 0), (6, vi .i64 x_9), (57, vb (x_9 != 0))] [] [] [] (by kernel_rfl) ?_
               refine SC.if' rfl hp (fun hp => ?_) (fun hp => ?_)
               · refine SC.r tk [(2, vp 1 0), (3, vi .i64 x_9)] [(1, 26, (C_api_Signal (T_api_Signal.mk 0 0 0 0 0 0 0 0 0 (T_api_Update.mk 0 0 0 0 0))))] [] [] (by kernel_rfl) ?_
                 obtain rfl := some_inv' hp
                 exact SC.re (js := [.g 0]) tk (by kernel_rfl)
               · refine SC.skipThen ?_
                 refine SC.r tk [(2, vp 1 0), (3, vi .i64 0)] [(1, 26, (C_api_Signal x_8))] [] [] (by kernel_rfl) ?_
                 obtain rfl := some_inv' hp
                 exact SC.re (js := [.g 0]) tk (by kernel_rfl)

theorem ok_wirelesslaw34_SignalDecodes (F : Nat) (b_1 : (List Int)) (r : Bool) (hp : wirelesslaw34_SignalDecodes F b_1 = some r) : Spec Try.prog 5 [vs 0] [.rd 1 R8 b_1] (vb r) [.gone] := by
 refine Spec.enter Try.func5 rfl Try.ntmps5 rfl rfl fun fx => ?_
 refine SC.r tk [(0, vs 0)] [] [] [] (by kernel_rfl) ?_
 refine SC.seq ?_
 refine SC.r tk [(0, vs 0), (9, vb (decide ((len b_1) > 1000)))] [] [] [] (by kernel_rfl) ?_
 refine SC.if' rfl hp (fun hp => ?_) (fun hp => ?_)
 · refine SC.seq ?_
   refine SC.reg ?_
   obtain ⟨x_2, e_x_2, hp⟩ := bind_inv hp
   refine SL.eff (e_c Try.call12 (ok_wirelesslaw34_exampleHolds F  _ e_x_2) [] [] (vb x_2) (by kernel_rfl) (.inl rfl)) rfl (by kernel_rfl) ?_
   refine SL.sim tk 1 [(2, vb x_2)] [] [] [] (by kernel_rfl) ?_
   refine SL.nilThen ?_
   obtain rfl := some_inv' hp
   exact SC.re (js := [.g 0]) tk (by kernel_rfl)
 · refine SC.skipThen ?_
   refine SC.seq ?_
   refine SC.reg ?_
   refine SL.sim tk 1 [(0, vs 0), (12, vs 0)] [] [] [] (by kernel_rfl) ?_
   obtain ⟨x_3, e_x_3, hp⟩ := bind_inv hp
   refine SL.eff (e_c Try.call16 (ok_signal_Decode F b_1 _ e_x_3) [.g 0] [vs 0] (.u [.inr (C_api_Signal x_3.1), .inl (ci .i64 x_3.2)]) (by kernel_rfl) (.inl rfl)) rfl (by kernel_rfl) ?_
   refine SL.sim tk 3 [(0, vs 0), (14, .g (C_api_Signal x_3.1)), (15, vi .i64 x_3.2)] [] [] [] (by kernel_rfl) ?_
   refine SL.eff (e_alloc (E := 26) tk (C_api_Signal (T_api_Signal.mk 0 0 0 0 0 0 0 0 0 (T_api_Update.mk 0 0 0 0 0))) (by kernel_rfl)) rfl (by kernel_rfl) ?_
   refine SL.sim tk 2 [(0, vs 0), (3, vp 1 0), (4, vi .i64 x_3.2)] [(1, 26, (C_api_Signal x_3.1))] [] [] (by kernel_rfl) ?_
   refine SL.nilThen ?_
   refine SC.seq ?_
   refine SC.reg ?_
   refine SL.sim tk 1 [(3, vp 1 0), (4, vi .i64 x_3.2), (17, vs 0)] [] [] [] (by kernel_rfl) ?_
   obtain ⟨x_4, e_x_4, hp⟩ := bind_inv hp
   refine SL.eff (e_c Try.call17 (ok_wirelessref34_Decode F b_1 _ e_x_4) [.g 0] [vs 0] (.u [.inr (C_api_Signal x_4.1), .inl (ci .i64 x_4.2)]) (by kernel_rfl) (.inl rfl)) rfl (by kernel_rfl) ?_
   refine SL.norm (itsN := [.rd 1 R8 b_1, .blk 26 (C_api_Signal x_3.1)]) (by kernel_rfl) ?_
   refine SL.sim tk 3 [(3, vp 1 0), (4, vi .i64 x_3.2), (19, .g (C_api_Signal x_4.1)), (20, vi .i64 x_4.2)] [] [] [] (by kernel_rfl) ?_
   refine SL.eff (e_alloc (E := 26) tk (C_api_Signal (T_api_Signal.mk 0 0 0 0 0 0 0 0 0 (T_api_Update.mk 0 0 0 0 0))) (by kernel_rfl)) rfl (by kernel_rfl) ?_
   refine SL.sim tk 2 [(3, vp 1 0), (4, vi .i64 x_3.2), (5, vp 2 0), (6, vi .i64 x_4.2)] [(2, 26, (C_api_Signal x_4.1))] [] [] (by kernel_rfl) ?_
   refine SL.nilThen ?_
   refine SC.seq ?_
   refine SC.reg ?_
   refine SL.sim tk 4 [(3, vp 1 0), (5, vp 2 0), (24, vb (x_3.2 == x_4.2))] [] [] [] (by kernel_rfl) ?_
   obtain ⟨z_6, hz, hpr⟩ := bind_inv hp
   clear hp
   refine SL.cutAt 4 (fun a w => A 32 1 fx [(28, vb z_6)] [.gone] a w) ?_ ?_
   · have hp := hz
     rcases Bool.eq_false_or_eq_true ((x_3.2 == x_4.2)) with hg_5 | hg_5
     · replace hp := if_t hp hg_5
       refine SL.yes rfl rfl hg_5 ?_
       refine SL.sim tk 1 [(5, vp 2 0), (24, vb (x_3.2 == x_4.2)), (25, .g (C_api_Signal x_3.1))] [] [] [] (by kernel_rfl) ?_
       refine SL.yes rfl rfl hg_5 ?_
       refine SL.sim tk 1 [(24, vb (x_3.2 == x_4.2)), (25, .g (C_api_Signal x_3.1)), (26, .g (C_api_Signal x_4.1))] [] [] [] (by kernel_rfl) ?_
       refine SL.yes rfl rfl hg_5 ?_
       refine SL.eff (e_eqs tk (cs := (C_api_Signal x_3.1)) (ds := (C_api_Signal x_4.1)) [(x_3.1.Kind == x_4.1.Kind), (x_3.1.ID == x_4.1.ID), (x_3.1.PSM == x_4.1.PSM), (x_3.1.Source == x_4.1.Source), (x_3.1.Dest == x_4.1.Dest), (x_3.1.MTU == x_4.1.MTU), (x_3.1.MPS == x_4.1.MPS), (x_3.1.Credits == x_4.1.Credits), (x_3.1.Result == x_4.1.Result), (x_3.1.Update.WinSize == x_4.1.Update.WinSize), (x_3.1.Update.WinOffset == x_4.1.Update.WinOffset), (x_3.1.Update.Interval == x_4.1.Update.Interval), (x_3.1.Update.Latency == x_4.1.Update.Latency), (x_3.1.Update.Timeout == x_4.1.Update.Timeout)] ((x_3.1.Kind == x_4.1.Kind) && ((x_3.1.ID == x_4.1.ID) && ((x_3.1.PSM == x_4.1.PSM) && ((x_3.1.Source == x_4.1.Source) && ((x_3.1.Dest == x_4.1.Dest) && ((x_3.1.MTU == x_4.1.MTU) && ((x_3.1.MPS == x_4.1.MPS) && ((x_3.1.Credits == x_4.1.Credits) && ((x_3.1.Result == x_4.1.Result) && ((x_3.1.Update.WinSize == x_4.1.Update.WinSize) && ((x_3.1.Update.WinOffset == x_4.1.Update.WinOffset) && ((x_3.1.Update.Interval == x_4.1.Update.Interval) && ((x_3.1.Update.Latency == x_4.1.Update.Latency) && (x_3.1.Update.Timeout == x_4.1.Update.Timeout)))))))))))))) rfl rfl (by kernel_rfl) (by kernel_rfl) (by kernel_rfl) (.inl ⟨rfl, (by kernel_rfl)⟩)) rfl (by kernel_rfl) ?_
       refine SL.pickt rfl hg_5 rfl rfl ?_
       refine SL.nilJ fun a w h => ?_
       obtain rfl := some_inv' hp
       exact h.at (js := [.g 0]) (by kernel_rfl)
     · replace hp := if_f hp hg_5
       refine SL.no rfl rfl hg_5 rfl ?_
       refine SL.no rfl rfl hg_5 rfl ?_
       refine SL.no rfl rfl hg_5 rfl ?_
       refine SL.pickf rfl hg_5 rfl rfl ?_
       refine SL.nilJ fun a w h => ?_
       obtain rfl := some_inv' hp
       exact h.at (js := [.g 0]) (by kernel_rfl)
   · intro a w h
     have hp := hpr; clear hpr hz
     refine h.goL ?_
     refine SL.sim tk 1 [(29, vb z_6)] [] [] [] (by kernel_rfl) ?_
     obtain ⟨z_8, hz, hpr⟩ := bind_inv hp
     clear hp
     refine SL.cutAt 2 (fun a w => A 32 1 fx [(31, vb z_8)] [.gone] a w) ?_ ?_
     · have hp := hz
       rcases Bool.eq_false_or_eq_true (z_6) with hg_7 | hg_7
       · replace hp := if_t hp hg_7
         refine SL.yes rfl rfl hg_7 ?_
         obtain ⟨x_10, e_x_10, hp⟩ := bind_inv hp
         refine SL.eff (e_c Try.call12 (ok_wirelesslaw34_exampleHolds F  _ e_x_10) [] [] (vb x_10) (by kernel_rfl) (.inl rfl)) rfl (by kernel_rfl) ?_
         refine SL.pickt rfl hg_7 rfl rfl ?_
         refine SL.nilJ fun a w h => ?_
         obtain rfl := some_inv' hp
         exact h.at (js := [.g 0]) (by kernel_rfl)
       · replace hp := if_f hp hg_7
         refine SL.no rfl rfl hg_7 rfl ?_
         refine SL.pickf rfl hg_7 rfl rfl ?_
         refine SL.nilJ fun a w h => ?_
         obtain rfl := some_inv' hp
         exact h.at (js := [.g 0]) (by kernel_rfl)
     · intro a w h
       have hp := hpr; clear hpr hz
       refine h.goL ?_
       refine SL.sim tk 1 [(2, vb z_8)] [] [] [] (by kernel_rfl) ?_
       refine SL.nilThen ?_
       obtain rfl := some_inv' hp
       exact SC.re (js := [.g 0]) tk (by kernel_rfl)

theorem ok_wirelesslaw34_SignalBack (F : Nat) (s_1 : T_api_Signal) (r : Bool) (hp : wirelesslaw34_SignalBack F s_1 = some r) : Spec Try.prog 6 [.g (C_api_Signal s_1)] [] (vb r) [] := by
 refine Spec.enter Try.func6 rfl Try.ntmps6 rfl rfl fun fx => ?_
 refine SC.seq ?_
 refine SC.reg ?_
 refine SL.eff (e_box (E := 26) (C_api_Signal s_1) (by kernel_rfl)) rfl (by kernel_rfl) ?_
 refine SL.sim tk 1 [(1, vp 0 0)] [] [] [] (by kernel_rfl) ?_
 refine SL.nilThen ?_
 refine SC.seq ?_
 refine SC.seq ?_
 refine SC.reg ?_
 refine SL.sim tk 1 [(1, vp 0 0), (7, .g (C_api_Signal s_1))] [] [] [] (by kernel_rfl) ?_
 obtain ⟨x_2, e_x_2, hp⟩ := bind_inv hp
 refine SL.eff (e_c Try.call10 (ok_signal_Check F s_1 _ e_x_2) [] [.g (C_api_Signal s_1)] (vi .i64 x_2) (by kernel_rfl) (.inl rfl)) rfl (by kernel_rfl) ?_
 refine SL.sim tk 1 [(1, vp 0 0), (9, vb (x_2 != 0))] [] [] [] (by kernel_rfl) ?_
 refine SL.nilThen ?_
 refine SC.if' rfl hp (fun hp => ?_) (fun hp => ?_)
 · refine SC.seq ?_
   refine SC.reg ?_
   obtain ⟨x_3, e_x_3, hp⟩ := bind_inv hp
   refine SL.eff (e_c Try.call12 (ok_wirelesslaw34_exampleHolds F  _ e_x_3) [] [] (vb x_3) (by kernel_rfl) (.inl rfl)) rfl (by kernel_rfl) ?_
   refine SL.norm (itsN := [.blk 26 (C_api_Signal s_1)]) (by kernel_rfl) ?_
   refine SL.sim tk 1 [(2, vb x_3)] [] [] [] (by kernel_rfl) ?_
   refine SL.nilThen ?_
   obtain rfl := some_inv' hp
   exact SC.re (js := []) tk (by kernel_rfl)
 · refine SC.skipThen ?_
   refine SC.seq ?_
   refine SC.reg ?_
   refine SL.sim tk 1 [(1, vp 0 0), (12, .g (C_api_Signal s_1))] [] [] [] (by kernel_rfl) ?_
   obtain ⟨x_4, e_x_4, hp⟩ := bind_inv hp
   refine SL.eff (e_c Try.call13 (ok_signal_Encode F s_1 _ e_x_4) [] [.g (C_api_Signal s_1)] (.u [.inl (.s 1), .inl (ci .i64 x_4.2)]) (by kernel_rfl) (.inl rfl)) rfl (by kernel_rfl) ?_
   refine SL.norm (itsN := [.blk 26 (C_api_Signal s_1), .rd 1 R8 x_4.1]) (by kernel_rfl) ?_
   refine SL.sim tk 5 [(1, vp 0 0), (3, vs 1), (4, vi .i64 x_4.2)] [] [] [] (by kernel_rfl) ?_
   refine SL.nilThen ?_
   refine SC.seq ?_
   refine SC.reg ?_
   refine SL.sim tk 1 [(1, vp 0 0), (3, vs 1), (4, vi .i64 x_4.2), (17, vs 1)] [] [] [] (by kernel_rfl) ?_
   obtain ⟨x_5, e_x_5, hp⟩ := bind_inv hp
   refine SL.eff (e_c Try.call16 (ok_signal_Decode F x_4.1 _ e_x_5) [.g 1] [vs 1] (.u [.inr (C_api_Signal x_5.1), .inl (ci .i64 x_5.2)]) (by kernel_rfl) (.inl rfl)) rfl (by kernel_rfl) ?_
   refine SL.sim tk 3 [(1, vp 0 0), (3, vs 1), (4, vi .i64 x_4.2), (19, .g (C_api_Signal x_5.1)), (20, vi .i64 x_5.2)] [] [] [] (by kernel_rfl) ?_
   refine SL.eff (e_alloc (E := 26) tk (C_api_Signal (T_api_Signal.mk 0 0 0 0 0 0 0 0 0 (T_api_Update.mk 0 0 0 0 0))) (by kernel_rfl)) rfl (by kernel_rfl) ?_
   refine SL.sim tk 2 [(1, vp 0 0), (3, vs 1), (4, vi .i64 x_4.2), (5, vp 2 0), (6, vi .i64 x_5.2)] [(2, 26, (C_api_Signal x_5.1))] [] [] (by kernel_rfl) ?_
   refine SL.nilThen ?_
   refine SC.seq ?_
   refine SC.reg ?_
   refine SL.sim tk 7 [(1, vp 0 0), (3, vs 1), (5, vp 2 0), (27, vb ((x_4.2 == 0) && (x_5.2 == 0)))] [] [] [] (by kernel_rfl) ?_
   obtain ⟨z_7, hz, hpr⟩ := bind_inv hp
   clear hp
   refine SL.cutAt 4 (fun a w => A 45 0 fx [(3, vs 0), (31, vb z_7)] [.rd 1 R8 x_4.1] a w) ?_ ?_
   · have hp := hz
     rcases Bool.eq_false_or_eq_true (((x_4.2 == 0) && (x_5.2 == 0))) with hg_6 | hg_6
     · replace hp := if_t hp hg_6
       refine SL.yes rfl rfl hg_6 ?_
       refine SL.sim tk 1 [(3, vs 1), (5, vp 2 0), (27, vb ((x_4.2 == 0) && (x_5.2 == 0))), (28, .g (C_api_Signal s_1))] [] [] [] (by kernel_rfl) ?_
       refine SL.yes rfl rfl hg_6 ?_
       refine SL.sim tk 1 [(3, vs 1), (27, vb ((x_4.2 == 0) && (x_5.2 == 0))), (28, .g (C_api_Signal s_1)), (29, .g (C_api_Signal x_5.1))] [] [] [] (by kernel_rfl) ?_
       refine SL.yes rfl rfl hg_6 ?_
       refine SL.eff (e_eqs tk (cs := (C_api_Signal s_1)) (ds := (C_api_Signal x_5.1)) [(s_1.Kind == x_5.1.Kind), (s_1.ID == x_5.1.ID), (s_1.PSM == x_5.1.PSM), (s_1.Source == x_5.1.Source), (s_1.Dest == x_5.1.Dest), (s_1.MTU == x_5.1.MTU), (s_1.MPS == x_5.1.MPS), (s_1.Credits == x_5.1.Credits), (s_1.Result == x_5.1.Result), (s_1.Update.WinSize == x_5.1.Update.WinSize), (s_1.Update.WinOffset == x_5.1.Update.WinOffset), (s_1.Update.Interval == x_5.1.Update.Interval), (s_1.Update.Latency == x_5.1.Update.Latency), (s_1.Update.Timeout == x_5.1.Update.Timeout)] ((s_1.Kind == x_5.1.Kind) && ((s_1.ID == x_5.1.ID) && ((s_1.PSM == x_5.1.PSM) && ((s_1.Source == x_5.1.Source) && ((s_1.Dest == x_5.1.Dest) && ((s_1.MTU == x_5.1.MTU) && ((s_1.MPS == x_5.1.MPS) && ((s_1.Credits == x_5.1.Credits) && ((s_1.Result == x_5.1.Result) && ((s_1.Update.WinSize == x_5.1.Update.WinSize) && ((s_1.Update.WinOffset == x_5.1.Update.WinOffset) && ((s_1.Update.Interval == x_5.1.Update.Interval) && ((s_1.Update.Latency == x_5.1.Update.Latency) && (s_1.Update.Timeout == x_5.1.Update.Timeout)))))))))))))) rfl rfl (by kernel_rfl) (by kernel_rfl) (by kernel_rfl) (.inl ⟨rfl, (by kernel_rfl)⟩)) rfl (by kernel_rfl) ?_
       refine SL.norm (itsN := [.blk 26 (C_api_Signal s_1), .rd 1 R8 x_4.1, .blk 26 (C_api_Signal x_5.1)]) (by kernel_rfl) ?_
       refine SL.pickt rfl hg_6 rfl rfl ?_
       refine SL.nilJ fun a w h => ?_
       obtain rfl := some_inv' hp
       exact h.at (js := [.g 1]) (by kernel_rfl)
     · replace hp := if_f hp hg_6
       refine SL.no rfl rfl hg_6 rfl ?_
       refine SL.no rfl rfl hg_6 rfl ?_
       refine SL.no rfl rfl hg_6 rfl ?_
       refine SL.pickf rfl hg_6 rfl rfl ?_
       refine SL.nilJ fun a w h => ?_
       obtain rfl := some_inv' hp
       exact h.at (js := [.g 1]) (by kernel_rfl)
   · intro a w h
     have hp := hpr; clear hpr hz
     refine h.goL ?_
     refine SL.sim tk 11 [(42, vb ((z_7 && (decide ((len x_4.1) ≥ 6))) && (decide ((len x_4.1) ≤ 14))))] [] [] [] (by kernel_rfl) ?_
     obtain ⟨z_9, hz, hpr⟩ := bind_inv hp
     clear hp
     refine SL.cutAt 2 (fun a w => A 45 0 fx [(44, vb z_9)] [] a w) ?_ ?_
     · have hp := hz
       rcases Bool.eq_false_or_eq_true (((z_7 && (decide ((len x_4.1) ≥ 6))) && (decide ((len x_4.1) ≤ 14)))) with hg_8 | hg_8
       · replace hp := if_t hp hg_8
         refine SL.yes rfl rfl hg_8 ?_
         obtain ⟨x_11, e_x_11, hp⟩ := bind_inv hp
         refine SL.eff (e_c Try.call12 (ok_wirelesslaw34_exampleHolds F  _ e_x_11) [] [] (vb x_11) (by kernel_rfl) (.inl rfl)) rfl (by kernel_rfl) ?_
         refine SL.pickt rfl hg_8 rfl rfl ?_
         refine SL.nilJ fun a w h => ?_
         obtain rfl := some_inv' hp
         exact h.at (js := []) (by kernel_rfl)
       · replace hp := if_f hp hg_8
         refine SL.no rfl rfl hg_8 rfl ?_
         refine SL.pickf rfl hg_8 rfl rfl ?_
         refine SL.nilJ fun a w h => ?_
         obtain rfl := some_inv' hp
         exact h.at (js := []) (by kernel_rfl)
     · intro a w h
       have hp := hpr; clear hpr hz
       refine h.goL ?_
       refine SL.sim tk 1 [(2, vb z_9)] [] [] [] (by kernel_rfl) ?_
       refine SL.nilThen ?_
       obtain rfl := some_inv' hp
       exact SC.re (js := []) tk (by kernel_rfl)

theorem ok_wirelesslaw34_SignalUnique (F : Nat) (b_1 : (List Int)) (r : Bool) (hp : wirelesslaw34_SignalUnique F b_1 = some r) : Spec Try.prog 7 [vs 0] [.rd 1 R8 b_1] (vb r) [.gone] := by
 refine Spec.enter Try.func7 rfl Try.ntmps7 rfl rfl fun fx => ?_
 refine SC.r tk [(0, vs 0)] [] [] [] (by kernel_rfl) ?_
 refine SC.seq ?_
 refine SC.r tk [(0, vs 0), (9, vb (decide ((len b_1) > 1000)))] [] [] [] (by kernel_rfl) ?_
 refine SC.if' rfl hp (fun hp => ?_) (fun hp => ?_)
 · refine SC.seq ?_
   refine SC.reg ?_
   obtain ⟨x_2, e_x_2, hp⟩ := bind_inv hp
   refine SL.eff (e_c Try.call12 (ok_wirelesslaw34_exampleHolds F  _ e_x_2) [] [] (vb x_2) (by kernel_rfl) (.inl rfl)) rfl (by kernel_rfl) ?_
   refine SL.sim tk 1 [(2, vb x_2)] [] [] [] (by kernel_rfl) ?_
   refine SL.nilThen ?_
   obtain rfl := some_inv' hp
   exact SC.re (js := [.g 0]) tk (by kernel_rfl)
 · refine SC.skipThen ?_
   refine SC.seq ?_
   refine SC.reg ?_
   refine SL.sim tk 1 [(0, vs 0), (12, vs 0)] [] [] [] (by kernel_rfl) ?_
   obtain ⟨x_3, e_x_3, hp⟩ := bind_inv hp
   refine SL.eff (e_c Try.call16 (ok_signal_Decode F b_1 _ e_x_3) [.g 0] [vs 0] (.u [.inr (C_api_Signal x_3.1), .inl (ci .i64 x_3.2)]) (by kernel_rfl) (.inl rfl)) rfl (by kernel_rfl) ?_
   refine SL.sim tk 3 [(0, vs 0), (14, .g (C_api_Signal x_3.1)), (15, vi .i64 x_3.2)] [] [] [] (by kernel_rfl) ?_
   refine SL.eff (e_alloc (E := 26) tk (C_api_Signal (T_api_Signal.mk 0 0 0 0 0 0 0 0 0 (T_api_Update.mk 0 0 0 0 0))) (by kernel_rfl)) rfl (by kernel_rfl) ?_
   refine SL.sim tk 2 [(0, vs 0), (3, vp 1 0), (4, vi .i64 x_3.2)] [(1, 26, (C_api_Signal x_3.1))] [] [] (by kernel_rfl) ?_
   refine SL.nilThen ?_
   refine SC.seq ?_
   refine SC.r tk [(0, vs 0), (3, vp 1 0), (17, vb (x_3.2 != 0))] [] [] [] (by kernel_rfl) ?_
   refine SC.if' rfl hp (fun hp => ?_) (fun hp => ?_)
   · refine SC.seq ?_
     refine SC.reg ?_
     refine SL.sim tk 2 [(18, .g (C_api_Signal x_3.1)), (19, .g (C_api_Signal (T_api_Signal.mk 0 0 0 0 0 0 0 0 0 (T_api_Update.mk 0 0 0 0 0))))] [] [] [] (by kernel_rfl) ?_
     refine SL.eff (e_eqs tk (cs := (C_api_Signal x_3.1)) (ds := (C_api_Signal (T_api_Signal.mk 0 0 0 0 0 0 0 0 0 (T_api_Update.mk 0 0 0 0 0)))) [(x_3.1.Kind == 0), (x_3.1.ID == 0), (x_3.1.PSM == 0), (x_3.1.Source == 0), (x_3.1.Dest == 0), (x_3.1.MTU == 0), (x_3.1.MPS == 0), (x_3.1.Credits == 0), (x_3.1.Result == 0), (x_3.1.Update.WinSize == 0), (x_3.1.Update.WinOffset == 0), (x_3.1.Update.Interval == 0), (x_3.1.Update.Latency == 0), (x_3.1.Update.Timeout == 0)] ((x_3.1.Kind == 0) && ((x_3.1.ID == 0) && ((x_3.1.PSM == 0) && ((x_3.1.Source == 0) && ((x_3.1.Dest == 0) && ((x_3.1.MTU == 0) && ((x_3.1.MPS == 0) && ((x_3.1.Credits == 0) && ((x_3.1.Result == 0) && ((x_3.1.Update.WinSize == 0) && ((x_3.1.Update.WinOffset == 0) && ((x_3.1.Update.Interval == 0) && ((x_3.1.Update.Latency == 0) && (x_3.1.Update.Timeout == 0)))))))))))))) rfl rfl (by kernel_rfl) (by kernel_rfl) (by kernel_rfl) (.inl ⟨rfl, (by kernel_rfl)⟩)) rfl (by kernel_rfl) ?_
     refine SL.norm (itsN := [.rd 1 R8 b_1, .blk 26 (C_api_Signal x_3.1)]) (by kernel_rfl) ?_
     refine SL.sim tk 1 [(21, vb ((x_3.1.Kind == 0) && ((x_3.1.ID == 0) && ((x_3.1.PSM == 0) && ((x_3.1.Source == 0) && ((x_3.1.Dest == 0) && ((x_3.1.MTU == 0) && ((x_3.1.MPS == 0) && ((x_3.1.Credits == 0) && ((x_3.1.Result == 0) && ((x_3.1.Update.WinSize == 0) && ((x_3.1.Update.WinOffset == 0) && ((x_3.1.Update.Interval == 0) && ((x_3.1.Update.Latency == 0) && (x_3.1.Update.Timeout == 0)))))))))))))))] [] [] [] (by kernel_rfl) ?_
     obtain ⟨z_5, hz, hpr⟩ := bind_inv hp
     clear hp
     refine SL.cutAt 2 (fun a w => A 39 1 fx [(23, vb z_5)] [.gone] a w) ?_ ?_
     · have hp := hz
       rcases Bool.eq_false_or_eq_true (((x_3.1.Kind == 0) && ((x_3.1.ID == 0) && ((x_3.1.PSM == 0) && ((x_3.1.Source == 0) && ((x_3.1.Dest == 0) && ((x_3.1.MTU == 0) && ((x_3.1.MPS == 0) && ((x_3.1.Credits == 0) && ((x_3.1.Result == 0) && ((x_3.1.Update.WinSize == 0) && ((x_3.1.Update.WinOffset == 0) && ((x_3.1.Update.Interval == 0) && ((x_3.1.Update.Latency == 0) && (x_3.1.Update.Timeout == 0))))))))))))))) with hg_4 | hg_4
       · replace hp := if_t hp hg_4
         refine SL.yes rfl rfl hg_4 ?_
         obtain ⟨x_7, e_x_7, hp⟩ := bind_inv hp
         refine SL.eff (e_c Try.call12 (ok_wirelesslaw34_exampleHolds F  _ e_x_7) [] [] (vb x_7) (by kernel_rfl) (.inl rfl)) rfl (by kernel_rfl) ?_
         refine SL.pickt rfl hg_4 rfl rfl ?_
         refine SL.nilJ fun a w h => ?_
         obtain rfl := some_inv' hp
         exact h.at (js := [.g 0]) (by kernel_rfl)
       · replace hp := if_f hp hg_4
         refine SL.no rfl rfl hg_4 rfl ?_
         refine SL.pickf rfl hg_4 rfl rfl ?_
         refine SL.nilJ fun a w h => ?_
         obtain rfl := some_inv' hp
         exact h.at (js := [.g 0]) (by kernel_rfl)
     · intro a w h
       have hp := hpr; clear hpr hz
       refine h.goL ?_
       refine SL.sim tk 1 [(2, vb z_5)] [] [] [] (by kernel_rfl) ?_
       refine SL.nilThen ?_
       obtain rfl := some_inv' hp
       exact SC.re (js := [.g 0]) tk (by kernel_rfl)
   · refine SC.skipThen ?_
     refine SC.seq ?_
     refine SC.reg ?_
     refine SL.sim tk 1 [(0, vs 0), (25, .g (C_api_Signal x_3.1))] [] [] [] (by kernel_rfl) ?_
     obtain ⟨x_8, e_x_8, hp⟩ := bind_inv hp
     refine SL.eff (e_c Try.call13 (ok_signal_Encode F x_3.1 _ e_x_8) [] [.g (C_api_Signal x_3.1)] (.u [.inl (.s 2), .inl (ci .i64 x_8.2)]) (by kernel_rfl) (.inl rfl)) rfl (by kernel_rfl) ?_
     refine SL.norm (itsN := [.rd 1 R8 b_1, .blk 26 (C_api_Signal x_3.1), .rd 1 R8 x_8.1]) (by kernel_rfl) ?_
     refine SL.sim tk 5 [(0, vs 0), (5, vs 2), (6, vi .i64 x_8.2)] [] [] [] (by kernel_rfl) ?_
     refine SL.nilThen ?_
     refine SC.seq ?_
     refine SC.reg ?_
     refine SL.sim tk 3 [(0, vs 0), (5, vs 2), (31, vb (x_8.2 == 0))] [] [] [] (by kernel_rfl) ?_
     obtain ⟨z_10, hz, hpr⟩ := bind_inv hp
     clear hp
     refine SL.cutAt 4 (fun a w => A 39 1 fx [(35, vb z_10)] [.gone] a w) ?_ ?_
     · have hp := hz
       rcases Bool.eq_false_or_eq_true ((x_8.2 == 0)) with hg_9 | hg_9
       · replace hp := if_t hp hg_9
         refine SL.yes rfl rfl hg_9 ?_
         refine SL.sim tk 1 [(5, vs 2), (31, vb (x_8.2 == 0)), (32, vs 0)] [] [] [] (by kernel_rfl) ?_
         refine SL.yes rfl rfl hg_9 ?_
         refine SL.sim tk 1 [(31, vb (x_8.2 == 0)), (32, vs 0), (33, vs 2)] [] [] [] (by kernel_rfl) ?_
         refine SL.yes rfl rfl hg_9 ?_
         obtain ⟨x_16, e_x_16, hp⟩ := bind_inv hp
         refine SL.eff (e_c Try.call15 (ok_wirelessref23_Same F b_1 x_8.1 _ e_x_16) [.g 0, .g 2] [vs 0, vs 2] (vb x_16) (by kernel_rfl) (.inl rfl)) rfl (by kernel_rfl) ?_
         refine SL.pickt rfl hg_9 rfl rfl ?_
         refine SL.nilJ fun a w h => ?_
         obtain rfl := some_inv' hp
         exact h.at (js := [.g 0]) (by kernel_rfl)
       · replace hp := if_f hp hg_9
         refine SL.no rfl rfl hg_9 rfl ?_
         refine SL.no rfl rfl hg_9 rfl ?_
         refine SL.no rfl rfl hg_9 rfl ?_
         refine SL.pickf rfl hg_9 rfl rfl ?_
         refine SL.nilJ fun a w h => ?_
         obtain rfl := some_inv' hp
         exact h.at (js := [.g 0]) (by kernel_rfl)
     · intro a w h
       have hp := hpr; clear hpr hz
       refine h.goL ?_
       refine SL.sim tk 1 [(36, vb z_10)] [] [] [] (by kernel_rfl) ?_
       obtain ⟨z_12, hz, hpr⟩ := bind_inv hp
       clear hp
       refine SL.cutAt 2 (fun a w => A 39 1 fx [(38, vb z_12)] [.gone] a w) ?_ ?_
       · have hp := hz
         rcases Bool.eq_false_or_eq_true (z_10) with hg_11 | hg_11
         · replace hp := if_t hp hg_11
           refine SL.yes rfl rfl hg_11 ?_
           obtain ⟨x_14, e_x_14, hp⟩ := bind_inv hp
           refine SL.eff (e_c Try.call12 (ok_wirelesslaw34_exampleHolds F  _ e_x_14) [] [] (vb x_14) (by kernel_rfl) (.inl rfl)) rfl (by kernel_rfl) ?_
           refine SL.pickt rfl hg_11 rfl rfl ?_
           refine SL.nilJ fun a w h => ?_
           obtain rfl := some_inv' hp
           exact h.at (js := [.g 0]) (by kernel_rfl)
         · replace hp := if_f hp hg_11
           refine SL.no rfl rfl hg_11 rfl ?_
           refine SL.pickf rfl hg_11 rfl rfl ?_
           refine SL.nilJ fun a w h => ?_
           obtain rfl := some_inv' hp
           exact h.at (js := [.g 0]) (by kernel_rfl)
       · intro a w h
         have hp := hpr; clear hpr hz
         refine h.goL ?_
         refine SL.sim tk 1 [(2, vb z_12)] [] [] [] (by kernel_rfl) ?_
         refine SL.nilThen ?_
         obtain rfl := some_inv' hp
         exact SC.re (js := [.g 0]) tk (by kernel_rfl)

theorem ok_signal_Answers (F : Nat) (request_1 : T_api_Signal) (answer_2 : T_api_Signal) (r : Bool) (hp : signal_Answers F request_1 answer_2 = some r) : Spec Try.prog 18 [.g (C_api_Signal request_1), .g (C_api_Signal answer_2)] [] (vb r) [] := by
 refine Spec.enter Try.func18 rfl Try.ntmps18 rfl rfl fun fx => ?_
 refine SC.seq ?_
 refine SC.reg ?_
 refine SL.eff (e_box (E := 26) (C_api_Signal request_1) (by kernel_rfl)) rfl (by kernel_rfl) ?_
 refine SL.eff (e_box (E := 26) (C_api_Signal answer_2) (by kernel_rfl)) rfl (by kernel_rfl) ?_
 refine SL.sim tk 1 [(2, vp 0 0), (3, vp 1 0)] [] [] [] (by kernel_rfl) ?_
 refine SL.nilThen ?_
 refine SC.seq ?_
 refine SC.r tk [(2, vp 0 0), (3, vp 1 0), (9, vb (request_1.ID != answer_2.ID))] [] [] [] (by kernel_rfl) ?_
 refine SC.if' rfl hp (fun hp => ?_) (fun hp => ?_)
 · refine SC.r tk [(4, vb false)] [] [] [] (by kernel_rfl) ?_
   obtain rfl := some_inv' hp
   exact SC.re (js := []) tk (by kernel_rfl)
 · refine SC.skipThen ?_
   refine SC.seq ?_
   refine SC.r tk [(2, vp 0 0), (3, vp 1 0), (11, vi .i64 request_1.Kind)] [] [] [] (by kernel_rfl) ?_
   refine SC.block ?_
   refine SC.r tk [(2, vp 0 0), (3, vp 1 0), (11, vi .i64 request_1.Kind), (12, vb (request_1.Kind == 20))] [] [] [] (by kernel_rfl) ?_
   refine SC.if' rfl hp (fun hp => ?_) (fun hp => ?_)
   · refine SC.r tk [(4, vb ((answer_2.Kind == 21) || (answer_2.Kind == 1)))] [] [] [] (by kernel_rfl) ?_
     obtain rfl := some_inv' hp
     exact SC.re (js := []) tk (by kernel_rfl)
   · refine SC.r tk [(2, vp 0 0), (3, vp 1 0), (11, vi .i64 request_1.Kind), (22, vb (request_1.Kind == 6))] [] [] [] (by kernel_rfl) ?_
     refine SC.if' rfl hp (fun hp => ?_) (fun hp => ?_)
     · refine SC.r tk [(4, vb ((answer_2.Kind == 1) || (((answer_2.Kind == 7) && (answer_2.Source == request_1.Source)) && (answer_2.Dest == request_1.Dest))))] [] [] [] (by kernel_rfl) ?_
       obtain rfl := some_inv' hp
       exact SC.re (js := []) tk (by kernel_rfl)
     · refine SC.r tk [(3, vp 1 0), (46, vb (request_1.Kind == 18))] [] [] [] (by kernel_rfl) ?_
       refine SC.if' rfl hp (fun hp => ?_) (fun hp => ?_)
       · refine SC.r tk [(4, vb ((answer_2.Kind == 19) || (answer_2.Kind == 1)))] [] [] [] (by kernel_rfl) ?_
         obtain rfl := some_inv' hp
         exact SC.re (js := []) tk (by kernel_rfl)
       · refine SC.skipThen ?_
         refine SC.r tk [(4, vb false)] [] [] [] (by kernel_rfl) ?_
         obtain rfl := some_inv' hp
         exact SC.re (js := []) tk (by kernel_rfl)

theorem ok_wirelessref34_Answers (F : Nat) (request_1 : T_api_Signal) (answer_2 : T_api_Signal) (r : Bool) (hp : wirelessref34_Answers F request_1 answer_2 = some r) : Spec Try.prog 19 [.g (C_api_Signal request_1), .g (C_api_Signal answer_2)] [] (vb r) [] := by
 refine Spec.enter Try.func19 rfl Try.ntmps19 rfl rfl fun fx => ?_
 refine SC.seq ?_
 refine SC.reg ?_
 refine SL.eff (e_box (E := 26) (C_api_Signal request_1) (by kernel_rfl)) rfl (by kernel_rfl) ?_
 refine SL.eff (e_box (E := 26) (C_api_Signal answer_2) (by kernel_rfl)) rfl (by kernel_rfl) ?_
 refine SL.sim tk 1 [(2, vp 0 0), (3, vp 1 0)] [] [] [] (by kernel_rfl) ?_
 refine SL.nilThen ?_
 refine SC.seq ?_
 refine SC.r tk [(2, vp 0 0), (3, vp 1 0), (9, vb (request_1.ID != answer_2.ID))] [] [] [] (by kernel_rfl) ?_
 refine SC.if' rfl hp (fun hp => ?_) (fun hp => ?_)
 · refine SC.r tk [(4, vb false)] [] [] [] (by kernel_rfl) ?_
   obtain rfl := some_inv' hp
   exact SC.re (js := []) tk (by kernel_rfl)
 · refine SC.skipThen ?_
   refine SC.seq ?_
   refine SC.r tk [(2, vp 0 0), (3, vp 1 0), (12, vb (answer_2.Kind == 1))] [] [] [] (by kernel_rfl) ?_
   refine SC.if' rfl hp (fun hp => ?_) (fun hp => ?_)
   · refine SC.r tk [(4, vb (((request_1.Kind == 20) || (request_1.Kind == 6)) || (request_1.Kind == 18)))] [] [] [] (by kernel_rfl) ?_
     obtain rfl := some_inv' hp
     exact SC.re (js := []) tk (by kernel_rfl)
   · refine SC.skipThen ?_
     refine SC.seq ?_
     refine SC.r tk [(2, vp 0 0), (3, vp 1 0), (27, vi .i64 request_1.Kind)] [] [] [] (by kernel_rfl) ?_
     refine SC.block ?_
     refine SC.r tk [(2, vp 0 0), (3, vp 1 0), (27, vi .i64 request_1.Kind), (28, vb (request_1.Kind == 20))] [] [] [] (by kernel_rfl) ?_
     refine SC.if' rfl hp (fun hp => ?_) (fun hp => ?_)
     · refine SC.r tk [(4, vb (answer_2.Kind == 21))] [] [] [] (by kernel_rfl) ?_
       obtain rfl := some_inv' hp
       exact SC.re (js := []) tk (by kernel_rfl)
     · refine SC.r tk [(2, vp 0 0), (3, vp 1 0), (27, vi .i64 request_1.Kind), (33, vb (request_1.Kind == 6))] [] [] [] (by kernel_rfl) ?_
       refine SC.if' rfl hp (fun hp => ?_) (fun hp => ?_)
       · refine SC.r tk [(4, vb (((answer_2.Kind == 7) && (answer_2.Source == request_1.Source)) && (answer_2.Dest == request_1.Dest)))] [] [] [] (by kernel_rfl) ?_
         obtain rfl := some_inv' hp
         exact SC.re (js := []) tk (by kernel_rfl)
       · refine SC.r tk [(3, vp 1 0), (52, vb (request_1.Kind == 18))] [] [] [] (by kernel_rfl) ?_
         refine SC.if' rfl hp (fun hp => ?_) (fun hp => ?_)
         · refine SC.r tk [(4, vb (answer_2.Kind == 19))] [] [] [] (by kernel_rfl) ?_
           obtain rfl := some_inv' hp
           exact SC.re (js := []) tk (by kernel_rfl)
         · refine SC.skipThen ?_
           refine SC.r tk [(4, vb false)] [] [] [] (by kernel_rfl) ?_
           obtain rfl := some_inv' hp
           exact SC.re (js := []) tk (by kernel_rfl)

theorem ok_wirelesslaw34_SignalAnswers (F : Nat) (request_1 : T_api_Signal) (answer_2 : T_api_Signal) (r : Bool) (hp : wirelesslaw34_SignalAnswers F request_1 answer_2 = some r) : Spec Try.prog 8 [.g (C_api_Signal request_1), .g (C_api_Signal answer_2)] [] (vb r) [] := by
 refine Spec.enter Try.func8 rfl Try.ntmps8 rfl rfl fun fx => ?_
 refine SC.seq ?_
 refine SC.reg ?_
 refine SL.eff (e_box (E := 26) (C_api_Signal request_1) (by kernel_rfl)) rfl (by kernel_rfl) ?_
 refine SL.eff (e_box (E := 26) (C_api_Signal answer_2) (by kernel_rfl)) rfl (by kernel_rfl) ?_
 refine SL.sim tk 1 [(2, vp 0 0), (3, vp 1 0)] [] [] [] (by kernel_rfl) ?_
 refine SL.nilThen ?_
 refine SC.cut (fun a w => ∃ (z_3 : Bool), wirelesslaw34_SignalAnswers_j1 F z_3 = some r ∧ A 15 0 fx [(4, vb z_3)] [] a w) ?_ ?_
 · refine SC.draw MO [true, true] (by kernel_rfl) fun kap_4 D_5 => ?_
   refine SD.takes tk D_5 [] kn0 [0, 1, 3, 4] [] [] [true, true, false, true, true, false, false, false, false, false, false] [(5, .g (C_api_Signal request_1)), (6, .g (C_api_Signal answer_2)), (8, .g (C_api_Signal request_1)), (9, .g (C_api_Signal answer_2))] rfl (by kernel_rfl) (by kernel_rfl) (by kernel_rfl) ?_
   obtain ⟨x_6, e_x_6, hp⟩ := bind_inv hp
   refine SD.all1 (i := 2) (by kernel_rfl) ?_
   refine SW.eff D_5 (i := 2) (bs' := [true, true, true, true, true, false, false, false, false, false, false]) rfl (.inl rfl) rfl (e_c Try.call18 (ok_signal_Answers F request_1 answer_2 _ e_x_6) [] [.g (C_api_Signal request_1), .g (C_api_Signal answer_2)] (vb x_6) (by kernel_rfl) (.inl rfl)) (by kernel_rfl) rfl (by kernel_rfl) ?_
   refine SD.norm (itsN := [.blk 26 (C_api_Signal request_1), .blk 26 (C_api_Signal answer_2)]) (by kernel_rfl) ?_
   obtain ⟨x_7, e_x_7, hp⟩ := bind_inv hp
   refine SD.all1 (i := 5) (by kernel_rfl) ?_
   refine SW.eff D_5 (i := 5) (bs' := [true, true, true, true, true, true, false, false, false, false, false]) rfl (.inl rfl) rfl (e_c Try.call19 (ok_wirelessref34_Answers F request_1 answer_2 _ e_x_7) [] [.g (C_api_Signal request_1), .g (C_api_Signal answer_2)] (vb x_7) (by kernel_rfl) (.inl rfl)) (by kernel_rfl) rfl (by kernel_rfl) ?_
   refine SD.takes tk D_5 [] kn0 [6, 7] [] [] [true, true, true, true, true, true, true, true, false, false, false] [(12, vb (x_6 == x_7))] rfl (by kernel_rfl) (by kernel_rfl) (by kernel_rfl) ?_
   rcases Bool.eq_false_or_eq_true ((x_6 == x_7)) with hg_8 | hg_8
   · replace hp := if_t hp hg_8
     obtain ⟨x_9, e_x_9, hp⟩ := bind_inv hp
     refine SD.all1 (i := 8) (by kernel_rfl) ?_
     refine SW.eff D_5 (i := 8) (bs' := [true, true, true, true, true, true, true, true, true, false, false]) rfl (.inr ⟨_, _, _, _, rfl, rfl, rfl, hg_8⟩) rfl (e_c Try.call12 (ok_wirelesslaw34_exampleHolds F  _ e_x_9) [] [] (vb x_9) (by kernel_rfl) (.inl rfl)) (by kernel_rfl) rfl (by kernel_rfl) ?_
     refine SD.norm (itsN := [.blk 26 (C_api_Signal request_1), .blk 26 (C_api_Signal answer_2)]) (by kernel_rfl) ?_
     refine SD.takes tk D_5 [(12, true)] (knS rfl hg_8 kn0) [9, 10] [] [] [true, true, true, true, true, true, true, true, true, true, true] [(4, vb x_9)] rfl (by kernel_rfl) (by kernel_rfl) (by kernel_rfl) ?_
     refine SD.done (by kernel_rfl) fun a w h => ?_
     exact ⟨x_9, hp, h.at (js := []) (by kernel_rfl)⟩
   · replace hp := if_f hp hg_8
     refine SD.takes tk D_5 [(12, false)] (knS rfl hg_8 kn0) [8, 9, 10] [] [] [true, true, true, true, true, true, true, true, true, true, true] [(4, vb false)] rfl (by kernel_rfl) (by kernel_rfl) (by kernel_rfl) ?_
     refine SD.done (by kernel_rfl) fun a w h => ?_
     exact ⟨false, hp, h.at (js := []) (by kernel_rfl)⟩
 · rintro a w ⟨z_3, hp, h⟩
   refine h.go ?_
   obtain rfl := some_inv' hp
   exact SC.re (js := []) tk (by kernel_rfl)

theorem ok_wirelesslaw34_SignalEnds (F : Nat) (a_1 : T_api_Signal) (b_2 : T_api_Signal) (c_3 : T_api_Signal) (r : Bool) (hp : wirelesslaw34_SignalEnds F a_1 b_2 c_3 = some r) : Spec Try.prog 9 [.g (C_api_Signal a_1), .g (C_api_Signal b_2), .g (C_api_Signal c_3)] [] (vb r) [] := by
 refine Spec.enter Try.func9 rfl Try.ntmps9 rfl rfl fun fx => ?_
 refine SC.seq ?_
 refine SC.reg ?_
 refine SL.eff (e_box (E := 26) (C_api_Signal a_1) (by kernel_rfl)) rfl (by kernel_rfl) ?_
 refine SL.eff (e_box (E := 26) (C_api_Signal b_2) (by kernel_rfl)) rfl (by kernel_rfl) ?_
 refine SL.eff (e_box (E := 26) (C_api_Signal c_3) (by kernel_rfl)) rfl (by kernel_rfl) ?_
 refine SL.sim tk 1 [(3, vp 0 0), (4, vp 1 0), (5, vp 2 0)] [] [] [] (by kernel_rfl) ?_
 refine SL.nilThen ?_
 refine SC.seq ?_
 refine SC.seq ?_
 refine SC.reg ?_
 refine SL.sim tk 2 [(3, vp 0 0), (4, vp 1 0), (5, vp 2 0), (8, .g (C_api_Signal a_1)), (9, .g (C_api_Signal b_2))] [] [] [] (by kernel_rfl) ?_
 obtain ⟨x_4, e_x_4, hp⟩ := bind_inv hp
 refine SL.eff (e_c Try.call18 (ok_signal_Answers F a_1 b_2 _ e_x_4) [] [.g (C_api_Signal a_1), .g (C_api_Signal b_2)] (vb x_4) (by kernel_rfl) (.inl rfl)) rfl (by kernel_rfl) ?_
 refine SL.norm (itsN := [.blk 26 (C_api_Signal a_1), .blk 26 (C_api_Signal b_2), .blk 26 (C_api_Signal c_3)]) (by kernel_rfl) ?_
 refine SL.sim tk 1 [(3, vp 0 0), (4, vp 1 0), (5, vp 2 0), (11, vb (!x_4))] [] [] [] (by kernel_rfl) ?_
 refine SL.nilThen ?_
 refine SC.if' rfl hp (fun hp => ?_) (fun hp => ?_)
 · refine SC.seq ?_
   refine SC.reg ?_
   obtain ⟨x_5, e_x_5, hp⟩ := bind_inv hp
   refine SL.eff (e_c Try.call12 (ok_wirelesslaw34_exampleHolds F  _ e_x_5) [] [] (vb x_5) (by kernel_rfl) (.inl rfl)) rfl (by kernel_rfl) ?_
   refine SL.sim tk 1 [(6, vb x_5)] [] [] [] (by kernel_rfl) ?_
   refine SL.nilThen ?_
   obtain rfl := some_inv' hp
   exact SC.re (js := []) tk (by kernel_rfl)
 · refine SC.skipThen ?_
   refine SC.r tk [(3, vp 0 0), (4, vp 1 0), (5, vp 2 0), (7, vb (((a_1.Kind == 20) || (a_1.Kind == 6)) || (a_1.Kind == 18)))] [] [] [] (by kernel_rfl) ?_
   refine SC.seq ?_
   refine SC.reg ?_
   refine SL.sim tk 9 [(3, vp 0 0), (4, vp 1 0), (5, vp 2 0), (34, vb ((((a_1.Kind == 20) || (a_1.Kind == 6)) || (a_1.Kind == 18)) && (a_1.ID == b_2.ID)))] [] [] [] (by kernel_rfl) ?_
   obtain ⟨z_7, hz, hpr⟩ := bind_inv hp
   clear hp
   refine SL.cutAt 5 (fun a w => A 49 0 fx [(3, vp 0 0), (4, vp 1 0), (39, vb z_7)] [.blk 26 (C_api_Signal a_1), .blk 26 (C_api_Signal b_2)] a w) ?_ ?_
   · have hp := hz
     rcases Bool.eq_false_or_eq_true (((((a_1.Kind == 20) || (a_1.Kind == 6)) || (a_1.Kind == 18)) && (a_1.ID == b_2.ID))) with hg_6 | hg_6
     · replace hp := if_t hp hg_6
       refine SL.yes rfl rfl hg_6 ?_
       refine SL.sim tk 1 [(3, vp 0 0), (4, vp 1 0), (5, vp 2 0), (34, vb ((((a_1.Kind == 20) || (a_1.Kind == 6)) || (a_1.Kind == 18)) && (a_1.ID == b_2.ID))), (35, .g (C_api_Signal b_2))] [] [] [] (by kernel_rfl) ?_
       refine SL.yes rfl rfl hg_6 ?_
       refine SL.sim tk 1 [(3, vp 0 0), (4, vp 1 0), (34, vb ((((a_1.Kind == 20) || (a_1.Kind == 6)) || (a_1.Kind == 18)) && (a_1.ID == b_2.ID))), (35, .g (C_api_Signal b_2)), (36, .g (C_api_Signal c_3))] [] [] [] (by kernel_rfl) ?_
       refine SL.yes rfl rfl hg_6 ?_
       obtain ⟨x_17, e_x_17, hp⟩ := bind_inv hp
       refine SL.eff (e_c Try.call18 (ok_signal_Answers F b_2 c_3 _ e_x_17) [] [.g (C_api_Signal b_2), .g (C_api_Signal c_3)] (vb x_17) (by kernel_rfl) (.inl rfl)) rfl (by kernel_rfl) ?_
       refine SL.yes rfl rfl hg_6 ?_
       refine SL.sim tk 1 [(3, vp 0 0), (4, vp 1 0), (34, vb ((((a_1.Kind == 20) || (a_1.Kind == 6)) || (a_1.Kind == 18)) && (a_1.ID == b_2.ID))), (38, vb (!x_17))] [] [] [] (by kernel_rfl) ?_
       refine SL.pickt rfl hg_6 rfl rfl ?_
       refine SL.nilJ fun a w h => ?_
       obtain rfl := some_inv' hp
       exact h.at (js := [.g 0, .g 1]) (by kernel_rfl)
     · replace hp := if_f hp hg_6
       refine SL.no rfl rfl hg_6 rfl ?_
       refine SL.no rfl rfl hg_6 rfl ?_
       refine SL.no rfl rfl hg_6 rfl ?_
       refine SL.no rfl rfl hg_6 rfl ?_
       refine SL.pickf rfl hg_6 rfl rfl ?_
       refine SL.nilJ fun a w h => ?_
       obtain rfl := some_inv' hp
       exact h.at (js := [.g 0, .g 1]) (by kernel_rfl)
   · intro a w h
     have hp := hpr; clear hpr hz
     refine h.goL ?_
     refine SL.sim tk 1 [(3, vp 0 0), (4, vp 1 0), (40, vb z_7)] [] [] [] (by kernel_rfl) ?_
     obtain ⟨z_9, hz, hpr⟩ := bind_inv hp
     clear hp
     refine SL.cutAt 5 (fun a w => A 49 0 fx [(45, vb z_9)] [] a w) ?_ ?_
     · have hp := hz
       rcases Bool.eq_false_or_eq_true (z_7) with hg_8 | hg_8
       · replace hp := if_t hp hg_8
         refine SL.yes rfl rfl hg_8 ?_
         refine SL.sim tk 1 [(3, vp 0 0), (40, vb z_7), (41, .g (C_api_Signal b_2))] [] [] [] (by kernel_rfl) ?_
         refine SL.yes rfl rfl hg_8 ?_
         refine SL.sim tk 1 [(40, vb z_7), (41, .g (C_api_Signal b_2)), (42, .g (C_api_Signal a_1))] [] [] [] (by kernel_rfl) ?_
         refine SL.yes rfl rfl hg_8 ?_
         obtain ⟨x_15, e_x_15, hp⟩ := bind_inv hp
         refine SL.eff (e_c Try.call18 (ok_signal_Answers F b_2 a_1 _ e_x_15) [] [.g (C_api_Signal b_2), .g (C_api_Signal a_1)] (vb x_15) (by kernel_rfl) (.inl rfl)) rfl (by kernel_rfl) ?_
         refine SL.yes rfl rfl hg_8 ?_
         refine SL.sim tk 1 [(40, vb z_7), (44, vb (!x_15))] [] [] [] (by kernel_rfl) ?_
         refine SL.pickt rfl hg_8 rfl rfl ?_
         refine SL.nilJ fun a w h => ?_
         obtain rfl := some_inv' hp
         exact h.at (js := []) (by kernel_rfl)
       · replace hp := if_f hp hg_8
         refine SL.no rfl rfl hg_8 rfl ?_
         refine SL.no rfl rfl hg_8 rfl ?_
         refine SL.no rfl rfl hg_8 rfl ?_
         refine SL.no rfl rfl hg_8 rfl ?_
         refine SL.pickf rfl hg_8 rfl rfl ?_
         refine SL.nilJ fun a w h => ?_
         obtain rfl := some_inv' hp
         exact h.at (js := []) (by kernel_rfl)
     · intro a w h
       have hp := hpr; clear hpr hz
       refine h.goL ?_
       refine SL.sim tk 1 [(46, vb z_9)] [] [] [] (by kernel_rfl) ?_
       obtain ⟨z_11, hz, hpr⟩ := bind_inv hp
       clear hp
       refine SL.cutAt 2 (fun a w => A 49 0 fx [(48, vb z_11)] [] a w) ?_ ?_
       · have hp := hz
         rcases Bool.eq_false_or_eq_true (z_9) with hg_10 | hg_10
         · replace hp := if_t hp hg_10
           refine SL.yes rfl rfl hg_10 ?_
           obtain ⟨x_13, e_x_13, hp⟩ := bind_inv hp
           refine SL.eff (e_c Try.call12 (ok_wirelesslaw34_exampleHolds F  _ e_x_13) [] [] (vb x_13) (by kernel_rfl) (.inl rfl)) rfl (by kernel_rfl) ?_
           refine SL.pickt rfl hg_10 rfl rfl ?_
           refine SL.nilJ fun a w h => ?_
           obtain rfl := some_inv' hp
           exact h.at (js := []) (by kernel_rfl)
         · replace hp := if_f hp hg_10
           refine SL.no rfl rfl hg_10 rfl ?_
           refine SL.pickf rfl hg_10 rfl rfl ?_
           refine SL.nilJ fun a w h => ?_
           obtain rfl := some_inv' hp
           exact h.at (js := []) (by kernel_rfl)
       · intro a w h
         have hp := hpr; clear hpr hz
         refine h.goL ?_
         refine SL.sim tk 1 [(6, vb z_11)] [] [] [] (by kernel_rfl) ?_
         refine SL.nilThen ?_
         obtain rfl := some_inv' hp
         exact SC.re (js := []) tk (by kernel_rfl)
end V
end Go.Proofs.Ytndnilndhmalfaa
