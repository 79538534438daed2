/-
  Walks, written by program: each Go function returns what its pure twin says.
-/
import Derived.Test.YtndnilndhmalfaaRep
namespace Go.Proofs.Ytndnilndhmalfaa
namespace V
theorem ok_signal_known (F : Nat) (kind_1 : Int) (r : Bool) (hp : signal_known F kind_1 = some r) : Spec Try.prog 20 [vi .i64 kind_1] [] (vb r) [] := by
 refine Spec.enter Try.func20 rfl Try.ntmps20 rfl rfl fun fx => ?_
 refine SC.r tk [(0, vi .i64 kind_1)] [] [] [] (by kernel_rfl) ?_
 refine SC.seq ?_
 refine SC.r tk [(3, vi .i64 kind_1)] [] [] [] (by kernel_rfl) ?_
 refine SC.block ?_
 refine SC.cut (fun a w => ∃ (z_2 : Bool), signal_known_j1 F z_2 = some r ∧ A 13 0 fx [(4, vb z_2)] [] a w) ?_ ?_
 · refine SC.r tk [(3, vi .i64 kind_1), (4, vb (kind_1 == 1))] [] [] [] (by kernel_rfl) ?_
   refine SC.if' rfl hp (fun hp => ?_) (fun hp => ?_)
   · refine SC.skipJ fun a w h => ?_
     exact ⟨(kind_1 == 1), hp, h.at (js := []) (by kernel_rfl)⟩
   · refine SC.r tk [(3, vi .i64 kind_1), (4, vb (kind_1 == 6))] [] [] [] (by kernel_rfl) ?_
     refine SC.if' rfl hp (fun hp => ?_) (fun hp => ?_)
     · refine SC.skipJ fun a w h => ?_
       exact ⟨(kind_1 == 6), hp, h.at (js := []) (by kernel_rfl)⟩
     · refine SC.r tk [(3, vi .i64 kind_1), (4, vb (kind_1 == 7))] [] [] [] (by kernel_rfl) ?_
       refine SC.if' rfl hp (fun hp => ?_) (fun hp => ?_)
       · refine SC.skipJ fun a w h => ?_
         exact ⟨(kind_1 == 7), hp, h.at (js := []) (by kernel_rfl)⟩
       · refine SC.r tk [(3, vi .i64 kind_1), (4, vb (kind_1 == 18))] [] [] [] (by kernel_rfl) ?_
         refine SC.if' rfl hp (fun hp => ?_) (fun hp => ?_)
         · refine SC.skipJ fun a w h => ?_
           exact ⟨(kind_1 == 18), hp, h.at (js := []) (by kernel_rfl)⟩
         · refine SC.r tk [(3, vi .i64 kind_1), (4, vb (kind_1 == 19))] [] [] [] (by kernel_rfl) ?_
           refine SC.if' rfl hp (fun hp => ?_) (fun hp => ?_)
           · refine SC.skipJ fun a w h => ?_
             exact ⟨(kind_1 == 19), hp, h.at (js := []) (by kernel_rfl)⟩
           · refine SC.r tk [(3, vi .i64 kind_1), (4, vb (kind_1 == 20))] [] [] [] (by kernel_rfl) ?_
             refine SC.if' rfl hp (fun hp => ?_) (fun hp => ?_)
             · refine SC.skipJ fun a w h => ?_
               exact ⟨(kind_1 == 20), hp, h.at (js := []) (by kernel_rfl)⟩
             · refine SC.r tk [(3, vi .i64 kind_1), (4, vb (kind_1 == 21))] [] [] [] (by kernel_rfl) ?_
               refine SC.if' rfl hp (fun hp => ?_) (fun hp => ?_)
               · refine SC.skipJ fun a w h => ?_
                 exact ⟨(kind_1 == 21), hp, h.at (js := []) (by kernel_rfl)⟩
               · refine SC.reg ?_
                 refine SL.sim tk 2 [(4, vb (kind_1 == 22))] [] [] [] (by kernel_rfl) ?_
                 refine SL.nilJ fun a w h => ?_
                 exact ⟨(kind_1 == 22), hp, h.at (js := []) (by kernel_rfl)⟩
 · rintro a w ⟨z_2, hp, h⟩
   refine h.go ?_
   refine SC.if' rfl hp (fun hp => ?_) (fun hp => ?_)
   · refine SC.r tk [(2, vb true)] [] [] [] (by kernel_rfl) ?_
     obtain rfl := some_inv' hp
     exact SC.re (js := []) tk (by kernel_rfl)
   · refine SC.skipThen ?_
     refine SC.r tk [(2, vb false)] [] [] [] (by kernel_rfl) ?_
     obtain rfl := some_inv' hp
     exact SC.re (js := []) tk (by kernel_rfl)

theorem ok_signal_used (F : Nat) (s_1 : T_api_Signal) (r : T_api_Signal) (hp : signal_used F s_1 = some r) : Spec Try.prog 21 [.g (C_api_Signal s_1)] [] (.g (C_api_Signal (T_api_Signal.mk r.Kind r.ID r.PSM r.Source r.Dest r.MTU r.MPS r.Credits r.Result (T_api_Update.mk r.Update.WinSize r.Update.WinOffset r.Update.Interval r.Update.Latency r.Update.Timeout)))) [] := by
 refine Spec.enter Try.func21 rfl Try.ntmps21 rfl rfl fun fx => ?_
 refine SC.seq ?_
 refine SC.reg ?_
 refine SL.eff (e_box (E := 26) (C_api_Signal s_1) (by kernel_rfl)) rfl (by kernel_rfl) ?_
 refine SL.eff (e_alloc (E := 26) tk (C_api_Signal (T_api_Signal.mk 0 0 0 0 0 0 0 0 0 (T_api_Update.mk 0 0 0 0 0))) (by kernel_rfl)) rfl (by kernel_rfl) ?_
 refine SL.nilThen ?_
 refine SC.seq ?_
 refine SC.reg ?_
 refine SL.sim tk 5 [(1, vp 0 0), (2, vp 1 0), (8, .g (C_api_Signal ({ s_1 with PSM := 0, Source := 0, Dest := 0, MTU := 0, MPS := 0, Credits := 0, Result := 0, Update := (T_api_Update.mk 0 0 0 0 0) })))] [] [] [] (by kernel_rfl) ?_
 refine SL.eff (e_alloc (E := 26) tk (C_api_Signal (T_api_Signal.mk 0 0 0 0 0 0 0 0 0 (T_api_Update.mk 0 0 0 0 0))) (by kernel_rfl)) rfl (by kernel_rfl) ?_
 refine SL.sim tk 1 [(1, vp 0 0), (2, vp 1 0), (3, vp 2 0)] [(2, 26, (C_api_Signal ({ s_1 with PSM := 0, Source := 0, Dest := 0, MTU := 0, MPS := 0, Credits := 0, Result := 0, Update := (T_api_Update.mk 0 0 0 0 0) })))] [] [] (by kernel_rfl) ?_
 refine SL.nilThen ?_
 refine SC.cut (fun a w => ∃ (c_14 : T_api_Signal), signal_used_j1 F s_1 c_14 = some r ∧ A 76 0 fx [(2, vp 0 0), (3, vp 1 0)] [.blk 26 (C_api_Signal (T_api_Signal.mk 0 0 0 0 0 0 0 0 0 (T_api_Update.mk 0 0 0 0 0))), .blk 26 (C_api_Signal ({ c_14 with Kind := s_1.Kind, ID := s_1.ID }))] a w) ?_ ?_
 · refine SC.r tk [(1, vp 0 0), (2, vp 1 0), (3, vp 2 0), (10, vi .i64 s_1.Kind)] [] [] [] (by kernel_rfl) ?_
   refine SC.block ?_
   refine SC.seq ?_
   refine SC.block ?_
   refine SC.seq ?_
   refine SC.block ?_
   refine SC.seq ?_
   refine SC.block ?_
   refine SC.seq ?_
   refine SC.block ?_
   refine SC.cut (fun a w => signal_used_j2 F s_1 = some r ∧ A 76 0 fx [(1, vp 0 0), (2, vp 1 0), (3, vp 2 0)] [.blk 26 (C_api_Signal s_1), .blk 26 (C_api_Signal (T_api_Signal.mk 0 0 0 0 0 0 0 0 0 (T_api_Update.mk 0 0 0 0 0))), .blk 26 (C_api_Signal ({ s_1 with PSM := 0, Source := 0, Dest := 0, MTU := 0, MPS := 0, Credits := 0, Result := 0, Update := (T_api_Update.mk 0 0 0 0 0) }))] a w) ?_ ?_
   · refine SC.block ?_
     refine SC.block ?_
     refine SC.cut (fun a w => signal_used_j4 F s_1 = some r ∧ A 76 0 fx [(1, vp 0 0), (2, vp 1 0), (3, vp 2 0)] [.blk 26 (C_api_Signal s_1), .blk 26 (C_api_Signal (T_api_Signal.mk 0 0 0 0 0 0 0 0 0 (T_api_Update.mk 0 0 0 0 0))), .blk 26 (C_api_Signal ({ s_1 with PSM := 0, Source := 0, Dest := 0, MTU := 0, MPS := 0, Credits := 0, Result := 0, Update := (T_api_Update.mk 0 0 0 0 0) }))] a w) ?_ ?_
     · refine SC.block ?_
       refine SC.block ?_
       refine SC.seq ?_
       refine SC.seq ?_
       refine SC.r tk [(1, vp 0 0), (2, vp 1 0), (3, vp 2 0), (10, vi .i64 s_1.Kind), (11, vb (s_1.Kind == 19))] [] [] [] (by kernel_rfl) ?_
       refine SC.if' rfl hp (fun hp => ?_) (fun hp => ?_)
       · refine SC.exitJ rfl fun a w h => ?_
         exact ⟨hp, h.at (js := [.g 0, .g 1, .g 2]) (by kernel_rfl)⟩
       · refine SC.skipThen ?_
         refine SC.seq ?_
         refine SC.r tk [(1, vp 0 0), (2, vp 1 0), (3, vp 2 0), (10, vi .i64 s_1.Kind), (13, vb (s_1.Kind == 1))] [] [] [] (by kernel_rfl) ?_
         refine SC.if' rfl hp (fun hp => ?_) (fun hp => ?_)
         · refine SC.exitJ rfl fun a w h => ?_
           exact ⟨hp, h.at (js := [.g 0, .g 1, .g 2]) (by kernel_rfl)⟩
         · refine SC.skipThen ?_
           refine SC.seq ?_
           refine SC.r tk [(1, vp 0 0), (2, vp 1 0), (3, vp 2 0), (10, vi .i64 s_1.Kind), (15, vb (s_1.Kind == 7))] [] [] [] (by kernel_rfl) ?_
           refine SC.if' rfl hp (fun hp => ?_) (fun hp => ?_)
           · refine SC.exitJ rfl fun a w h => ?_
             exact ⟨hp, h.at (js := [.g 0, .g 1, .g 2]) (by kernel_rfl)⟩
           · refine SC.skipThen ?_
             refine SC.seq ?_
             refine SC.r tk [(1, vp 0 0), (2, vp 1 0), (3, vp 2 0), (10, vi .i64 s_1.Kind), (17, vb (s_1.Kind == 6))] [] [] [] (by kernel_rfl) ?_
             refine SC.if' rfl hp (fun hp => ?_) (fun hp => ?_)
             · refine SC.exitJ rfl fun a w h => ?_
               exact ⟨hp, h.at (js := [.g 0, .g 1, .g 2]) (by kernel_rfl)⟩
             · refine SC.skipThen ?_
               refine SC.seq ?_
               refine SC.r tk [(1, vp 0 0), (2, vp 1 0), (3, vp 2 0), (10, vi .i64 s_1.Kind), (19, vb (s_1.Kind == 18))] [] [] [] (by kernel_rfl) ?_
               refine SC.if' rfl hp (fun hp => ?_) (fun hp => ?_)
               · refine SC.exitThen rfl ?_
                 refine SC.r tk [(2, vp 1 0), (3, vp 2 0)] [(2, 26, (C_api_Signal ({ s_1 with PSM := 0, Source := 0, Dest := 0, MTU := 0, MPS := 0, Credits := 0, Result := 0 })))] [] [] (by kernel_rfl) ?_
                 refine SC.exitJ rfl fun a w h => ?_
                 exact ⟨{ s_1 with PSM := 0, Source := 0, Dest := 0, MTU := 0, MPS := 0, Credits := 0, Result := 0 }, hp, h.at (js := [.g 1, .g 2]) (by kernel_rfl)⟩
               · refine SC.skipThen ?_
                 refine SC.seq ?_
                 refine SC.r tk [(1, vp 0 0), (2, vp 1 0), (3, vp 2 0), (10, vi .i64 s_1.Kind), (21, vb (s_1.Kind == 20))] [] [] [] (by kernel_rfl) ?_
                 refine SC.if' rfl hp (fun hp => ?_) (fun hp => ?_)
                 · refine SC.exitThen rfl ?_
                   refine SC.cut (fun a w => signal_used_j5 F s_1 = some r ∧ A 76 0 fx [(2, vp 0 0), (3, vp 1 0)] [.blk 26 (C_api_Signal (T_api_Signal.mk 0 0 0 0 0 0 0 0 0 (T_api_Update.mk 0 0 0 0 0))), .blk 26 (C_api_Signal ({ s_1 with Dest := 0, Result := 0, Update := (T_api_Update.mk 0 0 0 0 0) }))] a w) ?_ ?_
                   · refine SC.draw MO [true, true, false] (by kernel_rfl) fun kap_17 D_18 => ?_
                     refine SD.takes tk D_18 [] kn0 [0, 1, 2, 3, 4, 5, 6, 7, 8, 9, 10] [] [] [true, true, true, true, true, true, true, true, true, true, true, false, false, false, false, false, false, false, false, false] [(2, vp 1 0), (3, vp 2 0), (40, vi .u16 s_1.PSM), (42, vi .u16 s_1.Source), (44, vi .i64 s_1.MTU), (46, vi .i64 s_1.MPS), (48, vi .i64 s_1.Credits), (49, vp 2 2)] rfl (by kernel_rfl) (by kernel_rfl) (by kernel_rfl) ?_
                     refine SD.all1 (i := 11) (by kernel_rfl) ?_
                     refine SW.store D_18 tk (i := 11) (q := 2) (T := 26) (cs := (C_api_Signal ({ s_1 with Source := 0, Dest := 0, MTU := 0, MPS := 0, Credits := 0, Result := 0, Update := (T_api_Update.mk 0 0 0 0 0) }))) (bs' := [true, true, true, true, true, true, true, true, true, true, true, true, false, false, false, false, false, false, false, false]) rfl (by kernel_rfl) rfl rfl (by kernel_rfl) ?_
                     refine SD.norm (itsN := [.blk 26 (C_api_Signal s_1), .blk 26 (C_api_Signal (T_api_Signal.mk 0 0 0 0 0 0 0 0 0 (T_api_Update.mk 0 0 0 0 0))), .blk 26 (C_api_Signal ({ s_1 with Source := 0, Dest := 0, MTU := 0, MPS := 0, Credits := 0, Result := 0, Update := (T_api_Update.mk 0 0 0 0 0) }))]) (by kernel_rfl) ?_
                     refine SD.takes tk D_18 [] kn0 [12] [] [] [true, true, true, true, true, true, true, true, true, true, true, true, true, false, false, false, false, false, false, false] [(2, vp 1 0), (3, vp 2 0), (42, vi .u16 s_1.Source), (44, vi .i64 s_1.MTU), (46, vi .i64 s_1.MPS), (48, vi .i64 s_1.Credits), (50, vp 2 3)] rfl (by kernel_rfl) (by kernel_rfl) (by kernel_rfl) ?_
                     refine SD.all1 (i := 13) (by kernel_rfl) ?_
                     refine SW.store D_18 tk (i := 13) (q := 2) (T := 26) (cs := (C_api_Signal ({ s_1 with Dest := 0, MTU := 0, MPS := 0, Credits := 0, Result := 0, Update := (T_api_Update.mk 0 0 0 0 0) }))) (bs' := [true, true, true, true, true, true, true, true, true, true, true, true, true, true, false, false, false, false, false, false]) rfl (by kernel_rfl) rfl rfl (by kernel_rfl) ?_
                     refine SD.takes tk D_18 [] kn0 [14] [] [] [true, true, true, true, true, true, true, true, true, true, true, true, true, true, true, false, false, false, false, false] [(2, vp 1 0), (3, vp 2 0), (44, vi .i64 s_1.MTU), (46, vi .i64 s_1.MPS), (48, vi .i64 s_1.Credits), (51, vp 2 5)] rfl (by kernel_rfl) (by kernel_rfl) (by kernel_rfl) ?_
                     refine SD.all1 (i := 15) (by kernel_rfl) ?_
                     refine SW.store D_18 tk (i := 15) (q := 2) (T := 26) (cs := (C_api_Signal ({ s_1 with Dest := 0, MPS := 0, Credits := 0, Result := 0, Update := (T_api_Update.mk 0 0 0 0 0) }))) (bs' := [true, true, true, true, true, true, true, true, true, true, true, true, true, true, true, true, false, false, false, false]) rfl (by kernel_rfl) rfl rfl (by kernel_rfl) ?_
                     refine SD.norm (itsN := [.blk 26 (C_api_Signal s_1), .blk 26 (C_api_Signal (T_api_Signal.mk 0 0 0 0 0 0 0 0 0 (T_api_Update.mk 0 0 0 0 0))), .blk 26 (C_api_Signal ({ s_1 with Dest := 0, MPS := 0, Credits := 0, Result := 0, Update := (T_api_Update.mk 0 0 0 0 0) }))]) (by kernel_rfl) ?_
                     refine SD.takes tk D_18 [] kn0 [16] [] [] [true, true, true, true, true, true, true, true, true, true, true, true, true, true, true, true, true, false, false, false] [(2, vp 1 0), (3, vp 2 0), (46, vi .i64 s_1.MPS), (48, vi .i64 s_1.Credits), (52, vp 2 6)] rfl (by kernel_rfl) (by kernel_rfl) (by kernel_rfl) ?_
                     refine SD.all1 (i := 17) (by kernel_rfl) ?_
                     refine SW.store D_18 tk (i := 17) (q := 2) (T := 26) (cs := (C_api_Signal ({ s_1 with Dest := 0, Credits := 0, Result := 0, Update := (T_api_Update.mk 0 0 0 0 0) }))) (bs' := [true, true, true, true, true, true, true, true, true, true, true, true, true, true, true, true, true, true, false, false]) rfl (by kernel_rfl) rfl rfl (by kernel_rfl) ?_
                     refine SD.takes tk D_18 [] kn0 [18] [] [] [true, true, true, true, true, true, true, true, true, true, true, true, true, true, true, true, true, true, true, false] [(2, vp 1 0), (3, vp 2 0), (48, vi .i64 s_1.Credits), (53, vp 2 7)] rfl (by kernel_rfl) (by kernel_rfl) (by kernel_rfl) ?_
                     refine SD.all1 (i := 19) (by kernel_rfl) ?_
                     refine SW.store D_18 tk (i := 19) (q := 2) (T := 26) (cs := (C_api_Signal ({ s_1 with Dest := 0, Result := 0, Update := (T_api_Update.mk 0 0 0 0 0) }))) (bs' := [true, true, true, true, true, true, true, true, true, true, true, true, true, true, true, true, true, true, true, true]) rfl (by kernel_rfl) rfl rfl (by kernel_rfl) ?_
                     refine SD.norm (itsN := [.blk 26 (C_api_Signal s_1), .blk 26 (C_api_Signal (T_api_Signal.mk 0 0 0 0 0 0 0 0 0 (T_api_Update.mk 0 0 0 0 0))), .blk 26 (C_api_Signal ({ s_1 with Dest := 0, Result := 0, Update := (T_api_Update.mk 0 0 0 0 0) }))]) (by kernel_rfl) ?_
                     refine SD.done (by kernel_rfl) fun a w h => ?_
                     exact ⟨hp, h.at (js := [.g 1, .g 2]) (by kernel_rfl)⟩
                   · rintro a w ⟨hp, h⟩
                     refine h.go ?_
                     refine SC.exitJ rfl fun a w h => ?_
                     exact ⟨{ s_1 with Dest := 0, Result := 0, Update := (T_api_Update.mk 0 0 0 0 0) }, hp, h.at (js := [.g 0, .g 1]) (by kernel_rfl)⟩
                 · refine SC.skipThen ?_
                   refine SC.seq ?_
                   refine SC.r tk [(1, vp 0 0), (2, vp 1 0), (3, vp 2 0), (10, vi .i64 s_1.Kind), (23, vb (s_1.Kind == 21))] [] [] [] (by kernel_rfl) ?_
                   refine SC.if' rfl hp (fun hp => ?_) (fun hp => ?_)
                   · refine SC.exitThen rfl ?_
                     refine SC.cut (fun a w => signal_used_j6 F s_1 = some r ∧ A 76 0 fx [(2, vp 0 0), (3, vp 1 0)] [.blk 26 (C_api_Signal (T_api_Signal.mk 0 0 0 0 0 0 0 0 0 (T_api_Update.mk 0 0 0 0 0))), .blk 26 (C_api_Signal ({ s_1 with PSM := 0, Dest := 0, Update := (T_api_Update.mk 0 0 0 0 0) }))] a w) ?_ ?_
                     · refine SC.draw MO [true, true, false] (by kernel_rfl) fun kap_19 D_20 => ?_
                       refine SD.takes tk D_20 [] kn0 [0, 1, 2, 3, 4, 5, 6, 7, 8, 9, 10] [] [] [true, true, true, true, true, true, true, true, true, true, true, false, false, false, false, false, false, false, false, false] [(2, vp 1 0), (3, vp 2 0), (55, vi .u16 s_1.Source), (57, vi .i64 s_1.MTU), (59, vi .i64 s_1.MPS), (61, vi .i64 s_1.Credits), (63, vi .i64 s_1.Result), (64, vp 2 3)] rfl (by kernel_rfl) (by kernel_rfl) (by kernel_rfl) ?_
                       refine SD.all1 (i := 11) (by kernel_rfl) ?_
                       refine SW.store D_20 tk (i := 11) (q := 2) (T := 26) (cs := (C_api_Signal ({ s_1 with PSM := 0, Dest := 0, MTU := 0, MPS := 0, Credits := 0, Result := 0, Update := (T_api_Update.mk 0 0 0 0 0) }))) (bs' := [true, true, true, true, true, true, true, true, true, true, true, true, false, false, false, false, false, false, false, false]) rfl (by kernel_rfl) rfl rfl (by kernel_rfl) ?_
                       refine SD.norm (itsN := [.blk 26 (C_api_Signal s_1), .blk 26 (C_api_Signal (T_api_Signal.mk 0 0 0 0 0 0 0 0 0 (T_api_Update.mk 0 0 0 0 0))), .blk 26 (C_api_Signal ({ s_1 with PSM := 0, Dest := 0, MTU := 0, MPS := 0, Credits := 0, Result := 0, Update := (T_api_Update.mk 0 0 0 0 0) }))]) (by kernel_rfl) ?_
                       refine SD.takes tk D_20 [] kn0 [12] [] [] [true, true, true, true, true, true, true, true, true, true, true, true, true, false, false, false, false, false, false, false] [(2, vp 1 0), (3, vp 2 0), (57, vi .i64 s_1.MTU), (59, vi .i64 s_1.MPS), (61, vi .i64 s_1.Credits), (63, vi .i64 s_1.Result), (65, vp 2 5)] rfl (by kernel_rfl) (by kernel_rfl) (by kernel_rfl) ?_
                       refine SD.all1 (i := 13) (by kernel_rfl) ?_
                       refine SW.store D_20 tk (i := 13) (q := 2) (T := 26) (cs := (C_api_Signal ({ s_1 with PSM := 0, Dest := 0, MPS := 0, Credits := 0, Result := 0, Update := (T_api_Update.mk 0 0 0 0 0) }))) (bs' := [true, true, true, true, true, true, true, true, true, true, true, true, true, true, false, false, false, false, false, false]) rfl (by kernel_rfl) rfl rfl (by kernel_rfl) ?_
                       refine SD.takes tk D_20 [] kn0 [14] [] [] [true, true, true, true, true, true, true, true, true, true, true, true, true, true, true, false, false, false, false, false] [(2, vp 1 0), (3, vp 2 0), (59, vi .i64 s_1.MPS), (61, vi .i64 s_1.Credits), (63, vi .i64 s_1.Result), (66, vp 2 6)] rfl (by kernel_rfl) (by kernel_rfl) (by kernel_rfl) ?_
                       refine SD.all1 (i := 15) (by kernel_rfl) ?_
                       refine SW.store D_20 tk (i := 15) (q := 2) (T := 26) (cs := (C_api_Signal ({ s_1 with PSM := 0, Dest := 0, Credits := 0, Result := 0, Update := (T_api_Update.mk 0 0 0 0 0) }))) (bs' := [true, true, true, true, true, true, true, true, true, true, true, true, true, true, true, true, false, false, false, false]) rfl (by kernel_rfl) rfl rfl (by kernel_rfl) ?_
                       refine SD.norm (itsN := [.blk 26 (C_api_Signal s_1), .blk 26 (C_api_Signal (T_api_Signal.mk 0 0 0 0 0 0 0 0 0 (T_api_Update.mk 0 0 0 0 0))), .blk 26 (C_api_Signal ({ s_1 with PSM := 0, Dest := 0, Credits := 0, Result := 0, Update := (T_api_Update.mk 0 0 0 0 0) }))]) (by kernel_rfl) ?_
                       refine SD.takes tk D_20 [] kn0 [16] [] [] [true, true, true, true, true, true, true, true, true, true, true, true, true, true, true, true, true, false, false, false] [(2, vp 1 0), (3, vp 2 0), (61, vi .i64 s_1.Credits), (63, vi .i64 s_1.Result), (67, vp 2 7)] rfl (by kernel_rfl) (by kernel_rfl) (by kernel_rfl) ?_
                       refine SD.all1 (i := 17) (by kernel_rfl) ?_
                       refine SW.store D_20 tk (i := 17) (q := 2) (T := 26) (cs := (C_api_Signal ({ s_1 with PSM := 0, Dest := 0, Result := 0, Update := (T_api_Update.mk 0 0 0 0 0) }))) (bs' := [true, true, true, true, true, true, true, true, true, true, true, true, true, true, true, true, true, true, false, false]) rfl (by kernel_rfl) rfl rfl (by kernel_rfl) ?_
                       refine SD.takes tk D_20 [] kn0 [18] [] [] [true, true, true, true, true, true, true, true, true, true, true, true, true, true, true, true, true, true, true, false] [(2, vp 1 0), (3, vp 2 0), (63, vi .i64 s_1.Result), (68, vp 2 8)] rfl (by kernel_rfl) (by kernel_rfl) (by kernel_rfl) ?_
                       refine SD.all1 (i := 19) (by kernel_rfl) ?_
                       refine SW.store D_20 tk (i := 19) (q := 2) (T := 26) (cs := (C_api_Signal ({ s_1 with PSM := 0, Dest := 0, Update := (T_api_Update.mk 0 0 0 0 0) }))) (bs' := [true, true, true, true, true, true, true, true, true, true, true, true, true, true, true, true, true, true, true, true]) rfl (by kernel_rfl) rfl rfl (by kernel_rfl) ?_
                       refine SD.norm (itsN := [.blk 26 (C_api_Signal s_1), .blk 26 (C_api_Signal (T_api_Signal.mk 0 0 0 0 0 0 0 0 0 (T_api_Update.mk 0 0 0 0 0))), .blk 26 (C_api_Signal ({ s_1 with PSM := 0, Dest := 0, Update := (T_api_Update.mk 0 0 0 0 0) }))]) (by kernel_rfl) ?_
                       refine SD.done (by kernel_rfl) fun a w h => ?_
                       exact ⟨hp, h.at (js := [.g 1, .g 2]) (by kernel_rfl)⟩
                     · rintro a w ⟨hp, h⟩
                       refine h.go ?_
                       refine SC.exitJ rfl fun a w h => ?_
                       exact ⟨{ s_1 with PSM := 0, Dest := 0, Update := (T_api_Update.mk 0 0 0 0 0) }, hp, h.at (js := [.g 0, .g 1]) (by kernel_rfl)⟩
                   · refine SC.skipThen ?_
                     refine SC.r tk [(1, vp 0 0), (2, vp 1 0), (3, vp 2 0), (25, vb (s_1.Kind == 22))] [] [] [] (by kernel_rfl) ?_
                     refine SC.if' rfl hp (fun hp => ?_) (fun hp => ?_)
                     · refine SC.exitThen rfl ?_
                       refine SC.cut (fun a w => signal_used_j7 F s_1 = some r ∧ A 76 0 fx [(2, vp 0 0), (3, vp 1 0)] [.blk 26 (C_api_Signal (T_api_Signal.mk 0 0 0 0 0 0 0 0 0 (T_api_Update.mk 0 0 0 0 0))), .blk 26 (C_api_Signal ({ s_1 with PSM := 0, Dest := 0, MTU := 0, MPS := 0, Result := 0, Update := (T_api_Update.mk 0 0 0 0 0) }))] a w) ?_ ?_
                       · refine SC.draw MO [true, true, false] (by kernel_rfl) fun kap_21 D_22 => ?_
                         refine SD.takes tk D_22 [] kn0 [0, 1, 2, 3, 4] [] [] [true, true, true, true, true, false, false, false] [(2, vp 1 0), (3, vp 2 0), (70, vi .u16 s_1.Source), (72, vi .i64 s_1.Credits), (73, vp 2 3)] rfl (by kernel_rfl) (by kernel_rfl) (by kernel_rfl) ?_
                         refine SD.all1 (i := 5) (by kernel_rfl) ?_
                         refine SW.store D_22 tk (i := 5) (q := 2) (T := 26) (cs := (C_api_Signal ({ s_1 with PSM := 0, Dest := 0, MTU := 0, MPS := 0, Credits := 0, Result := 0, Update := (T_api_Update.mk 0 0 0 0 0) }))) (bs' := [true, true, true, true, true, true, false, false]) rfl (by kernel_rfl) rfl rfl (by kernel_rfl) ?_
                         refine SD.norm (itsN := [.blk 26 (C_api_Signal s_1), .blk 26 (C_api_Signal (T_api_Signal.mk 0 0 0 0 0 0 0 0 0 (T_api_Update.mk 0 0 0 0 0))), .blk 26 (C_api_Signal ({ s_1 with PSM := 0, Dest := 0, MTU := 0, MPS := 0, Credits := 0, Result := 0, Update := (T_api_Update.mk 0 0 0 0 0) }))]) (by kernel_rfl) ?_
                         refine SD.takes tk D_22 [] kn0 [6] [] [] [true, true, true, true, true, true, true, false] [(2, vp 1 0), (3, vp 2 0), (72, vi .i64 s_1.Credits), (74, vp 2 7)] rfl (by kernel_rfl) (by kernel_rfl) (by kernel_rfl) ?_
                         refine SD.all1 (i := 7) (by kernel_rfl) ?_
                         refine SW.store D_22 tk (i := 7) (q := 2) (T := 26) (cs := (C_api_Signal ({ s_1 with PSM := 0, Dest := 0, MTU := 0, MPS := 0, Result := 0, Update := (T_api_Update.mk 0 0 0 0 0) }))) (bs' := [true, true, true, true, true, true, true, true]) rfl (by kernel_rfl) rfl rfl (by kernel_rfl) ?_
                         refine SD.done (by kernel_rfl) fun a w h => ?_
                         exact ⟨hp, h.at (js := [.g 1, .g 2]) (by kernel_rfl)⟩
                       · rintro a w ⟨hp, h⟩
                         refine h.go ?_
                         refine SC.exitJ rfl fun a w h => ?_
                         exact ⟨{ s_1 with PSM := 0, Dest := 0, MTU := 0, MPS := 0, Result := 0, Update := (T_api_Update.mk 0 0 0 0 0) }, hp, h.at (js := [.g 0, .g 1]) (by kernel_rfl)⟩
                     · refine SC.skipThen ?_
                       refine SC.exitJ rfl fun a w h => ?_
                       exact ⟨{ s_1 with PSM := 0, Source := 0, Dest := 0, MTU := 0, MPS := 0, Credits := 0, Result := 0, Update := (T_api_Update.mk 0 0 0 0 0) }, hp, h.at (js := [.g 1, .g 2]) (by kernel_rfl)⟩
     · rintro a w ⟨hp, h⟩
       refine h.go ?_
       refine SC.r tk [(2, vp 1 0), (3, vp 2 0)] [(2, 26, (C_api_Signal ({ s_1 with PSM := 0, Source := 0, Dest := 0, MTU := 0, MPS := 0, Credits := 0, Update := (T_api_Update.mk 0 0 0 0 0) })))] [] [] (by kernel_rfl) ?_
       refine SC.exitJ rfl fun a w h => ?_
       exact ⟨{ s_1 with PSM := 0, Source := 0, Dest := 0, MTU := 0, MPS := 0, Credits := 0, Update := (T_api_Update.mk 0 0 0 0 0) }, hp, h.at (js := [.g 1, .g 2]) (by kernel_rfl)⟩
   · rintro a w ⟨hp, h⟩
     refine h.go ?_
     refine SC.cut (fun a w => signal_used_j3 F s_1 = some r ∧ A 76 0 fx [(2, vp 0 0), (3, vp 1 0)] [.blk 26 (C_api_Signal (T_api_Signal.mk 0 0 0 0 0 0 0 0 0 (T_api_Update.mk 0 0 0 0 0))), .blk 26 (C_api_Signal ({ s_1 with PSM := 0, MTU := 0, MPS := 0, Credits := 0, Result := 0, Update := (T_api_Update.mk 0 0 0 0 0) }))] a w) ?_ ?_
     · refine SC.draw MO [true, true, false] (by kernel_rfl) fun kap_15 D_16 => ?_
       refine SD.takes tk D_16 [] kn0 [0, 1, 2, 3, 4] [] [] [true, true, true, true, true, false, false, false] [(2, vp 1 0), (3, vp 2 0), (31, vi .u16 s_1.Source), (33, vi .u16 s_1.Dest), (34, vp 2 3)] rfl (by kernel_rfl) (by kernel_rfl) (by kernel_rfl) ?_
       refine SD.all1 (i := 5) (by kernel_rfl) ?_
       refine SW.store D_16 tk (i := 5) (q := 2) (T := 26) (cs := (C_api_Signal ({ s_1 with PSM := 0, Dest := 0, MTU := 0, MPS := 0, Credits := 0, Result := 0, Update := (T_api_Update.mk 0 0 0 0 0) }))) (bs' := [true, true, true, true, true, true, false, false]) rfl (by kernel_rfl) rfl rfl (by kernel_rfl) ?_
       refine SD.takes tk D_16 [] kn0 [6] [] [] [true, true, true, true, true, true, true, false] [(2, vp 1 0), (3, vp 2 0), (33, vi .u16 s_1.Dest), (35, vp 2 4)] rfl (by kernel_rfl) (by kernel_rfl) (by kernel_rfl) ?_
       refine SD.all1 (i := 7) (by kernel_rfl) ?_
       refine SW.store D_16 tk (i := 7) (q := 2) (T := 26) (cs := (C_api_Signal ({ s_1 with PSM := 0, MTU := 0, MPS := 0, Credits := 0, Result := 0, Update := (T_api_Update.mk 0 0 0 0 0) }))) (bs' := [true, true, true, true, true, true, true, true]) rfl (by kernel_rfl) rfl rfl (by kernel_rfl) ?_
       refine SD.norm (itsN := [.blk 26 (C_api_Signal s_1), .blk 26 (C_api_Signal (T_api_Signal.mk 0 0 0 0 0 0 0 0 0 (T_api_Update.mk 0 0 0 0 0))), .blk 26 (C_api_Signal ({ s_1 with PSM := 0, MTU := 0, MPS := 0, Credits := 0, Result := 0, Update := (T_api_Update.mk 0 0 0 0 0) }))]) (by kernel_rfl) ?_
       refine SD.done (by kernel_rfl) fun a w h => ?_
       exact ⟨hp, h.at (js := [.g 1, .g 2]) (by kernel_rfl)⟩
     · rintro a w ⟨hp, h⟩
       refine h.go ?_
       refine SC.exitJ rfl fun a w h => ?_
       exact ⟨{ s_1 with PSM := 0, MTU := 0, MPS := 0, Credits := 0, Result := 0, Update := (T_api_Update.mk 0 0 0 0 0) }, hp, h.at (js := [.g 0, .g 1]) (by kernel_rfl)⟩
 · rintro a w ⟨c_14, hp, h⟩
   refine h.go ?_
   refine SC.r tk [(2, vp 0 0)] [(0, 26, (C_api_Signal ({ c_14 with Kind := s_1.Kind, ID := s_1.ID })))] [] [] (by kernel_rfl) ?_
   obtain rfl := some_inv' hp
   exact SC.re (js := []) tk (by kernel_rfl)

theorem ok_signal_result (F : Nat) (s_1 : T_api_Signal) (r : Bool) (hp : signal_result F s_1 = some r) : Spec Try.prog 22 [.g (C_api_Signal s_1)] [] (vb r) [] := by
 refine Spec.enter Try.func22 rfl Try.ntmps22 rfl rfl fun fx => ?_
 refine SC.seq ?_
 refine SC.reg ?_
 refine SL.eff (e_box (E := 26) (C_api_Signal s_1) (by kernel_rfl)) rfl (by kernel_rfl) ?_
 refine SL.sim tk 1 [(1, vp 0 0)] [] [] [] (by kernel_rfl) ?_
 refine SL.nilThen ?_
 refine SC.seq ?_
 refine SC.r tk [(1, vp 0 0), (4, vi .i64 s_1.Kind)] [] [] [] (by kernel_rfl) ?_
 refine SC.block ?_
 refine SC.r tk [(1, vp 0 0), (4, vi .i64 s_1.Kind), (5, vb (s_1.Kind == 1))] [] [] [] (by kernel_rfl) ?_
 refine SC.if' rfl hp (fun hp => ?_) (fun hp => ?_)
 · refine SC.r tk [(2, vb ((s_1.Result == 0) || (s_1.Result == 2)))] [] [] [] (by kernel_rfl) ?_
   obtain rfl := some_inv' hp
   exact SC.re (js := []) tk (by kernel_rfl)
 · refine SC.r tk [(1, vp 0 0), (4, vi .i64 s_1.Kind), (15, vb (s_1.Kind == 19))] [] [] [] (by kernel_rfl) ?_
   refine SC.if' rfl hp (fun hp => ?_) (fun hp => ?_)
   · refine SC.r tk [(2, vb ((s_1.Result == 0) || (s_1.Result == 1)))] [] [] [] (by kernel_rfl) ?_
     obtain rfl := some_inv' hp
     exact SC.re (js := []) tk (by kernel_rfl)
   · refine SC.r tk [(1, vp 0 0), (25, vb (s_1.Kind == 21))] [] [] [] (by kernel_rfl) ?_
     refine SC.if' rfl hp (fun hp => ?_) (fun hp => ?_)
     · refine SC.seq ?_
       refine SC.r tk [(28, vi .i64 s_1.Result)] [] [] [] (by kernel_rfl) ?_
       refine SC.block ?_
       refine SC.cut (fun a w => ∃ (z_2 : Bool), signal_result_j1 F z_2 = some r ∧ A 35 0 fx [(29, vb z_2)] [] a w) ?_ ?_
       · refine SC.r tk [(28, vi .i64 s_1.Result), (29, vb (s_1.Result == 0))] [] [] [] (by kernel_rfl) ?_
         refine SC.if' rfl hp (fun hp => ?_) (fun hp => ?_)
         · refine SC.skipJ fun a w h => ?_
           exact ⟨(s_1.Result == 0), hp, h.at (js := []) (by kernel_rfl)⟩
         · refine SC.r tk [(28, vi .i64 s_1.Result), (29, vb (s_1.Result == 2))] [] [] [] (by kernel_rfl) ?_
           refine SC.if' rfl hp (fun hp => ?_) (fun hp => ?_)
           · refine SC.skipJ fun a w h => ?_
             exact ⟨(s_1.Result == 2), hp, h.at (js := []) (by kernel_rfl)⟩
           · refine SC.r tk [(28, vi .i64 s_1.Result), (29, vb (s_1.Result == 4))] [] [] [] (by kernel_rfl) ?_
             refine SC.if' rfl hp (fun hp => ?_) (fun hp => ?_)
             · refine SC.skipJ fun a w h => ?_
               exact ⟨(s_1.Result == 4), hp, h.at (js := []) (by kernel_rfl)⟩
             · refine SC.r tk [(28, vi .i64 s_1.Result), (29, vb (s_1.Result == 5))] [] [] [] (by kernel_rfl) ?_
               refine SC.if' rfl hp (fun hp => ?_) (fun hp => ?_)
               · refine SC.skipJ fun a w h => ?_
                 exact ⟨(s_1.Result == 5), hp, h.at (js := []) (by kernel_rfl)⟩
               · refine SC.reg ?_
                 refine SL.sim tk 2 [(29, vb (s_1.Result == 9))] [] [] [] (by kernel_rfl) ?_
                 refine SL.nilJ fun a w h => ?_
                 exact ⟨(s_1.Result == 9), hp, h.at (js := []) (by kernel_rfl)⟩
       · rintro a w ⟨z_2, hp, h⟩
         refine h.go ?_
         refine SC.if' rfl hp (fun hp => ?_) (fun hp => ?_)
         · refine SC.r tk [(2, vb true)] [] [] [] (by kernel_rfl) ?_
           obtain rfl := some_inv' hp
           exact SC.re (js := []) tk (by kernel_rfl)
         · refine SC.skipThen ?_
           refine SC.r tk [(2, vb false)] [] [] [] (by kernel_rfl) ?_
           obtain rfl := some_inv' hp
           exact SC.re (js := []) tk (by kernel_rfl)
     · refine SC.skipThen ?_
       refine SC.r tk [(2, vb true)] [] [] [] (by kernel_rfl) ?_
       obtain rfl := some_inv' hp
       exact SC.re (js := []) tk (by kernel_rfl)

theorem ok_signal_channel (F : Nat) (cid_1 : Int) (r : Bool) (hp : signal_channel F cid_1 = some r) : Spec Try.prog 39 [vi .u16 cid_1] [] (vb r) [] := by
 refine Spec.enter Try.func39 rfl Try.ntmps39 rfl rfl fun fx => ?_
 refine SC.r tk [(0, vi .u16 cid_1)] [] [] [] (by kernel_rfl) ?_
 refine SC.r tk [(2, vb ((decide (cid_1 ≥ 64)) && (decide (cid_1 ≤ 127))))] [] [] [] (by kernel_rfl) ?_
 obtain rfl := some_inv' hp
 exact SC.re (js := []) tk (by kernel_rfl)

theorem ok_signal_size (F : Nat) (n_1 : Int) (r : Bool) (hp : signal_size F n_1 = some r) : Spec Try.prog 40 [vi .i64 n_1] [] (vb r) [] := by
 refine Spec.enter Try.func40 rfl Try.ntmps40 rfl rfl fun fx => ?_
 refine SC.r tk [(0, vi .i64 n_1)] [] [] [] (by kernel_rfl) ?_
 refine SC.r tk [(2, vb ((decide (n_1 ≥ 23)) && (decide (n_1 ≤ 4096))))] [] [] [] (by kernel_rfl) ?_
 obtain rfl := some_inv' hp
 exact SC.re (js := []) tk (by kernel_rfl)

theorem ok_signal_ranges (F : Nat) (s_1 : T_api_Signal) (r : Bool) (hp : signal_ranges F s_1 = some r) : Spec Try.prog 23 [.g (C_api_Signal s_1)] [] (vb r) [] := by
 refine Spec.enter Try.func23 rfl Try.ntmps23 rfl rfl fun fx => ?_
 refine SC.seq ?_
 refine SC.reg ?_
 refine SL.eff (e_box (E := 26) (C_api_Signal s_1) (by kernel_rfl)) rfl (by kernel_rfl) ?_
 refine SL.sim tk 1 [(1, vp 0 0)] [] [] [] (by kernel_rfl) ?_
 refine SL.nilThen ?_
 refine SC.seq ?_
 refine SC.r tk [(1, vp 0 0), (4, vi .i64 s_1.Kind)] [] [] [] (by kernel_rfl) ?_
 refine SC.block ?_
 refine SC.cut (fun a w => ∃ (z_2 : Bool), signal_ranges_j1 F s_1 z_2 = some r ∧ A 57 0 fx [(1, vp 0 0), (4, vi .i64 s_1.Kind), (5, vb z_2)] [.blk 26 (C_api_Signal s_1)] a w) ?_ ?_
 · refine SC.r tk [(1, vp 0 0), (4, vi .i64 s_1.Kind), (5, vb (s_1.Kind == 6))] [] [] [] (by kernel_rfl) ?_
   refine SC.if' rfl hp (fun hp => ?_) (fun hp => ?_)
   · refine SC.skipJ fun a w h => ?_
     exact ⟨(s_1.Kind == 6), hp, h.at (js := [.g 0]) (by kernel_rfl)⟩
   · refine SC.reg ?_
     refine SL.sim tk 2 [(1, vp 0 0), (4, vi .i64 s_1.Kind), (5, vb (s_1.Kind == 7))] [] [] [] (by kernel_rfl) ?_
     refine SL.nilJ fun a w h => ?_
     exact ⟨(s_1.Kind == 7), hp, h.at (js := [.g 0]) (by kernel_rfl)⟩
 · rintro a w ⟨z_2, hp, h⟩
   refine h.go ?_
   refine SC.if' rfl hp (fun hp => ?_) (fun hp => ?_)
   · refine SC.seq ?_
     refine SC.reg ?_
     refine SL.sim tk 2 [(1, vp 0 0), (9, vi .u16 s_1.Source)] [] [] [] (by kernel_rfl) ?_
     obtain ⟨x_3, e_x_3, hp⟩ := bind_inv hp
     refine SL.eff (e_c Try.call39 (ok_signal_channel F s_1.Source _ e_x_3) [] [vi .u16 s_1.Source] (vb x_3) (by kernel_rfl) (.inl rfl)) rfl (by kernel_rfl) ?_
     refine SL.sim tk 1 [(1, vp 0 0), (11, vb x_3)] [] [] [] (by kernel_rfl) ?_
     obtain ⟨z_5, hz, hpr⟩ := bind_inv hp
     clear hp
     refine SL.cutAt 4 (fun a w => A 57 0 fx [(15, vb z_5)] [] a w) ?_ ?_
     · have hp := hz
       rcases Bool.eq_false_or_eq_true (x_3) with hg_4 | hg_4
       · replace hp := if_t hp hg_4
         refine SL.yes rfl rfl hg_4 ?_
         refine SL.sim tk 1 [(11, vb x_3), (12, vp 0 4)] [] [] [] (by kernel_rfl) ?_
         refine SL.yes rfl rfl hg_4 ?_
         refine SL.sim tk 1 [(11, vb x_3), (13, vi .u16 s_1.Dest)] [] [] [] (by kernel_rfl) ?_
         refine SL.yes rfl rfl hg_4 ?_
         obtain ⟨x_7, e_x_7, hp⟩ := bind_inv hp
         refine SL.eff (e_c Try.call39 (ok_signal_channel F s_1.Dest _ e_x_7) [] [vi .u16 s_1.Dest] (vb x_7) (by kernel_rfl) (.inl rfl)) rfl (by kernel_rfl) ?_
         refine SL.norm (itsN := [.blk 26 (C_api_Signal s_1)]) (by kernel_rfl) ?_
         refine SL.pickt rfl hg_4 rfl rfl ?_
         refine SL.nilJ fun a w h => ?_
         obtain rfl := some_inv' hp
         exact h.at (js := []) (by kernel_rfl)
       · replace hp := if_f hp hg_4
         refine SL.no rfl rfl hg_4 rfl ?_
         refine SL.no rfl rfl hg_4 rfl ?_
         refine SL.no rfl rfl hg_4 rfl ?_
         refine SL.pickf rfl hg_4 rfl rfl ?_
         refine SL.nilJ fun a w h => ?_
         obtain rfl := some_inv' hp
         exact h.at (js := []) (by kernel_rfl)
     · intro a w h
       have hp := hpr; clear hpr hz
       refine h.goL ?_
       refine SL.sim tk 1 [(2, vb z_5)] [] [] [] (by kernel_rfl) ?_
       refine SL.nilThen ?_
       obtain rfl := some_inv' hp
       exact SC.re (js := []) tk (by kernel_rfl)
   · refine SC.cut (fun a w => ∃ (z_8 : Bool), signal_ranges_j2 F s_1 z_8 = some r ∧ A 57 0 fx [(1, vp 0 0), (4, vi .i64 s_1.Kind), (16, vb z_8)] [.blk 26 (C_api_Signal s_1)] a w) ?_ ?_
     · refine SC.r tk [(1, vp 0 0), (4, vi .i64 s_1.Kind), (16, vb (s_1.Kind == 20))] [] [] [] (by kernel_rfl) ?_
       refine SC.if' rfl hp (fun hp => ?_) (fun hp => ?_)
       · refine SC.skipJ fun a w h => ?_
         exact ⟨(s_1.Kind == 20), hp, h.at (js := [.g 0]) (by kernel_rfl)⟩
       · refine SC.reg ?_
         refine SL.sim tk 2 [(1, vp 0 0), (4, vi .i64 s_1.Kind), (16, vb (s_1.Kind == 21))] [] [] [] (by kernel_rfl) ?_
         refine SL.nilJ fun a w h => ?_
         exact ⟨(s_1.Kind == 21), hp, h.at (js := [.g 0]) (by kernel_rfl)⟩
     · rintro a w ⟨z_8, hp, h⟩
       refine h.go ?_
       refine SC.if' rfl hp (fun hp => ?_) (fun hp => ?_)
       · refine SC.seq ?_
         refine SC.reg ?_
         refine SL.sim tk 2 [(1, vp 0 0), (20, vi .u16 s_1.Source)] [] [] [] (by kernel_rfl) ?_
         obtain ⟨x_9, e_x_9, hp⟩ := bind_inv hp
         refine SL.eff (e_c Try.call39 (ok_signal_channel F s_1.Source _ e_x_9) [] [vi .u16 s_1.Source] (vb x_9) (by kernel_rfl) (.inl rfl)) rfl (by kernel_rfl) ?_
         refine SL.sim tk 1 [(1, vp 0 0), (22, vb x_9)] [] [] [] (by kernel_rfl) ?_
         obtain ⟨z_11, hz, hpr⟩ := bind_inv hp
         clear hp
         refine SL.cutAt 4 (fun a w => A 57 0 fx [(1, vp 0 0), (26, vb z_11)] [.blk 26 (C_api_Signal s_1)] a w) ?_ ?_
         · have hp := hz
           rcases Bool.eq_false_or_eq_true (x_9) with hg_10 | hg_10
           · replace hp := if_t hp hg_10
             refine SL.yes rfl rfl hg_10 ?_
             refine SL.sim tk 1 [(1, vp 0 0), (22, vb x_9), (23, vp 0 5)] [] [] [] (by kernel_rfl) ?_
             refine SL.yes rfl rfl hg_10 ?_
             refine SL.sim tk 1 [(1, vp 0 0), (22, vb x_9), (24, vi .i64 s_1.MTU)] [] [] [] (by kernel_rfl) ?_
             refine SL.yes rfl rfl hg_10 ?_
             obtain ⟨x_17, e_x_17, hp⟩ := bind_inv hp
             refine SL.eff (e_c Try.call40 (ok_signal_size F s_1.MTU _ e_x_17) [] [vi .i64 s_1.MTU] (vb x_17) (by kernel_rfl) (.inl rfl)) rfl (by kernel_rfl) ?_
             refine SL.norm (itsN := [.blk 26 (C_api_Signal s_1)]) (by kernel_rfl) ?_
             refine SL.pickt rfl hg_10 rfl rfl ?_
             refine SL.nilJ fun a w h => ?_
             obtain rfl := some_inv' hp
             exact h.at (js := [.g 0]) (by kernel_rfl)
           · replace hp := if_f hp hg_10
             refine SL.no rfl rfl hg_10 rfl ?_
             refine SL.no rfl rfl hg_10 rfl ?_
             refine SL.no rfl rfl hg_10 rfl ?_
             refine SL.pickf rfl hg_10 rfl rfl ?_
             refine SL.nilJ fun a w h => ?_
             obtain rfl := some_inv' hp
             exact h.at (js := [.g 0]) (by kernel_rfl)
         · intro a w h
           have hp := hpr; clear hpr hz
           refine h.goL ?_
           refine SL.sim tk 1 [(1, vp 0 0), (27, vb z_11)] [] [] [] (by kernel_rfl) ?_
           obtain ⟨z_13, hz, hpr⟩ := bind_inv hp
           clear hp
           refine SL.cutAt 4 (fun a w => A 57 0 fx [(1, vp 0 0), (31, vb z_13)] [.blk 26 (C_api_Signal s_1)] a w) ?_ ?_
           · have hp := hz
             rcases Bool.eq_false_or_eq_true (z_11) with hg_12 | hg_12
             · replace hp := if_t hp hg_12
               refine SL.yes rfl rfl hg_12 ?_
               refine SL.sim tk 1 [(1, vp 0 0), (27, vb z_11), (28, vp 0 6)] [] [] [] (by kernel_rfl) ?_
               refine SL.yes rfl rfl hg_12 ?_
               refine SL.sim tk 1 [(1, vp 0 0), (27, vb z_11), (29, vi .i64 s_1.MPS)] [] [] [] (by kernel_rfl) ?_
               refine SL.yes rfl rfl hg_12 ?_
               obtain ⟨x_15, e_x_15, hp⟩ := bind_inv hp
               refine SL.eff (e_c Try.call40 (ok_signal_size F s_1.MPS _ e_x_15) [] [vi .i64 s_1.MPS] (vb x_15) (by kernel_rfl) (.inl rfl)) rfl (by kernel_rfl) ?_
               refine SL.pickt rfl hg_12 rfl rfl ?_
               refine SL.nilJ fun a w h => ?_
               obtain rfl := some_inv' hp
               exact h.at (js := [.g 0]) (by kernel_rfl)
             · replace hp := if_f hp hg_12
               refine SL.no rfl rfl hg_12 rfl ?_
               refine SL.no rfl rfl hg_12 rfl ?_
               refine SL.no rfl rfl hg_12 rfl ?_
               refine SL.pickf rfl hg_12 rfl rfl ?_
               refine SL.nilJ fun a w h => ?_
               obtain rfl := some_inv' hp
               exact h.at (js := [.g 0]) (by kernel_rfl)
           · intro a w h
             have hp := hpr; clear hpr hz
             refine h.goL ?_
             refine SL.sim tk 11 [(2, vb ((z_13 && (decide (s_1.Credits ≥ 0))) && (decide (s_1.Credits ≤ 65535))))] [] [] [] (by kernel_rfl) ?_
             refine SL.nilThen ?_
             obtain rfl := some_inv' hp
             exact SC.re (js := []) tk (by kernel_rfl)
       · refine SC.r tk [(1, vp 0 0), (42, vb (s_1.Kind == 22))] [] [] [] (by kernel_rfl) ?_
         refine SC.if' rfl hp (fun hp => ?_) (fun hp => ?_)
         · refine SC.seq ?_
           refine SC.reg ?_
           refine SL.sim tk 2 [(1, vp 0 0), (45, vi .u16 s_1.Source)] [] [] [] (by kernel_rfl) ?_
           obtain ⟨x_18, e_x_18, hp⟩ := bind_inv hp
           refine SL.eff (e_c Try.call39 (ok_signal_channel F s_1.Source _ e_x_18) [] [vi .u16 s_1.Source] (vb x_18) (by kernel_rfl) (.inl rfl)) rfl (by kernel_rfl) ?_
           refine SL.sim tk 11 [(2, vb ((x_18 && (decide (s_1.Credits ≥ 1))) && (decide (s_1.Credits ≤ 65535))))] [] [] [] (by kernel_rfl) ?_
           refine SL.nilThen ?_
           obtain rfl := some_inv' hp
           exact SC.re (js := []) tk (by kernel_rfl)
         · refine SC.skipThen ?_
           refine SC.r tk [(2, vb true)] [] [] [] (by kernel_rfl) ?_
           obtain rfl := some_inv' hp
           exact SC.re (js := []) tk (by kernel_rfl)

theorem ok_connect_within (F : Nat) (all_1 : (List T_connect_span)) (r : Bool) (hp : connect_within F all_1 = some r) : Spec Try.prog 41 [vs 0] [.rd 3 R_T_connect_span all_1] (vb r) [.gone] := by
 refine Spec.enter Try.func41 rfl Try.ntmps41 rfl rfl fun fx => ?_
 refine SC.r tk [(0, vs 0)] [] [] [] (by kernel_rfl) ?_
 refine SC.cut (fun a w => connect_within_j1 F = some r ∧ A 24 1 fx [] [.gone] a w) ?_ ?_
 · refine SC.r tk [(5, vs 0), (6, vi .i64 (len all_1)), (7, vi .i64 0)] [] [] [] (by kernel_rfl) ?_
   refine SC.block ?_
   obtain ⟨o1, hi1, ho1⟩ := bind_inv hp
   clear hp
   refine SC.loop (fun n a w => ∃ (x_2 : Int), iter (fun s => connect_within_l1 F all_1 s) n (x_2) = some o1 ∧ A 24 1 fx [(5, vs 0), (6, vi .i64 (len all_1)), (7, vi .i64 x_2)] [.rd 3 R_T_connect_span all_1] a w) F (fun a w h => ⟨0, hi1, h.at (js := [.g 0]) (by kernel_rfl)⟩) ?_
   rintro n1 a w ⟨x_2, hi1, h⟩
   obtain ⟨n1, q1, rfl, hp, hs1⟩ := iter_inv hi1
   replace hp : connect_within_l1 F all_1 x_2 = some q1 := hp
   clear hi1
   refine h.go ?_
   refine SC.r tk [(5, vs 0), (6, vi .i64 (len all_1)), (7, vi .i64 x_2), (8, vb (decide (x_2 < (len all_1))))] [] [] [] (by kernel_rfl) ?_
   refine SC.seq ?_
   refine SC.if' rfl hp (fun hp => ?_) (fun hp => ?_)
   · refine SC.skipThen ?_
     refine SC.seq ?_
     refine SC.block ?_
     refine SC.seq ?_
     refine SC.reg ?_
     obtain ⟨x_3, e_x_3, hp⟩ := bind_inv hp
     refine SL.pre (pre_ix (i := 0) (iv := x_2) (sz := 3) (R := R_T_connect_span) (l := all_1) (by kernel_rfl) rfl e_x_3) ?_
     refine SL.sim tk 2 [(5, vs 0), (6, vi .i64 (len all_1)), (7, vi .i64 x_2), (10, .g (C_connect_span x_3))] [] [.el 1] [x_2] (by kernel_rfl) ?_
     refine SL.eff (e_alloc (E := 67) tk [ci .i64 0, ci .i64 0, ci .i64 0] (by kernel_rfl)) rfl (by kernel_rfl) ?_
     refine SL.sim tk 1 [(4, vp 2 0), (5, vs 0), (6, vi .i64 (len all_1)), (7, vi .i64 x_2)] [(2, 67, (C_connect_span x_3))] [] [] (by kernel_rfl) ?_
     refine SL.nilThen ?_
     refine SC.r tk [(5, vs 0), (6, vi .i64 (len all_1)), (7, vi .i64 x_2), (22, vb ((decide (x_3.n < x_3.low)) || (decide (x_3.n > x_3.high))))] [] [] [] (by kernel_rfl) ?_
     refine SC.if' rfl hp (fun hp => ?_) (fun hp => ?_)
     · refine SC.r tk [(2, vb false)] [] [] [] (by kernel_rfl) ?_
       have ho := done_inv hp hs1
       replace hp := ho1
       try rw [ho] at hp
       obtain rfl := some_inv' hp
       exact SC.re (js := [.g 0]) tk (by kernel_rfl)
     · refine SC.skipThen ?_
       refine SC.reg ?_
       refine SL.sim tk 2 [(5, vs 0), (6, vi .i64 (len all_1)), (7, vi .i64 (w64 (x_2 + 1)))] [] [] [] (by kernel_rfl) ?_
       refine SL.nilJ fun a w h => ?_
       exact ⟨n1, Nat.lt_succ_self _, w64 (x_2 + 1), next_inv hp hs1, h.at (js := [.g 0]) (by kernel_rfl)⟩
   · refine SC.exitJ rfl fun a w h => ?_
     have ho := done_inv hp hs1
     replace hp := ho1
     try rw [ho] at hp
     exact ⟨hp, h.at (js := [.g 0]) (by kernel_rfl)⟩
 · rintro a w ⟨hp, h⟩
   refine h.go ?_
   refine SC.r tk [(2, vb true)] [] [] [] (by kernel_rfl) ?_
   obtain rfl := some_inv' hp
   exact SC.re (js := [.g 0]) tk (by kernel_rfl)

theorem ok_connect_CheckUpdate (F : Nat) (u_1 : T_api_Update) (r : Int) (hp : connect_CheckUpdate F u_1 = some r) : Spec Try.prog 24 [.g (C_api_Update u_1)] [] (vi .i64 r) [] := by
 refine Spec.enter Try.func24 rfl Try.ntmps24 rfl rfl fun fx => ?_
 refine SC.seq ?_
 refine SC.reg ?_
 refine SL.eff (e_box (E := 24) (C_api_Update u_1) (by kernel_rfl)) rfl (by kernel_rfl) ?_
 refine SL.sim tk 1 [(1, vp 0 0)] [] [] [] (by kernel_rfl) ?_
 refine SL.nilThen ?_
 refine SC.seq ?_
 refine SC.seq ?_
 refine SC.reg ?_
 refine SL.sim tk 15 [(1, vp 0 0), (5, .g [ci .i64 u_1.WinSize, ci .i64 1, ci .i64 8]), (8, .g [ci .i64 u_1.WinOffset, ci .i64 0, ci .i64 3200]), (11, .g [ci .i64 u_1.Interval, ci .i64 6, ci .i64 3200]), (14, .g [ci .i64 u_1.Latency, ci .i64 0, ci .i64 499]), (17, .g [ci .i64 u_1.Timeout, ci .i64 10, ci .i64 3200])] [] [] [] (by kernel_rfl) ?_
 refine SL.eff (e_lit (sz := 3) (E := 67) (R := R_T_connect_span) (by_ := 24) tk [[ci .i64 u_1.WinSize, ci .i64 1, ci .i64 8], [ci .i64 u_1.WinOffset, ci .i64 0, ci .i64 3200], [ci .i64 u_1.Interval, ci .i64 6, ci .i64 3200], [ci .i64 u_1.Latency, ci .i64 0, ci .i64 499], [ci .i64 u_1.Timeout, ci .i64 10, ci .i64 3200]] [(T_connect_span.mk u_1.WinSize 1 8), (T_connect_span.mk u_1.WinOffset 0 3200), (T_connect_span.mk u_1.Interval 6 3200), (T_connect_span.mk u_1.Latency 0 499), (T_connect_span.mk u_1.Timeout 10 3200)] (by kernel_rfl) ⟨(clo_T_connect_span (x := (T_connect_span.mk u_1.WinSize 1 8))), ⟨(clo_T_connect_span (x := (T_connect_span.mk u_1.WinOffset 0 3200))), ⟨(clo_T_connect_span (x := (T_connect_span.mk u_1.Interval 6 3200))), ⟨(clo_T_connect_span (x := (T_connect_span.mk u_1.Latency 0 499))), ⟨(clo_T_connect_span (x := (T_connect_span.mk u_1.Timeout 10 3200))), trivial⟩⟩⟩⟩⟩ rfl (by kernel_rfl) (by kernel_rfl)) rfl (by kernel_rfl) ?_
 obtain ⟨x_2, e_x_2, hp⟩ := bind_inv hp
 refine SL.eff (e_c Try.call41 (ok_connect_within F [(T_connect_span.mk u_1.WinSize 1 8), (T_connect_span.mk u_1.WinOffset 0 3200), (T_connect_span.mk u_1.Interval 6 3200), (T_connect_span.mk u_1.Latency 0 499), (T_connect_span.mk u_1.Timeout 10 3200)] _ e_x_2) [.l 1] [vs 1] (vb x_2) (by kernel_rfl) (.inr ⟨trivial, trivial⟩)) rfl (by kernel_rfl) ?_
 refine SL.norm (itsN := [.blk 24 (C_api_Update u_1), .own 3 67 R_T_connect_span [(T_connect_span.mk u_1.WinSize 1 8), (T_connect_span.mk u_1.WinOffset 0 3200), (T_connect_span.mk u_1.Interval 6 3200), (T_connect_span.mk u_1.Latency 0 499), (T_connect_span.mk u_1.Timeout 10 3200)]]) (by kernel_rfl) ?_
 refine SL.sim tk 1 [(1, vp 0 0), (20, vb (!x_2))] [] [] [] (by kernel_rfl) ?_
 refine SL.nilThen ?_
 refine SC.if' rfl hp (fun hp => ?_) (fun hp => ?_)
 · refine SC.r tk [(2, vi .i64 5)] [] [] [] (by kernel_rfl) ?_
   obtain rfl := some_inv' hp
   exact SC.re (js := []) tk (by kernel_rfl)
 · refine SC.skipThen ?_
   refine SC.seq ?_
   refine SC.r tk [(46, vb (((decide (u_1.WinSize ≥ u_1.Interval)) || (decide (u_1.WinOffset > u_1.Interval))) || (decide ((w64 (u_1.Timeout * 10000)) ≤ (w64 ((w64 ((w64 (2 * (w64 (u_1.Latency + 1)))) * u_1.Interval)) * 1250))))))] [] [] [] (by kernel_rfl) ?_
   refine SC.if' rfl hp (fun hp => ?_) (fun hp => ?_)
   · refine SC.r tk [(2, vi .i64 11)] [] [] [] (by kernel_rfl) ?_
     obtain rfl := some_inv' hp
     exact SC.re (js := []) tk (by kernel_rfl)
   · refine SC.skipThen ?_
     refine SC.r tk [(2, vi .i64 0)] [] [] [] (by kernel_rfl) ?_
     obtain rfl := some_inv' hp
     exact SC.re (js := []) tk (by kernel_rfl)

theorem ok_signal_Check (F : Nat) (s_1 : T_api_Signal) (r : Int) (hp : signal_Check F s_1 = some r) : Spec Try.prog 10 [.g (C_api_Signal s_1)] [] (vi .i64 r) [] := by
 refine Spec.enter Try.func10 rfl Try.ntmps10 rfl rfl fun fx => ?_
 refine SC.seq ?_
 refine SC.reg ?_
 refine SL.eff (e_box (E := 26) (C_api_Signal s_1) (by kernel_rfl)) rfl (by kernel_rfl) ?_
 refine SL.sim tk 1 [(1, vp 0 0)] [] [] [] (by kernel_rfl) ?_
 refine SL.nilThen ?_
 refine SC.seq ?_
 refine SC.block ?_
 refine SC.seq ?_
 refine SC.reg ?_
 refine SL.sim tk 2 [(1, vp 0 0), (5, vi .i64 s_1.Kind)] [] [] [] (by kernel_rfl) ?_
 obtain ⟨x_2, e_x_2, hp⟩ := bind_inv hp
 refine SL.eff (e_c Try.call20 (ok_signal_known F s_1.Kind _ e_x_2) [] [vi .i64 s_1.Kind] (vb x_2) (by kernel_rfl) (.inl rfl)) rfl (by kernel_rfl) ?_
 refine SL.sim tk 2 [(1, vp 0 0), (3, vb (!x_2))] [] [] [] (by kernel_rfl) ?_
 refine SL.nilThen ?_
 refine SC.if' rfl hp (fun hp => ?_) (fun hp => ?_)
 · refine SC.r tk [(2, vi .i64 12)] [] [] [] (by kernel_rfl) ?_
   obtain rfl := some_inv' hp
   exact SC.re (js := []) tk (by kernel_rfl)
 · refine SC.r tk [(1, vp 0 0), (8, vb ((decide (s_1.ID < 1)) || (decide (s_1.ID > 255))))] [] [] [] (by kernel_rfl) ?_
   refine SC.if' rfl hp (fun hp => ?_) (fun hp => ?_)
   · refine SC.r tk [(2, vi .i64 5)] [] [] [] (by kernel_rfl) ?_
     obtain rfl := some_inv' hp
     exact SC.re (js := []) tk (by kernel_rfl)
   · refine SC.cut (fun a w => ∃ (z_3 : Bool), signal_Check_j1 F s_1 z_3 = some r ∧ A 73 0 fx [(1, vp 0 0), (17, vb z_3)] [.blk 26 (C_api_Signal s_1)] a w) ?_ ?_
     · refine SC.draw MO [true] (by kernel_rfl) fun kap_7 D_8 => ?_
       refine SD.takes tk D_8 [] kn0 [0, 1] [] [] [true, true, false, false, false] [(1, vp 0 0), (18, .g (C_api_Signal s_1)), (19, .g (C_api_Signal s_1))] rfl (by kernel_rfl) (by kernel_rfl) (by kernel_rfl) ?_
       obtain ⟨x_9, e_x_9, hp⟩ := bind_inv hp
       refine SD.all1 (i := 2) (by kernel_rfl) ?_
       refine SW.eff D_8 (i := 2) (bs' := [true, true, true, false, false]) rfl (.inl rfl) rfl (e_c Try.call21 (ok_signal_used F s_1 _ e_x_9) [] [.g (C_api_Signal s_1)] (.g (C_api_Signal x_9)) (by kernel_rfl) (.inl rfl)) (by kernel_rfl) rfl (by kernel_rfl) ?_
       refine SD.norm (itsN := [.blk 26 (C_api_Signal s_1)]) (by kernel_rfl) ?_
       refine SD.all1 (i := 3) (by kernel_rfl) ?_
       refine SW.eff D_8 (i := 3) (bs' := [true, true, true, true, false]) rfl (.inl rfl) rfl (e_eqs tk (cs := (C_api_Signal s_1)) (ds := (C_api_Signal x_9)) [(s_1.Kind == x_9.Kind), (s_1.ID == x_9.ID), (s_1.PSM == x_9.PSM), (s_1.Source == x_9.Source), (s_1.Dest == x_9.Dest), (s_1.MTU == x_9.MTU), (s_1.MPS == x_9.MPS), (s_1.Credits == x_9.Credits), (s_1.Result == x_9.Result), (s_1.Update.WinSize == x_9.Update.WinSize), (s_1.Update.WinOffset == x_9.Update.WinOffset), (s_1.Update.Interval == x_9.Update.Interval), (s_1.Update.Latency == x_9.Update.Latency), (s_1.Update.Timeout == x_9.Update.Timeout)] (!((s_1.Kind == x_9.Kind) && ((s_1.ID == x_9.ID) && ((s_1.PSM == x_9.PSM) && ((s_1.Source == x_9.Source) && ((s_1.Dest == x_9.Dest) && ((s_1.MTU == x_9.MTU) && ((s_1.MPS == x_9.MPS) && ((s_1.Credits == x_9.Credits) && ((s_1.Result == x_9.Result) && ((s_1.Update.WinSize == x_9.Update.WinSize) && ((s_1.Update.WinOffset == x_9.Update.WinOffset) && ((s_1.Update.Interval == x_9.Update.Interval) && ((s_1.Update.Latency == x_9.Update.Latency) && (s_1.Update.Timeout == x_9.Update.Timeout))))))))))))))) rfl rfl (by kernel_rfl) (by kernel_rfl) (by kernel_rfl) (.inr ⟨rfl, (by kernel_rfl)⟩)) (by kernel_rfl) rfl (by kernel_rfl) ?_
       refine SD.takes tk D_8 [] kn0 [4] [] [] [true, true, true, true, true] [(1, vp 0 0), (17, vb (!((s_1.Kind == x_9.Kind) && ((s_1.ID == x_9.ID) && ((s_1.PSM == x_9.PSM) && ((s_1.Source == x_9.Source) && ((s_1.Dest == x_9.Dest) && ((s_1.MTU == x_9.MTU) && ((s_1.MPS == x_9.MPS) && ((s_1.Credits == x_9.Credits) && ((s_1.Result == x_9.Result) && ((s_1.Update.WinSize == x_9.Update.WinSize) && ((s_1.Update.WinOffset == x_9.Update.WinOffset) && ((s_1.Update.Interval == x_9.Update.Interval) && ((s_1.Update.Latency == x_9.Update.Latency) && (s_1.Update.Timeout == x_9.Update.Timeout))))))))))))))))] rfl (by kernel_rfl) (by kernel_rfl) (by kernel_rfl) ?_
       refine SD.done (by kernel_rfl) fun a w h => ?_
       exact ⟨(!((s_1.Kind == x_9.Kind) && ((s_1.ID == x_9.ID) && ((s_1.PSM == x_9.PSM) && ((s_1.Source == x_9.Source) && ((s_1.Dest == x_9.Dest) && ((s_1.MTU == x_9.MTU) && ((s_1.MPS == x_9.MPS) && ((s_1.Credits == x_9.Credits) && ((s_1.Result == x_9.Result) && ((s_1.Update.WinSize == x_9.Update.WinSize) && ((s_1.Update.WinOffset == x_9.Update.WinOffset) && ((s_1.Update.Interval == x_9.Update.Interval) && ((s_1.Update.Latency == x_9.Update.Latency) && (s_1.Update.Timeout == x_9.Update.Timeout))))))))))))))), hp, h.at (js := [.g 0]) (by kernel_rfl)⟩
     · rintro a w ⟨z_3, hp, h⟩
       refine h.go ?_
       refine SC.if' rfl hp (fun hp => ?_) (fun hp => ?_)
       · refine SC.r tk [(2, vi .i64 1)] [] [] [] (by kernel_rfl) ?_
         obtain rfl := some_inv' hp
         exact SC.re (js := []) tk (by kernel_rfl)
       · refine SC.seq ?_
         refine SC.reg ?_
         refine SL.sim tk 1 [(1, vp 0 0), (23, .g (C_api_Signal s_1))] [] [] [] (by kernel_rfl) ?_
         obtain ⟨x_4, e_x_4, hp⟩ := bind_inv hp
         refine SL.eff (e_c Try.call22 (ok_signal_result F s_1 _ e_x_4) [] [.g (C_api_Signal s_1)] (vb x_4) (by kernel_rfl) (.inl rfl)) rfl (by kernel_rfl) ?_
         refine SL.sim tk 2 [(1, vp 0 0), (22, vb (!x_4))] [] [] [] (by kernel_rfl) ?_
         refine SL.nilThen ?_
         refine SC.if' rfl hp (fun hp => ?_) (fun hp => ?_)
         · refine SC.r tk [(2, vi .i64 5)] [] [] [] (by kernel_rfl) ?_
           obtain rfl := some_inv' hp
           exact SC.re (js := []) tk (by kernel_rfl)
         · refine SC.r tk [(1, vp 0 0), (26, vb ((s_1.Kind == 21) && (s_1.Result != 0)))] [] [] [] (by kernel_rfl) ?_
           refine SC.if' rfl hp (fun hp => ?_) (fun hp => ?_)
           · refine SC.seq ?_
             refine SC.r tk [(52, vb ((((s_1.Source != 0) || (s_1.MTU != 0)) || (s_1.MPS != 0)) || (s_1.Credits != 0)))] [] [] [] (by kernel_rfl) ?_
             refine SC.if' rfl hp (fun hp => ?_) (fun hp => ?_)
             · refine SC.r tk [(2, vi .i64 1)] [] [] [] (by kernel_rfl) ?_
               obtain rfl := some_inv' hp
               exact SC.re (js := []) tk (by kernel_rfl)
             · refine SC.skipThen ?_
               refine SC.r tk [(2, vi .i64 0)] [] [] [] (by kernel_rfl) ?_
               obtain rfl := some_inv' hp
               exact SC.re (js := []) tk (by kernel_rfl)
           · refine SC.r tk [(1, vp 0 0), (53, vb ((s_1.Kind == 20) && (s_1.PSM == 0)))] [] [] [] (by kernel_rfl) ?_
             refine SC.if' rfl hp (fun hp => ?_) (fun hp => ?_)
             · refine SC.r tk [(2, vi .i64 1)] [] [] [] (by kernel_rfl) ?_
               obtain rfl := some_inv' hp
               exact SC.re (js := []) tk (by kernel_rfl)
             · refine SC.seq ?_
               refine SC.reg ?_
               refine SL.sim tk 1 [(1, vp 0 0), (63, .g (C_api_Signal s_1))] [] [] [] (by kernel_rfl) ?_
               obtain ⟨x_5, e_x_5, hp⟩ := bind_inv hp
               refine SL.eff (e_c Try.call23 (ok_signal_ranges F s_1 _ e_x_5) [] [.g (C_api_Signal s_1)] (vb x_5) (by kernel_rfl) (.inl rfl)) rfl (by kernel_rfl) ?_
               refine SL.norm (itsN := [.blk 26 (C_api_Signal s_1)]) (by kernel_rfl) ?_
               refine SL.sim tk 2 [(1, vp 0 0), (62, vb (!x_5))] [] [] [] (by kernel_rfl) ?_
               refine SL.nilThen ?_
               refine SC.if' rfl hp (fun hp => ?_) (fun hp => ?_)
               · refine SC.r tk [(2, vi .i64 5)] [] [] [] (by kernel_rfl) ?_
                 obtain rfl := some_inv' hp
                 exact SC.re (js := []) tk (by kernel_rfl)
               · refine SC.r tk [(1, vp 0 0), (66, vb (s_1.Kind == 18))] [] [] [] (by kernel_rfl) ?_
                 refine SC.if' rfl hp (fun hp => ?_) (fun hp => ?_)
                 · refine SC.seq ?_
                   refine SC.reg ?_
                   refine SL.sim tk 2 [(71, .g (C_api_Update s_1.Update))] [] [] [] (by kernel_rfl) ?_
                   obtain ⟨x_6, e_x_6, hp⟩ := bind_inv hp
                   refine SL.eff (e_c Try.call24 (ok_connect_CheckUpdate F s_1.Update _ e_x_6) [] [.g (C_api_Update s_1.Update)] (vi .i64 x_6) (by kernel_rfl) (.inl rfl)) rfl (by kernel_rfl) ?_
                   refine SL.sim tk 1 [(2, vi .i64 x_6)] [] [] [] (by kernel_rfl) ?_
                   refine SL.nilThen ?_
                   obtain rfl := some_inv' hp
                   exact SC.re (js := []) tk (by kernel_rfl)
                 · refine SC.skipThen ?_
                   refine SC.r tk [(2, vi .i64 0)] [] [] [] (by kernel_rfl) ?_
                   obtain rfl := some_inv' hp
                   exact SC.re (js := []) tk (by kernel_rfl)

theorem ok_wirelessref34_Fields (F : Nat) (kind_1 : Int) (r : T_wirelessref34_Uses) (hp : wirelessref34_Fields F kind_1 = some r) : Spec Try.prog 25 [vi .i64 kind_1] [] (.g [cb r.Known, cb r.PSM, cb r.Source, cb r.Dest, cb r.Sizes, cb r.Credits, cb r.Result, cb r.Update]) [] := by
 refine Spec.enter Try.func25 rfl Try.ntmps25 rfl rfl fun fx => ?_
 refine SC.seq ?_
 refine SC.reg ?_
 refine SL.eff (e_alloc (E := 44) tk [cb false, cb false, cb false, cb false, cb false, cb false, cb false, cb false] (by kernel_rfl)) rfl (by kernel_rfl) ?_
 refine SL.nilThen ?_
 refine SC.seq ?_
 refine SC.r tk [(2, vp 0 0), (3, vi .i64 kind_1)] [] [] [] (by kernel_rfl) ?_
 refine SC.block ?_
 refine SC.cut (fun a w => ∃ (z_2 : Bool), wirelessref34_Fields_j1 F kind_1 z_2 = some r ∧ A 25 0 fx [(2, vp 0 0), (3, vi .i64 kind_1), (4, vb z_2)] [.blk 44 [cb false, cb false, cb false, cb false, cb false, cb false, cb false, cb false]] a w) ?_ ?_
 · refine SC.r tk [(2, vp 0 0), (3, vi .i64 kind_1), (4, vb (kind_1 == 1))] [] [] [] (by kernel_rfl) ?_
   refine SC.if' rfl hp (fun hp => ?_) (fun hp => ?_)
   · refine SC.skipJ fun a w h => ?_
     exact ⟨(kind_1 == 1), hp, h.at (js := [.g 0]) (by kernel_rfl)⟩
   · refine SC.reg ?_
     refine SL.sim tk 2 [(2, vp 0 0), (3, vi .i64 kind_1), (4, vb (kind_1 == 19))] [] [] [] (by kernel_rfl) ?_
     refine SL.nilJ fun a w h => ?_
     exact ⟨(kind_1 == 19), hp, h.at (js := [.g 0]) (by kernel_rfl)⟩
 · rintro a w ⟨z_2, hp, h⟩
   refine h.go ?_
   refine SC.if' rfl hp (fun hp => ?_) (fun hp => ?_)
   · refine SC.r tk [(2, vp 0 0)] [(0, 44, [cb true, cb false, cb false, cb false, cb false, cb false, cb true, cb false])] [] [] (by kernel_rfl) ?_
     obtain rfl := some_inv' hp
     exact SC.re (js := []) tk (by kernel_rfl)
   · refine SC.cut (fun a w => ∃ (z_3 : Bool), wirelessref34_Fields_j2 F kind_1 z_3 = some r ∧ A 25 0 fx [(2, vp 0 0), (3, vi .i64 kind_1), (8, vb z_3)] [.blk 44 [cb false, cb false, cb false, cb false, cb false, cb false, cb false, cb false]] a w) ?_ ?_
     · refine SC.r tk [(2, vp 0 0), (3, vi .i64 kind_1), (8, vb (kind_1 == 6))] [] [] [] (by kernel_rfl) ?_
       refine SC.if' rfl hp (fun hp => ?_) (fun hp => ?_)
       · refine SC.skipJ fun a w h => ?_
         exact ⟨(kind_1 == 6), hp, h.at (js := [.g 0]) (by kernel_rfl)⟩
       · refine SC.reg ?_
         refine SL.sim tk 2 [(2, vp 0 0), (3, vi .i64 kind_1), (8, vb (kind_1 == 7))] [] [] [] (by kernel_rfl) ?_
         refine SL.nilJ fun a w h => ?_
         exact ⟨(kind_1 == 7), hp, h.at (js := [.g 0]) (by kernel_rfl)⟩
     · rintro a w ⟨z_3, hp, h⟩
       refine h.go ?_
       refine SC.if' rfl hp (fun hp => ?_) (fun hp => ?_)
       · refine SC.r tk [(2, vp 0 0)] [(0, 44, [cb true, cb false, cb true, cb true, cb false, cb false, cb false, cb false])] [] [] (by kernel_rfl) ?_
         obtain rfl := some_inv' hp
         exact SC.re (js := []) tk (by kernel_rfl)
       · refine SC.r tk [(2, vp 0 0), (3, vi .i64 kind_1), (12, vb (kind_1 == 18))] [] [] [] (by kernel_rfl) ?_
         refine SC.if' rfl hp (fun hp => ?_) (fun hp => ?_)
         · refine SC.r tk [(2, vp 0 0)] [(0, 44, [cb true, cb false, cb false, cb false, cb false, cb false, cb false, cb true])] [] [] (by kernel_rfl) ?_
           obtain rfl := some_inv' hp
           exact SC.re (js := []) tk (by kernel_rfl)
         · refine SC.r tk [(2, vp 0 0), (3, vi .i64 kind_1), (15, vb (kind_1 == 20))] [] [] [] (by kernel_rfl) ?_
           refine SC.if' rfl hp (fun hp => ?_) (fun hp => ?_)
           · refine SC.r tk [(2, vp 0 0)] [(0, 44, [cb true, cb true, cb true, cb false, cb true, cb true, cb false, cb false])] [] [] (by kernel_rfl) ?_
             obtain rfl := some_inv' hp
             exact SC.re (js := []) tk (by kernel_rfl)
           · refine SC.r tk [(2, vp 0 0), (3, vi .i64 kind_1), (18, vb (kind_1 == 21))] [] [] [] (by kernel_rfl) ?_
             refine SC.if' rfl hp (fun hp => ?_) (fun hp => ?_)
             · refine SC.r tk [(2, vp 0 0)] [(0, 44, [cb true, cb false, cb true, cb false, cb true, cb true, cb true, cb false])] [] [] (by kernel_rfl) ?_
               obtain rfl := some_inv' hp
               exact SC.re (js := []) tk (by kernel_rfl)
             · refine SC.r tk [(2, vp 0 0), (21, vb (kind_1 == 22))] [] [] [] (by kernel_rfl) ?_
               refine SC.if' rfl hp (fun hp => ?_) (fun hp => ?_)
               · refine SC.r tk [(2, vp 0 0)] [(0, 44, [cb true, cb false, cb true, cb false, cb false, cb true, cb false, cb false])] [] [] (by kernel_rfl) ?_
                 obtain rfl := some_inv' hp
                 exact SC.re (js := []) tk (by kernel_rfl)
               · refine SC.skipThen ?_
                 refine SC.r tk [(2, vp 0 0)] [(0, 44, [cb false, cb false, cb false, cb false, cb false, cb false, cb false, cb false])] [] [] (by kernel_rfl) ?_
                 obtain rfl := some_inv' hp
                 exact SC.re (js := []) tk (by kernel_rfl)

theorem ok_wirelessref34_unused (F : Nat) (s_1 : T_api_Signal) (r : Bool) (hp : wirelessref34_unused F s_1 = some r) : Spec Try.prog 26 [.g (C_api_Signal s_1)] [] (vb r) [] := by
 refine Spec.enter Try.func26 rfl Try.ntmps26 rfl rfl fun fx => ?_
 refine SC.seq ?_
 refine SC.reg ?_
 refine SL.eff (e_box (E := 26) (C_api_Signal s_1) (by kernel_rfl)) rfl (by kernel_rfl) ?_
 refine SL.sim tk 1 [(1, vp 0 0)] [] [] [] (by kernel_rfl) ?_
 refine SL.nilThen ?_
 refine SC.seq ?_
 refine SC.reg ?_
 refine SL.sim tk 2 [(1, vp 0 0), (5, vi .i64 s_1.Kind)] [] [] [] (by kernel_rfl) ?_
 obtain ⟨x_2, e_x_2, hp⟩ := bind_inv hp
 refine SL.eff (e_c Try.call25 (ok_wirelessref34_Fields F s_1.Kind _ e_x_2) [] [vi .i64 s_1.Kind] (.g (C_wirelessref34_Uses x_2)) (by kernel_rfl) (.inl rfl)) rfl (by kernel_rfl) ?_
 refine SL.eff (e_alloc (E := 44) tk [cb false, cb false, cb false, cb false, cb false, cb false, cb false, cb false] (by kernel_rfl)) rfl (by kernel_rfl) ?_
 refine SL.norm (itsN := [.blk 26 (C_api_Signal s_1), .blk 44 [cb false, cb false, cb false, cb false, cb false, cb false, cb false, cb false]]) (by kernel_rfl) ?_
 refine SL.sim tk 1 [(1, vp 0 0), (3, vp 1 0)] [(1, 44, (C_wirelessref34_Uses x_2))] [] [] (by kernel_rfl) ?_
 refine SL.nilThen ?_
 refine SC.seq ?_
 refine SC.r tk [(1, vp 0 0), (3, vp 1 0), (49, vb (((((!x_2.PSM) && (s_1.PSM != 0)) || ((!x_2.Source) && (s_1.Source != 0))) || ((!x_2.Dest) && (s_1.Dest != 0))) || ((!x_2.Sizes) && ((s_1.MTU != 0) || (s_1.MPS != 0)))))] [] [] [] (by kernel_rfl) ?_
 refine SC.if' rfl hp (fun hp => ?_) (fun hp => ?_)
 · refine SC.r tk [(2, vb false)] [] [] [] (by kernel_rfl) ?_
   obtain rfl := some_inv' hp
   exact SC.re (js := []) tk (by kernel_rfl)
 · refine SC.skipThen ?_
   refine SC.seq ?_
   refine SC.reg ?_
   refine SL.sim tk 17 [(1, vp 0 0), (3, vp 1 0), (66, vb ((x_2.Credits || (s_1.Credits == 0)) && (x_2.Result || (s_1.Result == 0))))] [] [] [] (by kernel_rfl) ?_
   obtain ⟨z_4, hz, hpr⟩ := bind_inv hp
   clear hp
   refine SL.cutAt 9 (fun a w => A 76 0 fx [(75, vb z_4)] [] a w) ?_ ?_
   · have hp := hz
     rcases Bool.eq_false_or_eq_true (((x_2.Credits || (s_1.Credits == 0)) && (x_2.Result || (s_1.Result == 0)))) with hg_3 | hg_3
     · replace hp := if_t hp hg_3
       refine SL.yes rfl rfl hg_3 ?_
       refine SL.sim tk 1 [(1, vp 0 0), (66, vb ((x_2.Credits || (s_1.Credits == 0)) && (x_2.Result || (s_1.Result == 0)))), (67, vp 1 7)] [] [] [] (by kernel_rfl) ?_
       refine SL.yes rfl rfl hg_3 ?_
       refine SL.sim tk 1 [(1, vp 0 0), (66, vb ((x_2.Credits || (s_1.Credits == 0)) && (x_2.Result || (s_1.Result == 0)))), (68, vb x_2.Update)] [] [] [] (by kernel_rfl) ?_
       refine SL.yes rfl rfl hg_3 ?_
       refine SL.sim tk 1 [(1, vp 0 0), (66, vb ((x_2.Credits || (s_1.Credits == 0)) && (x_2.Result || (s_1.Result == 0)))), (69, vb x_2.Update)] [] [] [] (by kernel_rfl) ?_
       rcases Bool.eq_false_or_eq_true (x_2.Update) with hg_6 | hg_6
       · replace hp := if_t hp hg_6
         refine SL.no rfl rfl hg_6 rfl ?_
         refine SL.no rfl rfl hg_6 rfl ?_
         refine SL.no rfl rfl hg_6 rfl ?_
         refine SL.no rfl rfl hg_6 rfl ?_
         refine SL.yes rfl rfl hg_3 ?_
         refine SL.pickt rfl hg_6 rfl rfl ?_
         refine SL.pickt rfl hg_3 rfl rfl ?_
         refine SL.nilJ fun a w h => ?_
         obtain rfl := some_inv' hp
         exact h.at (js := []) (by kernel_rfl)
       · replace hp := if_f hp hg_6
         refine SL.yes rfl rfl hg_6 ?_
         refine SL.sim tk 1 [(66, vb ((x_2.Credits || (s_1.Credits == 0)) && (x_2.Result || (s_1.Result == 0)))), (69, vb x_2.Update), (70, vp 0 9)] [] [] [] (by kernel_rfl) ?_
         refine SL.yes rfl rfl hg_6 ?_
         refine SL.sim tk 1 [(66, vb ((x_2.Credits || (s_1.Credits == 0)) && (x_2.Result || (s_1.Result == 0)))), (69, vb x_2.Update), (71, .g (C_api_Update s_1.Update))] [] [] [] (by kernel_rfl) ?_
         refine SL.yes rfl rfl hg_6 ?_
         refine SL.sim tk 1 [(66, vb ((x_2.Credits || (s_1.Credits == 0)) && (x_2.Result || (s_1.Result == 0)))), (69, vb x_2.Update), (71, .g (C_api_Update s_1.Update)), (72, .g (C_api_Update (T_api_Update.mk 0 0 0 0 0)))] [] [] [] (by kernel_rfl) ?_
         refine SL.yes rfl rfl hg_6 ?_
         refine SL.eff (e_eqs tk (cs := (C_api_Update s_1.Update)) (ds := (C_api_Update (T_api_Update.mk 0 0 0 0 0))) [(s_1.Update.WinSize == 0), (s_1.Update.WinOffset == 0), (s_1.Update.Interval == 0), (s_1.Update.Latency == 0), (s_1.Update.Timeout == 0)] ((s_1.Update.WinSize == 0) && ((s_1.Update.WinOffset == 0) && ((s_1.Update.Interval == 0) && ((s_1.Update.Latency == 0) && (s_1.Update.Timeout == 0))))) rfl rfl (by kernel_rfl) (by kernel_rfl) (by kernel_rfl) (.inl ⟨rfl, (by kernel_rfl)⟩)) rfl (by kernel_rfl) ?_
         refine SL.yes rfl rfl hg_3 ?_
         refine SL.pickf rfl hg_6 rfl rfl ?_
         refine SL.pickt rfl hg_3 rfl rfl ?_
         refine SL.nilJ fun a w h => ?_
         obtain rfl := some_inv' hp
         exact h.at (js := []) (by kernel_rfl)
     · replace hp := if_f hp hg_3
       refine SL.no rfl rfl hg_3 rfl ?_
       refine SL.no rfl rfl hg_3 rfl ?_
       refine SL.no rfl rfl hg_3 rfl ?_
       refine SL.noU rfl rfl rfl ?_
       refine SL.noU rfl rfl rfl ?_
       refine SL.noU rfl rfl rfl ?_
       refine SL.noU rfl rfl rfl ?_
       refine SL.no rfl rfl hg_3 rfl ?_
       refine SL.pickf rfl hg_3 rfl rfl ?_
       refine SL.nilJ fun a w h => ?_
       obtain rfl := some_inv' hp
       exact h.at (js := []) (by kernel_rfl)
   · intro a w h
     have hp := hpr; clear hpr hz
     refine h.goL ?_
     refine SL.sim tk 1 [(2, vb z_4)] [] [] [] (by kernel_rfl) ?_
     refine SL.nilThen ?_
     obtain rfl := some_inv' hp
     exact SC.re (js := []) tk (by kernel_rfl)

theorem ok_wirelessref34_isResult (F : Nat) (kind_1 : Int) (n_2 : Int) (r : Bool) (hp : wirelessref34_isResult F kind_1 n_2 = some r) : Spec Try.prog 27 [vi .i64 kind_1, vi .i64 n_2] [] (vb r) [] := by
 refine Spec.enter Try.func27 rfl Try.ntmps27 rfl rfl fun fx => ?_
 refine SC.r tk [(0, vi .i64 kind_1), (1, vi .i64 n_2)] [] [] [] (by kernel_rfl) ?_
 refine SC.seq ?_
 refine SC.r tk [(1, vi .i64 n_2), (5, vi .i64 kind_1)] [] [] [] (by kernel_rfl) ?_
 refine SC.block ?_
 refine SC.r tk [(1, vi .i64 n_2), (5, vi .i64 kind_1), (6, vb (kind_1 == 1))] [] [] [] (by kernel_rfl) ?_
 refine SC.if' rfl hp (fun hp => ?_) (fun hp => ?_)
 · refine SC.r tk [(4, vb ((n_2 == 0) || (n_2 == 2)))] [] [] [] (by kernel_rfl) ?_
   obtain rfl := some_inv' hp
   exact SC.re (js := []) tk (by kernel_rfl)
 · refine SC.r tk [(1, vi .i64 n_2), (14, vb (kind_1 == 19))] [] [] [] (by kernel_rfl) ?_
   refine SC.if' rfl hp (fun hp => ?_) (fun hp => ?_)
   · refine SC.r tk [(4, vb ((n_2 == 0) || (n_2 == 1)))] [] [] [] (by kernel_rfl) ?_
     obtain rfl := some_inv' hp
     exact SC.re (js := []) tk (by kernel_rfl)
   · refine SC.skipThen ?_
     refine SC.r tk [(4, vb (((((n_2 == 0) || (n_2 == 2)) || (n_2 == 4)) || (n_2 == 5)) || (n_2 == 9)))] [] [] [] (by kernel_rfl) ?_
     obtain rfl := some_inv' hp
     exact SC.re (js := []) tk (by kernel_rfl)

theorem ok_wirelessref34_isCID (F : Nat) (n_1 : Int) (r : Bool) (hp : wirelessref34_isCID F n_1 = some r) : Spec Try.prog 42 [vi .u16 n_1] [] (vb r) [] := by
 refine Spec.enter Try.func42 rfl Try.ntmps42 rfl rfl fun fx => ?_
 refine SC.r tk [(0, vi .u16 n_1)] [] [] [] (by kernel_rfl) ?_
 refine SC.r tk [(2, vb ((decide (n_1 ≥ 64)) && (decide (n_1 ≤ 127))))] [] [] [] (by kernel_rfl) ?_
 obtain rfl := some_inv' hp
 exact SC.re (js := []) tk (by kernel_rfl)

theorem ok_wirelessref34_isSize (F : Nat) (n_1 : Int) (r : Bool) (hp : wirelessref34_isSize F n_1 = some r) : Spec Try.prog 43 [vi .i64 n_1] [] (vb r) [] := by
 refine Spec.enter Try.func43 rfl Try.ntmps43 rfl rfl fun fx => ?_
 refine SC.r tk [(0, vi .i64 n_1)] [] [] [] (by kernel_rfl) ?_
 refine SC.r tk [(2, vb ((decide (n_1 ≥ 23)) && (decide (n_1 ≤ 4096))))] [] [] [] (by kernel_rfl) ?_
 obtain rfl := some_inv' hp
 exact SC.re (js := []) tk (by kernel_rfl)

theorem ok_wirelessref34_inRange (F : Nat) (s_1 : T_api_Signal) (r : Bool) (hp : wirelessref34_inRange F s_1 = some r) : Spec Try.prog 28 [.g (C_api_Signal s_1)] [] (vb r) [] := by
 refine Spec.enter Try.func28 rfl Try.ntmps28 rfl rfl fun fx => ?_
 refine SC.seq ?_
 refine SC.reg ?_
 refine SL.eff (e_box (E := 26) (C_api_Signal s_1) (by kernel_rfl)) rfl (by kernel_rfl) ?_
 refine SL.sim tk 1 [(1, vp 0 0)] [] [] [] (by kernel_rfl) ?_
 refine SL.nilThen ?_
 refine SC.seq ?_
 refine SC.reg ?_
 refine SL.sim tk 2 [(1, vp 0 0), (6, vi .i64 s_1.Kind)] [] [] [] (by kernel_rfl) ?_
 obtain ⟨x_2, e_x_2, hp⟩ := bind_inv hp
 refine SL.eff (e_c Try.call25 (ok_wirelessref34_Fields F s_1.Kind _ e_x_2) [] [vi .i64 s_1.Kind] (.g (C_wirelessref34_Uses x_2)) (by kernel_rfl) (.inl rfl)) rfl (by kernel_rfl) ?_
 refine SL.eff (e_alloc (E := 44) tk [cb false, cb false, cb false, cb false, cb false, cb false, cb false, cb false] (by kernel_rfl)) rfl (by kernel_rfl) ?_
 refine SL.norm (itsN := [.blk 26 (C_api_Signal s_1), .blk 44 [cb false, cb false, cb false, cb false, cb false, cb false, cb false, cb false]]) (by kernel_rfl) ?_
 refine SL.sim tk 1 [(1, vp 0 0), (3, vp 1 0)] [(1, 44, (C_wirelessref34_Uses x_2))] [] [] (by kernel_rfl) ?_
 refine SL.nilThen ?_
 refine SC.seq ?_
 refine SC.seq ?_
 refine SC.reg ?_
 refine SL.sim tk 3 [(1, vp 0 0), (3, vp 1 0), (10, vb x_2.Source)] [] [] [] (by kernel_rfl) ?_
 obtain ⟨z_4, hz, hpr⟩ := bind_inv hp
 clear hp
 refine SL.cutAt 5 (fun a w => A 59 0 fx [(1, vp 0 0), (3, vp 1 0), (15, vb z_4)] [.blk 26 (C_api_Signal s_1), .blk 44 (C_wirelessref34_Uses x_2)] a w) ?_ ?_
 · have hp := hz
   rcases Bool.eq_false_or_eq_true (x_2.Source) with hg_3 | hg_3
   · replace hp := if_t hp hg_3
     refine SL.yes rfl rfl hg_3 ?_
     refine SL.sim tk 1 [(1, vp 0 0), (3, vp 1 0), (10, vb x_2.Source), (11, vp 0 3)] [] [] [] (by kernel_rfl) ?_
     refine SL.yes rfl rfl hg_3 ?_
     refine SL.sim tk 1 [(1, vp 0 0), (3, vp 1 0), (10, vb x_2.Source), (12, vi .u16 s_1.Source)] [] [] [] (by kernel_rfl) ?_
     refine SL.yes rfl rfl hg_3 ?_
     obtain ⟨x_19, e_x_19, hp⟩ := bind_inv hp
     refine SL.eff (e_c Try.call42 (ok_wirelessref34_isCID F s_1.Source _ e_x_19) [] [vi .u16 s_1.Source] (vb x_19) (by kernel_rfl) (.inl rfl)) rfl (by kernel_rfl) ?_
     refine SL.yes rfl rfl hg_3 ?_
     refine SL.sim tk 1 [(1, vp 0 0), (3, vp 1 0), (10, vb x_2.Source), (14, vb (!x_19))] [] [] [] (by kernel_rfl) ?_
     refine SL.pickt rfl hg_3 rfl rfl ?_
     refine SL.nilJ fun a w h => ?_
     obtain rfl := some_inv' hp
     exact h.at (js := [.g 0, .g 1]) (by kernel_rfl)
   · replace hp := if_f hp hg_3
     refine SL.no rfl rfl hg_3 rfl ?_
     refine SL.no rfl rfl hg_3 rfl ?_
     refine SL.no rfl rfl hg_3 rfl ?_
     refine SL.no rfl rfl hg_3 rfl ?_
     refine SL.pickf rfl hg_3 rfl rfl ?_
     refine SL.nilJ fun a w h => ?_
     obtain rfl := some_inv' hp
     exact h.at (js := [.g 0, .g 1]) (by kernel_rfl)
 · intro a w h
   have hp := hpr; clear hpr hz
   refine h.goL ?_
   refine SL.sim tk 1 [(1, vp 0 0), (3, vp 1 0), (16, vb z_4)] [] [] [] (by kernel_rfl) ?_
   obtain ⟨z_6, hz, hpr⟩ := bind_inv hp
   clear hp
   refine SL.cutAt 9 (fun a w => A 59 0 fx [(1, vp 0 0), (3, vp 1 0), (25, vb z_6)] [.blk 26 (C_api_Signal s_1), .blk 44 (C_wirelessref34_Uses x_2)] a w) ?_ ?_
   · have hp := hz
     rcases Bool.eq_false_or_eq_true (z_4) with hg_5 | hg_5
     · replace hp := if_t hp hg_5
       refine SL.no rfl rfl hg_5 rfl ?_
       refine SL.no rfl rfl hg_5 rfl ?_
       refine SL.no rfl rfl hg_5 rfl ?_
       refine SL.noU rfl rfl rfl ?_
       refine SL.noU rfl rfl rfl ?_
       refine SL.noU rfl rfl rfl ?_
       refine SL.noU rfl rfl rfl ?_
       refine SL.no rfl rfl hg_5 rfl ?_
       refine SL.pickt rfl hg_5 rfl rfl ?_
       refine SL.nilJ fun a w h => ?_
       obtain rfl := some_inv' hp
       exact h.at (js := [.g 0, .g 1]) (by kernel_rfl)
     · replace hp := if_f hp hg_5
       refine SL.yes rfl rfl hg_5 ?_
       refine SL.sim tk 1 [(1, vp 0 0), (3, vp 1 0), (16, vb z_4), (17, vp 1 3)] [] [] [] (by kernel_rfl) ?_
       refine SL.yes rfl rfl hg_5 ?_
       refine SL.sim tk 1 [(1, vp 0 0), (3, vp 1 0), (16, vb z_4), (18, vb x_2.Dest)] [] [] [] (by kernel_rfl) ?_
       refine SL.yes rfl rfl hg_5 ?_
       refine SL.sim tk 1 [(1, vp 0 0), (3, vp 1 0), (16, vb z_4), (19, vb x_2.Dest)] [] [] [] (by kernel_rfl) ?_
       rcases Bool.eq_false_or_eq_true (x_2.Dest) with hg_16 | hg_16
       · replace hp := if_t hp hg_16
         refine SL.yes rfl rfl hg_16 ?_
         refine SL.sim tk 1 [(1, vp 0 0), (3, vp 1 0), (16, vb z_4), (19, vb x_2.Dest), (20, vp 0 4)] [] [] [] (by kernel_rfl) ?_
         refine SL.yes rfl rfl hg_16 ?_
         refine SL.sim tk 1 [(1, vp 0 0), (3, vp 1 0), (16, vb z_4), (19, vb x_2.Dest), (21, vi .u16 s_1.Dest)] [] [] [] (by kernel_rfl) ?_
         refine SL.yes rfl rfl hg_16 ?_
         obtain ⟨x_17, e_x_17, hp⟩ := bind_inv hp
         refine SL.eff (e_c Try.call42 (ok_wirelessref34_isCID F s_1.Dest _ e_x_17) [] [vi .u16 s_1.Dest] (vb x_17) (by kernel_rfl) (.inl rfl)) rfl (by kernel_rfl) ?_
         refine SL.yes rfl rfl hg_16 ?_
         refine SL.sim tk 1 [(1, vp 0 0), (3, vp 1 0), (16, vb z_4), (19, vb x_2.Dest), (23, vb (!x_17))] [] [] [] (by kernel_rfl) ?_
         refine SL.yes rfl rfl hg_5 ?_
         refine SL.pickt rfl hg_16 rfl rfl ?_
         refine SL.pickf rfl hg_5 rfl rfl ?_
         refine SL.nilJ fun a w h => ?_
         obtain rfl := some_inv' hp
         exact h.at (js := [.g 0, .g 1]) (by kernel_rfl)
       · replace hp := if_f hp hg_16
         refine SL.no rfl rfl hg_16 rfl ?_
         refine SL.no rfl rfl hg_16 rfl ?_
         refine SL.no rfl rfl hg_16 rfl ?_
         refine SL.no rfl rfl hg_16 rfl ?_
         refine SL.yes rfl rfl hg_5 ?_
         refine SL.pickf rfl hg_16 rfl rfl ?_
         refine SL.pickf rfl hg_5 rfl rfl ?_
         refine SL.nilJ fun a w h => ?_
         obtain rfl := some_inv' hp
         exact h.at (js := [.g 0, .g 1]) (by kernel_rfl)
   · intro a w h
     have hp := hpr; clear hpr hz
     refine h.goL ?_
     refine SL.sim tk 1 [(1, vp 0 0), (3, vp 1 0), (26, vb z_6)] [] [] [] (by kernel_rfl) ?_
     obtain ⟨z_8, hz, hpr⟩ := bind_inv hp
     clear hp
     refine SL.cutAt 15 (fun a w => A 59 0 fx [(1, vp 0 0), (3, vp 1 0), (41, vb z_8)] [.blk 26 (C_api_Signal s_1), .blk 44 (C_wirelessref34_Uses x_2)] a w) ?_ ?_
     · have hp := hz
       rcases Bool.eq_false_or_eq_true (z_6) with hg_7 | hg_7
       · replace hp := if_t hp hg_7
         refine SL.no rfl rfl hg_7 rfl ?_
         refine SL.no rfl rfl hg_7 rfl ?_
         refine SL.no rfl rfl hg_7 rfl ?_
         refine SL.noU rfl rfl rfl ?_
         refine SL.noU rfl rfl rfl ?_
         refine SL.noU rfl rfl rfl ?_
         refine SL.noU rfl rfl rfl ?_
         refine SL.noU rfl rfl rfl ?_
         refine SL.noU rfl rfl rfl ?_
         refine SL.noU rfl rfl rfl ?_
         refine SL.noU rfl rfl rfl ?_
         refine SL.noU rfl rfl rfl ?_
         refine SL.noU rfl rfl rfl ?_
         refine SL.no rfl rfl hg_7 rfl ?_
         refine SL.pickt rfl hg_7 rfl rfl ?_
         refine SL.nilJ fun a w h => ?_
         obtain rfl := some_inv' hp
         exact h.at (js := [.g 0, .g 1]) (by kernel_rfl)
       · replace hp := if_f hp hg_7
         refine SL.yes rfl rfl hg_7 ?_
         refine SL.sim tk 1 [(1, vp 0 0), (3, vp 1 0), (26, vb z_6), (27, vp 1 4)] [] [] [] (by kernel_rfl) ?_
         refine SL.yes rfl rfl hg_7 ?_
         refine SL.sim tk 1 [(1, vp 0 0), (3, vp 1 0), (26, vb z_6), (28, vb x_2.Sizes)] [] [] [] (by kernel_rfl) ?_
         refine SL.yes rfl rfl hg_7 ?_
         refine SL.sim tk 1 [(1, vp 0 0), (3, vp 1 0), (26, vb z_6), (29, vb x_2.Sizes)] [] [] [] (by kernel_rfl) ?_
         rcases Bool.eq_false_or_eq_true (x_2.Sizes) with hg_11 | hg_11
         · replace hp := if_t hp hg_11
           refine SL.yes rfl rfl hg_11 ?_
           refine SL.sim tk 1 [(1, vp 0 0), (3, vp 1 0), (26, vb z_6), (29, vb x_2.Sizes), (30, vp 0 5)] [] [] [] (by kernel_rfl) ?_
           refine SL.yes rfl rfl hg_11 ?_
           refine SL.sim tk 1 [(1, vp 0 0), (3, vp 1 0), (26, vb z_6), (29, vb x_2.Sizes), (31, vi .i64 s_1.MTU)] [] [] [] (by kernel_rfl) ?_
           refine SL.yes rfl rfl hg_11 ?_
           obtain ⟨x_12, e_x_12, hp⟩ := bind_inv hp
           refine SL.eff (e_c Try.call43 (ok_wirelessref34_isSize F s_1.MTU _ e_x_12) [] [vi .i64 s_1.MTU] (vb x_12) (by kernel_rfl) (.inl rfl)) rfl (by kernel_rfl) ?_
           refine SL.yes rfl rfl hg_11 ?_
           refine SL.sim tk 1 [(1, vp 0 0), (3, vp 1 0), (26, vb z_6), (29, vb x_2.Sizes), (33, vb (!x_12))] [] [] [] (by kernel_rfl) ?_
           refine SL.yes rfl rfl hg_11 ?_
           refine SL.sim tk 1 [(1, vp 0 0), (3, vp 1 0), (26, vb z_6), (29, vb x_2.Sizes), (34, vb (!x_12))] [] [] [] (by kernel_rfl) ?_
           rcases Bool.eq_false_or_eq_true ((!x_12)) with hg_13 | hg_13
           · replace hp := if_t hp hg_13
             refine SL.no rfl rfl hg_13 rfl ?_
             refine SL.no rfl rfl hg_13 rfl ?_
             refine SL.no rfl rfl hg_13 rfl ?_
             refine SL.no rfl rfl hg_13 rfl ?_
             refine SL.yes rfl rfl hg_11 ?_
             refine SL.pickt rfl hg_13 rfl rfl ?_
             refine SL.yes rfl rfl hg_7 ?_
             refine SL.pickt rfl hg_11 rfl rfl ?_
             refine SL.pickf rfl hg_7 rfl rfl ?_
             refine SL.nilJ fun a w h => ?_
             obtain rfl := some_inv' hp
             exact h.at (js := [.g 0, .g 1]) (by kernel_rfl)
           · replace hp := if_f hp hg_13
             refine SL.yes rfl rfl hg_13 ?_
             refine SL.sim tk 1 [(1, vp 0 0), (3, vp 1 0), (26, vb z_6), (29, vb x_2.Sizes), (34, vb (!x_12)), (35, vp 0 6)] [] [] [] (by kernel_rfl) ?_
             refine SL.yes rfl rfl hg_13 ?_
             refine SL.sim tk 1 [(1, vp 0 0), (3, vp 1 0), (26, vb z_6), (29, vb x_2.Sizes), (34, vb (!x_12)), (36, vi .i64 s_1.MPS)] [] [] [] (by kernel_rfl) ?_
             refine SL.yes rfl rfl hg_13 ?_
             obtain ⟨x_14, e_x_14, hp⟩ := bind_inv hp
             refine SL.eff (e_c Try.call43 (ok_wirelessref34_isSize F s_1.MPS _ e_x_14) [] [vi .i64 s_1.MPS] (vb x_14) (by kernel_rfl) (.inl rfl)) rfl (by kernel_rfl) ?_
             refine SL.norm (itsN := [.blk 26 (C_api_Signal s_1), .blk 44 (C_wirelessref34_Uses x_2)]) (by kernel_rfl) ?_
             refine SL.yes rfl rfl hg_13 ?_
             refine SL.sim tk 1 [(1, vp 0 0), (3, vp 1 0), (26, vb z_6), (29, vb x_2.Sizes), (34, vb (!x_12)), (38, vb (!x_14))] [] [] [] (by kernel_rfl) ?_
             refine SL.yes rfl rfl hg_11 ?_
             refine SL.pickf rfl hg_13 rfl rfl ?_
             refine SL.yes rfl rfl hg_7 ?_
             refine SL.pickt rfl hg_11 rfl rfl ?_
             refine SL.pickf rfl hg_7 rfl rfl ?_
             refine SL.nilJ fun a w h => ?_
             obtain rfl := some_inv' hp
             exact h.at (js := [.g 0, .g 1]) (by kernel_rfl)
         · replace hp := if_f hp hg_11
           refine SL.no rfl rfl hg_11 rfl ?_
           refine SL.no rfl rfl hg_11 rfl ?_
           refine SL.no rfl rfl hg_11 rfl ?_
           refine SL.no rfl rfl hg_11 rfl ?_
           refine SL.no rfl rfl hg_11 rfl ?_
           refine SL.noU rfl rfl rfl ?_
           refine SL.noU rfl rfl rfl ?_
           refine SL.noU rfl rfl rfl ?_
           refine SL.noU rfl rfl rfl ?_
           refine SL.no rfl rfl hg_11 rfl ?_
           refine SL.yes rfl rfl hg_7 ?_
           refine SL.pickf rfl hg_11 rfl rfl ?_
           refine SL.pickf rfl hg_7 rfl rfl ?_
           refine SL.nilJ fun a w h => ?_
           obtain rfl := some_inv' hp
           exact h.at (js := [.g 0, .g 1]) (by kernel_rfl)
     · intro a w h
       have hp := hpr; clear hpr hz
       refine h.goL ?_
       refine SL.nilThen ?_
       refine SC.if' rfl hp (fun hp => ?_) (fun hp => ?_)
       · refine SC.r tk [(2, vb false)] [] [] [] (by kernel_rfl) ?_
         obtain rfl := some_inv' hp
         exact SC.re (js := []) tk (by kernel_rfl)
       · refine SC.skipThen ?_
         refine SC.r tk [(1, vp 0 0), (3, vp 1 0), (4, vi .i64 0)] [] [] [] (by kernel_rfl) ?_
         refine SC.cut (fun a w => ∃ (x_9 : Int), wirelessref34_inRange_j1 F s_1 x_2 x_9 = some r ∧ A 59 0 fx [(1, vp 0 0), (3, vp 1 0), (4, vi .i64 x_9)] [.blk 26 (C_api_Signal s_1), .blk 44 (C_wirelessref34_Uses x_2)] a w) ?_ ?_
         · refine SC.r tk [(1, vp 0 0), (3, vp 1 0), (4, vi .i64 0), (44, vb (s_1.Kind == 22))] [] [] [] (by kernel_rfl) ?_
           refine SC.if' rfl hp (fun hp => ?_) (fun hp => ?_)
           · refine SC.reg ?_
             refine SL.sim tk 1 [(1, vp 0 0), (3, vp 1 0), (4, vi .i64 1)] [] [] [] (by kernel_rfl) ?_
             refine SL.nilJ fun a w h => ?_
             exact ⟨1, hp, h.at (js := [.g 0, .g 1]) (by kernel_rfl)⟩
           · refine SC.skipJ fun a w h => ?_
             exact ⟨0, hp, h.at (js := [.g 0, .g 1]) (by kernel_rfl)⟩
         · rintro a w ⟨x_9, hp, h⟩
           refine h.go ?_
           refine SC.r tk [(2, vb ((!x_2.Credits) || ((decide (s_1.Credits ≥ x_9)) && (decide (s_1.Credits ≤ 65535)))))] [] [] [] (by kernel_rfl) ?_
           obtain rfl := some_inv' hp
           exact SC.re (js := []) tk (by kernel_rfl)

theorem ok_wirelessref17_within (F : Nat) (n_1 : Int) (low_2 : Int) (high_3 : Int) (r : Bool) (hp : wirelessref17_within F n_1 low_2 high_3 = some r) : Spec Try.prog 44 [vi .i64 n_1, vi .i64 low_2, vi .i64 high_3] [] (vb r) [] := by
 refine Spec.enter Try.func44 rfl Try.ntmps44 rfl rfl fun fx => ?_
 refine SC.r tk [(0, vi .i64 n_1), (1, vi .i64 low_2), (2, vi .i64 high_3)] [] [] [] (by kernel_rfl) ?_
 refine SC.r tk [(6, vb ((decide (n_1 ≥ low_2)) && (decide (n_1 ≤ high_3))))] [] [] [] (by kernel_rfl) ?_
 obtain rfl := some_inv' hp
 exact SC.re (js := []) tk (by kernel_rfl)

theorem ok_wirelessref17_CheckUpdate (F : Nat) (u_1 : T_api_Update) (r : Int) (hp : wirelessref17_CheckUpdate F u_1 = some r) : Spec Try.prog 29 [.g (C_api_Update u_1)] [] (vi .i64 r) [] := by
 refine Spec.enter Try.func29 rfl Try.ntmps29 rfl rfl fun fx => ?_
 refine SC.seq ?_
 refine SC.reg ?_
 refine SL.eff (e_box (E := 24) (C_api_Update u_1) (by kernel_rfl)) rfl (by kernel_rfl) ?_
 refine SL.sim tk 1 [(1, vp 0 0)] [] [] [] (by kernel_rfl) ?_
 refine SL.nilThen ?_
 refine SC.seq ?_
 refine SC.seq ?_
 refine SC.reg ?_
 refine SL.sim tk 2 [(1, vp 0 0), (4, vi .i64 u_1.WinSize)] [] [] [] (by kernel_rfl) ?_
 obtain ⟨x_2, e_x_2, hp⟩ := bind_inv hp
 refine SL.eff (e_c Try.call44 (ok_wirelessref17_within F u_1.WinSize 1 8 _ e_x_2) [] [vi .i64 u_1.WinSize, vi .i64 1, vi .i64 8] (vb x_2) (by kernel_rfl) (.inl rfl)) rfl (by kernel_rfl) ?_
 refine SL.sim tk 2 [(1, vp 0 0), (7, vb (!x_2))] [] [] [] (by kernel_rfl) ?_
 obtain ⟨z_4, hz, hpr⟩ := bind_inv hp
 clear hp
 refine SL.cutAt 5 (fun a w => A 57 0 fx [(1, vp 0 0), (12, vb z_4)] [.blk 24 (C_api_Update u_1)] a w) ?_ ?_
 · have hp := hz
   rcases Bool.eq_false_or_eq_true ((!x_2)) with hg_3 | hg_3
   · replace hp := if_t hp hg_3
     refine SL.no rfl rfl hg_3 rfl ?_
     refine SL.no rfl rfl hg_3 rfl ?_
     refine SL.no rfl rfl hg_3 rfl ?_
     refine SL.no rfl rfl hg_3 rfl ?_
     refine SL.pickt rfl hg_3 rfl rfl ?_
     refine SL.nilJ fun a w h => ?_
     obtain rfl := some_inv' hp
     exact h.at (js := [.g 0]) (by kernel_rfl)
   · replace hp := if_f hp hg_3
     refine SL.yes rfl rfl hg_3 ?_
     refine SL.sim tk 1 [(1, vp 0 0), (7, vb (!x_2)), (8, vp 0 1)] [] [] [] (by kernel_rfl) ?_
     refine SL.yes rfl rfl hg_3 ?_
     refine SL.sim tk 1 [(1, vp 0 0), (7, vb (!x_2)), (9, vi .i64 u_1.WinOffset)] [] [] [] (by kernel_rfl) ?_
     refine SL.yes rfl rfl hg_3 ?_
     obtain ⟨x_18, e_x_18, hp⟩ := bind_inv hp
     refine SL.eff (e_c Try.call44 (ok_wirelessref17_within F u_1.WinOffset 0 3200 _ e_x_18) [] [vi .i64 u_1.WinOffset, vi .i64 0, vi .i64 3200] (vb x_18) (by kernel_rfl) (.inl rfl)) rfl (by kernel_rfl) ?_
     refine SL.norm (itsN := [.blk 24 (C_api_Update u_1)]) (by kernel_rfl) ?_
     refine SL.yes rfl rfl hg_3 ?_
     refine SL.sim tk 1 [(1, vp 0 0), (7, vb (!x_2)), (11, vb (!x_18))] [] [] [] (by kernel_rfl) ?_
     refine SL.pickf rfl hg_3 rfl rfl ?_
     refine SL.nilJ fun a w h => ?_
     obtain rfl := some_inv' hp
     exact h.at (js := [.g 0]) (by kernel_rfl)
 · intro a w h
   have hp := hpr; clear hpr hz
   refine h.goL ?_
   refine SL.sim tk 1 [(1, vp 0 0), (13, vb z_4)] [] [] [] (by kernel_rfl) ?_
   obtain ⟨z_6, hz, hpr⟩ := bind_inv hp
   clear hp
   refine SL.cutAt 5 (fun a w => A 57 0 fx [(1, vp 0 0), (18, vb z_6)] [.blk 24 (C_api_Update u_1)] a w) ?_ ?_
   · have hp := hz
     rcases Bool.eq_false_or_eq_true (z_4) with hg_5 | hg_5
     · replace hp := if_t hp hg_5
       refine SL.no rfl rfl hg_5 rfl ?_
       refine SL.no rfl rfl hg_5 rfl ?_
       refine SL.no rfl rfl hg_5 rfl ?_
       refine SL.no rfl rfl hg_5 rfl ?_
       refine SL.pickt rfl hg_5 rfl rfl ?_
       refine SL.nilJ fun a w h => ?_
       obtain rfl := some_inv' hp
       exact h.at (js := [.g 0]) (by kernel_rfl)
     · replace hp := if_f hp hg_5
       refine SL.yes rfl rfl hg_5 ?_
       refine SL.sim tk 1 [(1, vp 0 0), (13, vb z_4), (14, vp 0 2)] [] [] [] (by kernel_rfl) ?_
       refine SL.yes rfl rfl hg_5 ?_
       refine SL.sim tk 1 [(1, vp 0 0), (13, vb z_4), (15, vi .i64 u_1.Interval)] [] [] [] (by kernel_rfl) ?_
       refine SL.yes rfl rfl hg_5 ?_
       obtain ⟨x_16, e_x_16, hp⟩ := bind_inv hp
       refine SL.eff (e_c Try.call44 (ok_wirelessref17_within F u_1.Interval 6 3200 _ e_x_16) [] [vi .i64 u_1.Interval, vi .i64 6, vi .i64 3200] (vb x_16) (by kernel_rfl) (.inl rfl)) rfl (by kernel_rfl) ?_
       refine SL.yes rfl rfl hg_5 ?_
       refine SL.sim tk 1 [(1, vp 0 0), (13, vb z_4), (17, vb (!x_16))] [] [] [] (by kernel_rfl) ?_
       refine SL.pickf rfl hg_5 rfl rfl ?_
       refine SL.nilJ fun a w h => ?_
       obtain rfl := some_inv' hp
       exact h.at (js := [.g 0]) (by kernel_rfl)
   · intro a w h
     have hp := hpr; clear hpr hz
     refine h.goL ?_
     refine SL.sim tk 1 [(1, vp 0 0), (19, vb z_6)] [] [] [] (by kernel_rfl) ?_
     obtain ⟨z_8, hz, hpr⟩ := bind_inv hp
     clear hp
     refine SL.cutAt 5 (fun a w => A 57 0 fx [(1, vp 0 0), (24, vb z_8)] [.blk 24 (C_api_Update u_1)] a w) ?_ ?_
     · have hp := hz
       rcases Bool.eq_false_or_eq_true (z_6) with hg_7 | hg_7
       · replace hp := if_t hp hg_7
         refine SL.no rfl rfl hg_7 rfl ?_
         refine SL.no rfl rfl hg_7 rfl ?_
         refine SL.no rfl rfl hg_7 rfl ?_
         refine SL.no rfl rfl hg_7 rfl ?_
         refine SL.pickt rfl hg_7 rfl rfl ?_
         refine SL.nilJ fun a w h => ?_
         obtain rfl := some_inv' hp
         exact h.at (js := [.g 0]) (by kernel_rfl)
       · replace hp := if_f hp hg_7
         refine SL.yes rfl rfl hg_7 ?_
         refine SL.sim tk 1 [(1, vp 0 0), (19, vb z_6), (20, vp 0 3)] [] [] [] (by kernel_rfl) ?_
         refine SL.yes rfl rfl hg_7 ?_
         refine SL.sim tk 1 [(1, vp 0 0), (19, vb z_6), (21, vi .i64 u_1.Latency)] [] [] [] (by kernel_rfl) ?_
         refine SL.yes rfl rfl hg_7 ?_
         obtain ⟨x_14, e_x_14, hp⟩ := bind_inv hp
         refine SL.eff (e_c Try.call44 (ok_wirelessref17_within F u_1.Latency 0 499 _ e_x_14) [] [vi .i64 u_1.Latency, vi .i64 0, vi .i64 499] (vb x_14) (by kernel_rfl) (.inl rfl)) rfl (by kernel_rfl) ?_
         refine SL.yes rfl rfl hg_7 ?_
         refine SL.sim tk 1 [(1, vp 0 0), (19, vb z_6), (23, vb (!x_14))] [] [] [] (by kernel_rfl) ?_
         refine SL.pickf rfl hg_7 rfl rfl ?_
         refine SL.nilJ fun a w h => ?_
         obtain rfl := some_inv' hp
         exact h.at (js := [.g 0]) (by kernel_rfl)
     · intro a w h
       have hp := hpr; clear hpr hz
       refine h.goL ?_
       refine SL.sim tk 1 [(1, vp 0 0), (25, vb z_8)] [] [] [] (by kernel_rfl) ?_
       obtain ⟨z_10, hz, hpr⟩ := bind_inv hp
       clear hp
       refine SL.cutAt 5 (fun a w => A 57 0 fx [(1, vp 0 0), (30, vb z_10)] [.blk 24 (C_api_Update u_1)] a w) ?_ ?_
       · have hp := hz
         rcases Bool.eq_false_or_eq_true (z_8) with hg_9 | hg_9
         · replace hp := if_t hp hg_9
           refine SL.no rfl rfl hg_9 rfl ?_
           refine SL.no rfl rfl hg_9 rfl ?_
           refine SL.no rfl rfl hg_9 rfl ?_
           refine SL.no rfl rfl hg_9 rfl ?_
           refine SL.pickt rfl hg_9 rfl rfl ?_
           refine SL.nilJ fun a w h => ?_
           obtain rfl := some_inv' hp
           exact h.at (js := [.g 0]) (by kernel_rfl)
         · replace hp := if_f hp hg_9
           refine SL.yes rfl rfl hg_9 ?_
           refine SL.sim tk 1 [(1, vp 0 0), (25, vb z_8), (26, vp 0 4)] [] [] [] (by kernel_rfl) ?_
           refine SL.yes rfl rfl hg_9 ?_
           refine SL.sim tk 1 [(1, vp 0 0), (25, vb z_8), (27, vi .i64 u_1.Timeout)] [] [] [] (by kernel_rfl) ?_
           refine SL.yes rfl rfl hg_9 ?_
           obtain ⟨x_12, e_x_12, hp⟩ := bind_inv hp
           refine SL.eff (e_c Try.call44 (ok_wirelessref17_within F u_1.Timeout 10 3200 _ e_x_12) [] [vi .i64 u_1.Timeout, vi .i64 10, vi .i64 3200] (vb x_12) (by kernel_rfl) (.inl rfl)) rfl (by kernel_rfl) ?_
           refine SL.yes rfl rfl hg_9 ?_
           refine SL.sim tk 1 [(1, vp 0 0), (25, vb z_8), (29, vb (!x_12))] [] [] [] (by kernel_rfl) ?_
           refine SL.pickf rfl hg_9 rfl rfl ?_
           refine SL.nilJ fun a w h => ?_
           obtain rfl := some_inv' hp
           exact h.at (js := [.g 0]) (by kernel_rfl)
       · intro a w h
         have hp := hpr; clear hpr hz
         refine h.goL ?_
         refine SL.nilThen ?_
         refine SC.if' rfl hp (fun hp => ?_) (fun hp => ?_)
         · refine SC.r tk [(2, vi .i64 5)] [] [] [] (by kernel_rfl) ?_
           obtain rfl := some_inv' hp
           exact SC.re (js := []) tk (by kernel_rfl)
         · refine SC.skipThen ?_
           refine SC.seq ?_
           refine SC.r tk [(56, vb (((decide (u_1.WinSize ≥ u_1.Interval)) || (decide (u_1.WinOffset > u_1.Interval))) || (decide ((w64 (u_1.Timeout * 10000)) ≤ (w64 ((w64 ((w64 (2 * (w64 (u_1.Latency + 1)))) * u_1.Interval)) * 1250))))))] [] [] [] (by kernel_rfl) ?_
           refine SC.if' rfl hp (fun hp => ?_) (fun hp => ?_)
           · refine SC.r tk [(2, vi .i64 11)] [] [] [] (by kernel_rfl) ?_
             obtain rfl := some_inv' hp
             exact SC.re (js := []) tk (by kernel_rfl)
           · refine SC.skipThen ?_
             refine SC.r tk [(2, vi .i64 0)] [] [] [] (by kernel_rfl) ?_
             obtain rfl := some_inv' hp
             exact SC.re (js := []) tk (by kernel_rfl)

theorem ok_wirelessref34_Check (F : Nat) (s_1 : T_api_Signal) (r : Int) (hp : wirelessref34_Check F s_1 = some r) : Spec Try.prog 11 [.g (C_api_Signal s_1)] [] (vi .i64 r) [] := by
 refine Spec.enter Try.func11 rfl Try.ntmps11 rfl rfl fun fx => ?_
 refine SC.seq ?_
 refine SC.reg ?_
 refine SL.eff (e_box (E := 26) (C_api_Signal s_1) (by kernel_rfl)) rfl (by kernel_rfl) ?_
 refine SL.sim tk 1 [(1, vp 0 0)] [] [] [] (by kernel_rfl) ?_
 refine SL.nilThen ?_
 refine SC.seq ?_
 refine SC.reg ?_
 refine SL.sim tk 2 [(1, vp 0 0), (5, vi .i64 s_1.Kind)] [] [] [] (by kernel_rfl) ?_
 obtain ⟨x_2, e_x_2, hp⟩ := bind_inv hp
 refine SL.eff (e_c Try.call25 (ok_wirelessref34_Fields F s_1.Kind _ e_x_2) [] [vi .i64 s_1.Kind] (.g (C_wirelessref34_Uses x_2)) (by kernel_rfl) (.inl rfl)) rfl (by kernel_rfl) ?_
 refine SL.eff (e_alloc (E := 44) tk [cb false, cb false, cb false, cb false, cb false, cb false, cb false, cb false] (by kernel_rfl)) rfl (by kernel_rfl) ?_
 refine SL.norm (itsN := [.blk 26 (C_api_Signal s_1), .blk 44 [cb false, cb false, cb false, cb false, cb false, cb false, cb false, cb false]]) (by kernel_rfl) ?_
 refine SL.sim tk 1 [(1, vp 0 0), (3, vp 1 0)] [(1, 44, (C_wirelessref34_Uses x_2))] [] [] (by kernel_rfl) ?_
 refine SL.nilThen ?_
 refine SC.seq ?_
 refine SC.r tk [(1, vp 0 0), (3, vp 1 0), (9, vb (!x_2.Known))] [] [] [] (by kernel_rfl) ?_
 refine SC.if' rfl hp (fun hp => ?_) (fun hp => ?_)
 · refine SC.r tk [(2, vi .i64 12)] [] [] [] (by kernel_rfl) ?_
   obtain rfl := some_inv' hp
   exact SC.re (js := []) tk (by kernel_rfl)
 · refine SC.skipThen ?_
   refine SC.seq ?_
   refine SC.r tk [(1, vp 0 0), (3, vp 1 0), (17, vb ((decide (s_1.ID < 1)) || (decide (s_1.ID > 255))))] [] [] [] (by kernel_rfl) ?_
   refine SC.if' rfl hp (fun hp => ?_) (fun hp => ?_)
   · refine SC.r tk [(2, vi .i64 5)] [] [] [] (by kernel_rfl) ?_
     obtain rfl := some_inv' hp
     exact SC.re (js := []) tk (by kernel_rfl)
   · refine SC.skipThen ?_
     refine SC.seq ?_
     refine SC.seq ?_
     refine SC.reg ?_
     refine SL.sim tk 1 [(1, vp 0 0), (3, vp 1 0), (18, .g (C_api_Signal s_1))] [] [] [] (by kernel_rfl) ?_
     obtain ⟨x_3, e_x_3, hp⟩ := bind_inv hp
     refine SL.eff (e_c Try.call26 (ok_wirelessref34_unused F s_1 _ e_x_3) [] [.g (C_api_Signal s_1)] (vb x_3) (by kernel_rfl) (.inl rfl)) rfl (by kernel_rfl) ?_
     refine SL.sim tk 1 [(1, vp 0 0), (3, vp 1 0), (20, vb (!x_3))] [] [] [] (by kernel_rfl) ?_
     refine SL.nilThen ?_
     refine SC.if' rfl hp (fun hp => ?_) (fun hp => ?_)
     · refine SC.r tk [(2, vi .i64 1)] [] [] [] (by kernel_rfl) ?_
       obtain rfl := some_inv' hp
       exact SC.re (js := []) tk (by kernel_rfl)
     · refine SC.skipThen ?_
       refine SC.seq ?_
       refine SC.seq ?_
       refine SC.reg ?_
       refine SL.sim tk 3 [(1, vp 0 0), (3, vp 1 0), (23, vb x_2.Result)] [] [] [] (by kernel_rfl) ?_
       obtain ⟨z_5, hz, hpr⟩ := bind_inv hp
       clear hp
       refine SL.cutAt 7 (fun a w => A 72 0 fx [(1, vp 0 0), (3, vp 1 0), (30, vb z_5)] [.blk 26 (C_api_Signal s_1), .blk 44 (C_wirelessref34_Uses x_2)] a w) ?_ ?_
       · have hp := hz
         rcases Bool.eq_false_or_eq_true (x_2.Result) with hg_4 | hg_4
         · replace hp := if_t hp hg_4
           refine SL.yes rfl rfl hg_4 ?_
           refine SL.sim tk 1 [(1, vp 0 0), (3, vp 1 0), (23, vb x_2.Result), (24, vp 0 0)] [] [] [] (by kernel_rfl) ?_
           refine SL.yes rfl rfl hg_4 ?_
           refine SL.sim tk 1 [(1, vp 0 0), (3, vp 1 0), (23, vb x_2.Result), (25, vi .i64 s_1.Kind)] [] [] [] (by kernel_rfl) ?_
           refine SL.yes rfl rfl hg_4 ?_
           refine SL.sim tk 1 [(1, vp 0 0), (3, vp 1 0), (23, vb x_2.Result), (25, vi .i64 s_1.Kind), (26, vp 0 8)] [] [] [] (by kernel_rfl) ?_
           refine SL.yes rfl rfl hg_4 ?_
           refine SL.sim tk 1 [(1, vp 0 0), (3, vp 1 0), (23, vb x_2.Result), (25, vi .i64 s_1.Kind), (27, vi .i64 s_1.Result)] [] [] [] (by kernel_rfl) ?_
           refine SL.yes rfl rfl hg_4 ?_
           obtain ⟨x_9, e_x_9, hp⟩ := bind_inv hp
           refine SL.eff (e_c Try.call27 (ok_wirelessref34_isResult F s_1.Kind s_1.Result _ e_x_9) [] [vi .i64 s_1.Kind, vi .i64 s_1.Result] (vb x_9) (by kernel_rfl) (.inl rfl)) rfl (by kernel_rfl) ?_
           refine SL.norm (itsN := [.blk 26 (C_api_Signal s_1), .blk 44 (C_wirelessref34_Uses x_2)]) (by kernel_rfl) ?_
           refine SL.yes rfl rfl hg_4 ?_
           refine SL.sim tk 1 [(1, vp 0 0), (3, vp 1 0), (23, vb x_2.Result), (29, vb (!x_9))] [] [] [] (by kernel_rfl) ?_
           refine SL.pickt rfl hg_4 rfl rfl ?_
           refine SL.nilJ fun a w h => ?_
           obtain rfl := some_inv' hp
           exact h.at (js := [.g 0, .g 1]) (by kernel_rfl)
         · replace hp := if_f hp hg_4
           refine SL.no rfl rfl hg_4 rfl ?_
           refine SL.no rfl rfl hg_4 rfl ?_
           refine SL.no rfl rfl hg_4 rfl ?_
           refine SL.no rfl rfl hg_4 rfl ?_
           refine SL.no rfl rfl hg_4 rfl ?_
           refine SL.no rfl rfl hg_4 rfl ?_
           refine SL.pickf rfl hg_4 rfl rfl ?_
           refine SL.nilJ fun a w h => ?_
           obtain rfl := some_inv' hp
           exact h.at (js := [.g 0, .g 1]) (by kernel_rfl)
       · intro a w h
         have hp := hpr; clear hpr hz
         refine h.goL ?_
         refine SL.nilThen ?_
         refine SC.if' rfl hp (fun hp => ?_) (fun hp => ?_)
         · refine SC.r tk [(2, vi .i64 5)] [] [] [] (by kernel_rfl) ?_
           obtain rfl := some_inv' hp
           exact SC.re (js := []) tk (by kernel_rfl)
         · refine SC.skipThen ?_
           refine SC.seq ?_
           refine SC.r tk [(1, vp 0 0), (3, vp 1 0), (38, vb ((s_1.Kind == 21) && (s_1.Result != 0)))] [] [] [] (by kernel_rfl) ?_
           refine SC.if' rfl hp (fun hp => ?_) (fun hp => ?_)
           · refine SC.seq ?_
             refine SC.r tk [(56, vb ((((s_1.Source != 0) || (s_1.MTU != 0)) || (s_1.MPS != 0)) || (s_1.Credits != 0)))] [] [] [] (by kernel_rfl) ?_
             refine SC.if' rfl hp (fun hp => ?_) (fun hp => ?_)
             · refine SC.r tk [(2, vi .i64 1)] [] [] [] (by kernel_rfl) ?_
               obtain rfl := some_inv' hp
               exact SC.re (js := []) tk (by kernel_rfl)
             · refine SC.skipThen ?_
               refine SC.r tk [(2, vi .i64 0)] [] [] [] (by kernel_rfl) ?_
               obtain rfl := some_inv' hp
               exact SC.re (js := []) tk (by kernel_rfl)
           · refine SC.skipThen ?_
             refine SC.seq ?_
             refine SC.r tk [(1, vp 0 0), (3, vp 1 0), (63, vb (x_2.PSM && (s_1.PSM == 0)))] [] [] [] (by kernel_rfl) ?_
             refine SC.if' rfl hp (fun hp => ?_) (fun hp => ?_)
             · refine SC.r tk [(2, vi .i64 1)] [] [] [] (by kernel_rfl) ?_
               obtain rfl := some_inv' hp
               exact SC.re (js := []) tk (by kernel_rfl)
             · refine SC.skipThen ?_
               refine SC.seq ?_
               refine SC.seq ?_
               refine SC.reg ?_
               refine SL.sim tk 1 [(1, vp 0 0), (3, vp 1 0), (64, .g (C_api_Signal s_1))] [] [] [] (by kernel_rfl) ?_
               obtain ⟨x_6, e_x_6, hp⟩ := bind_inv hp
               refine SL.eff (e_c Try.call28 (ok_wirelessref34_inRange F s_1 _ e_x_6) [] [.g (C_api_Signal s_1)] (vb x_6) (by kernel_rfl) (.inl rfl)) rfl (by kernel_rfl) ?_
               refine SL.sim tk 1 [(1, vp 0 0), (3, vp 1 0), (66, vb (!x_6))] [] [] [] (by kernel_rfl) ?_
               refine SL.nilThen ?_
               refine SC.if' rfl hp (fun hp => ?_) (fun hp => ?_)
               · refine SC.r tk [(2, vi .i64 5)] [] [] [] (by kernel_rfl) ?_
                 obtain rfl := some_inv' hp
                 exact SC.re (js := []) tk (by kernel_rfl)
               · refine SC.skipThen ?_
                 refine SC.seq ?_
                 refine SC.r tk [(1, vp 0 0), (68, vb x_2.Update)] [] [] [] (by kernel_rfl) ?_
                 refine SC.if' rfl hp (fun hp => ?_) (fun hp => ?_)
                 · refine SC.seq ?_
                   refine SC.reg ?_
                   refine SL.sim tk 2 [(70, .g (C_api_Update s_1.Update))] [] [] [] (by kernel_rfl) ?_
                   obtain ⟨x_7, e_x_7, hp⟩ := bind_inv hp
                   refine SL.eff (e_c Try.call29 (ok_wirelessref17_CheckUpdate F s_1.Update _ e_x_7) [] [.g (C_api_Update s_1.Update)] (vi .i64 x_7) (by kernel_rfl) (.inl rfl)) rfl (by kernel_rfl) ?_
                   refine SL.norm (itsN := [.blk 26 (C_api_Signal s_1), .blk 44 (C_wirelessref34_Uses x_2)]) (by kernel_rfl) ?_
                   refine SL.sim tk 1 [(2, vi .i64 x_7)] [] [] [] (by kernel_rfl) ?_
                   refine SL.nilThen ?_
                   obtain rfl := some_inv' hp
                   exact SC.re (js := []) tk (by kernel_rfl)
                 · refine SC.skipThen ?_
                   refine SC.r tk [(2, vi .i64 0)] [] [] [] (by kernel_rfl) ?_
                   obtain rfl := some_inv' hp
                   exact SC.re (js := []) tk (by kernel_rfl)

theorem ok_signal_sizes (F : Nat) (kind_1 : Int) (r : (List Int)) (hp : signal_sizes F kind_1 = some r) : Spec Try.prog 30 [vi .i64 kind_1] [] (vs 0) [.rd 1 (RInt .i64) r] := by
 refine Spec.enter Try.func30 rfl Try.ntmps30 rfl rfl fun fx => ?_
 refine SC.r tk [(0, vi .i64 kind_1)] [] [] [] (by kernel_rfl) ?_
 refine SC.seq ?_
 refine SC.r tk [(3, vi .i64 kind_1)] [] [] [] (by kernel_rfl) ?_
 refine SC.block ?_
 refine SC.cut (fun a w => ∃ (z_2 : Bool), signal_sizes_j1 F kind_1 z_2 = some r ∧ A 17 0 fx [(3, vi .i64 kind_1), (4, vb z_2)] [] a w) ?_ ?_
 · refine SC.r tk [(3, vi .i64 kind_1), (4, vb (kind_1 == 1))] [] [] [] (by kernel_rfl) ?_
   refine SC.if' rfl hp (fun hp => ?_) (fun hp => ?_)
   · refine SC.skipJ fun a w h => ?_
     exact ⟨(kind_1 == 1), hp, h.at (js := []) (by kernel_rfl)⟩
   · refine SC.reg ?_
     refine SL.sim tk 2 [(3, vi .i64 kind_1), (4, vb (kind_1 == 19))] [] [] [] (by kernel_rfl) ?_
     refine SL.nilJ fun a w h => ?_
     exact ⟨(kind_1 == 19), hp, h.at (js := []) (by kernel_rfl)⟩
 · rintro a w ⟨z_2, hp, h⟩
   refine h.go ?_
   refine SC.if' rfl hp (fun hp => ?_) (fun hp => ?_)
   · refine SC.seq ?_
     refine SC.reg ?_
     refine SL.eff (e_lit (sz := 1) (E := 3) (R := (RInt .i64)) (by_ := 8) tk [[ci .i64 2]] [2] (by kernel_rfl) ⟨Clo.int, trivial⟩ rfl (by kernel_rfl) (by kernel_rfl)) rfl (by kernel_rfl) ?_
     refine SL.sim tk 1 [(2, vs 0)] [] [] [] (by kernel_rfl) ?_
     refine SL.nilThen ?_
     obtain rfl := some_inv' hp
     exact SC.re (js := [.z 0]) tk (by kernel_rfl)
   · refine SC.cut (fun a w => ∃ (z_3 : Bool), signal_sizes_j2 F kind_1 z_3 = some r ∧ A 17 0 fx [(3, vi .i64 kind_1), (8, vb z_3)] [] a w) ?_ ?_
     · refine SC.r tk [(3, vi .i64 kind_1), (8, vb (kind_1 == 6))] [] [] [] (by kernel_rfl) ?_
       refine SC.if' rfl hp (fun hp => ?_) (fun hp => ?_)
       · refine SC.skipJ fun a w h => ?_
         exact ⟨(kind_1 == 6), hp, h.at (js := []) (by kernel_rfl)⟩
       · refine SC.r tk [(3, vi .i64 kind_1), (8, vb (kind_1 == 7))] [] [] [] (by kernel_rfl) ?_
         refine SC.if' rfl hp (fun hp => ?_) (fun hp => ?_)
         · refine SC.skipJ fun a w h => ?_
           exact ⟨(kind_1 == 7), hp, h.at (js := []) (by kernel_rfl)⟩
         · refine SC.reg ?_
           refine SL.sim tk 2 [(3, vi .i64 kind_1), (8, vb (kind_1 == 22))] [] [] [] (by kernel_rfl) ?_
           refine SL.nilJ fun a w h => ?_
           exact ⟨(kind_1 == 22), hp, h.at (js := []) (by kernel_rfl)⟩
     · rintro a w ⟨z_3, hp, h⟩
       refine h.go ?_
       refine SC.if' rfl hp (fun hp => ?_) (fun hp => ?_)
       · refine SC.seq ?_
         refine SC.reg ?_
         refine SL.eff (e_lit (sz := 1) (E := 3) (R := (RInt .i64)) (by_ := 8) tk [[ci .i64 2], [ci .i64 2]] [2, 2] (by kernel_rfl) ⟨Clo.int, ⟨Clo.int, trivial⟩⟩ rfl (by kernel_rfl) (by kernel_rfl)) rfl (by kernel_rfl) ?_
         refine SL.sim tk 1 [(2, vs 0)] [] [] [] (by kernel_rfl) ?_
         refine SL.nilThen ?_
         obtain rfl := some_inv' hp
         exact SC.re (js := [.z 0]) tk (by kernel_rfl)
       · refine SC.r tk [(13, vb (kind_1 == 18))] [] [] [] (by kernel_rfl) ?_
         refine SC.if' rfl hp (fun hp => ?_) (fun hp => ?_)
         · refine SC.seq ?_
           refine SC.reg ?_
           refine SL.eff (e_lit (sz := 1) (E := 3) (R := (RInt .i64)) (by_ := 8) tk [[ci .i64 1], [ci .i64 2], [ci .i64 2], [ci .i64 2], [ci .i64 2]] [1, 2, 2, 2, 2] (by kernel_rfl) ⟨Clo.int, ⟨Clo.int, ⟨Clo.int, ⟨Clo.int, ⟨Clo.int, trivial⟩⟩⟩⟩⟩ rfl (by kernel_rfl) (by kernel_rfl)) rfl (by kernel_rfl) ?_
           refine SL.sim tk 1 [(2, vs 0)] [] [] [] (by kernel_rfl) ?_
           refine SL.nilThen ?_
           obtain rfl := some_inv' hp
           exact SC.re (js := [.z 0]) tk (by kernel_rfl)
         · refine SC.skipThen ?_
           refine SC.seq ?_
           refine SC.reg ?_
           refine SL.eff (e_lit (sz := 1) (E := 3) (R := (RInt .i64)) (by_ := 8) tk [[ci .i64 2], [ci .i64 2], [ci .i64 2], [ci .i64 2], [ci .i64 2]] [2, 2, 2, 2, 2] (by kernel_rfl) ⟨Clo.int, ⟨Clo.int, ⟨Clo.int, ⟨Clo.int, ⟨Clo.int, trivial⟩⟩⟩⟩⟩ rfl (by kernel_rfl) (by kernel_rfl)) rfl (by kernel_rfl) ?_
           refine SL.sim tk 1 [(2, vs 0)] [] [] [] (by kernel_rfl) ?_
           refine SL.nilThen ?_
           obtain rfl := some_inv' hp
           exact SC.re (js := [.z 0]) tk (by kernel_rfl)

theorem ok_signal_numbers (F : Nat) (s_1 : T_api_Signal) (r : (List Int)) (hp : signal_numbers F s_1 = some r) : Spec Try.prog 31 [.g (C_api_Signal s_1)] [] (vs 0) [.rd 1 (RInt .i64) r] := by
 refine Spec.enter Try.func31 rfl Try.ntmps31 rfl rfl fun fx => ?_
 refine SC.seq ?_
 refine SC.reg ?_
 refine SL.eff (e_box (E := 26) (C_api_Signal s_1) (by kernel_rfl)) rfl (by kernel_rfl) ?_
 refine SL.sim tk 1 [(1, vp 0 0)] [] [] [] (by kernel_rfl) ?_
 refine SL.nilThen ?_
 refine SC.seq ?_
 refine SC.reg ?_
 refine SL.sim tk 2 [(1, vp 0 0), (5, .g (C_api_Update s_1.Update))] [] [] [] (by kernel_rfl) ?_
 refine SL.eff (e_alloc (E := 24) tk (C_api_Update (T_api_Update.mk 0 0 0 0 0)) (by kernel_rfl)) rfl (by kernel_rfl) ?_
 refine SL.sim tk 1 [(1, vp 0 0), (3, vp 1 0)] [(1, 24, (C_api_Update s_1.Update))] [] [] (by kernel_rfl) ?_
 refine SL.nilThen ?_
 refine SC.seq ?_
 refine SC.r tk [(1, vp 0 0), (3, vp 1 0), (7, vi .i64 s_1.Kind)] [] [] [] (by kernel_rfl) ?_
 refine SC.block ?_
 refine SC.cut (fun a w => ∃ (z_2 : Bool), signal_numbers_j1 F s_1 z_2 = some r ∧ A 72 0 fx [(1, vp 0 0), (3, vp 1 0), (7, vi .i64 s_1.Kind), (8, vb z_2)] [.blk 26 (C_api_Signal s_1), .blk 24 (C_api_Update s_1.Update)] a w) ?_ ?_
 · refine SC.r tk [(1, vp 0 0), (3, vp 1 0), (7, vi .i64 s_1.Kind), (8, vb (s_1.Kind == 1))] [] [] [] (by kernel_rfl) ?_
   refine SC.if' rfl hp (fun hp => ?_) (fun hp => ?_)
   · refine SC.skipJ fun a w h => ?_
     exact ⟨(s_1.Kind == 1), hp, h.at (js := [.g 0, .g 1]) (by kernel_rfl)⟩
   · refine SC.reg ?_
     refine SL.sim tk 2 [(1, vp 0 0), (3, vp 1 0), (7, vi .i64 s_1.Kind), (8, vb (s_1.Kind == 19))] [] [] [] (by kernel_rfl) ?_
     refine SL.nilJ fun a w h => ?_
     exact ⟨(s_1.Kind == 19), hp, h.at (js := [.g 0, .g 1]) (by kernel_rfl)⟩
 · rintro a w ⟨z_2, hp, h⟩
   refine h.go ?_
   refine SC.if' rfl hp (fun hp => ?_) (fun hp => ?_)
   · refine SC.seq ?_
     refine SC.reg ?_
     refine SL.sim tk 2 [(12, vi .i64 s_1.Result)] [] [] [] (by kernel_rfl) ?_
     refine SL.eff (e_lit (sz := 1) (E := 3) (R := (RInt .i64)) (by_ := 8) tk [[ci .i64 s_1.Result]] [s_1.Result] (by kernel_rfl) ⟨Clo.int, trivial⟩ rfl (by kernel_rfl) (by kernel_rfl)) rfl (by kernel_rfl) ?_
     refine SL.sim tk 1 [(2, vs 2)] [] [] [] (by kernel_rfl) ?_
     refine SL.nilThen ?_
     obtain rfl := some_inv' hp
     exact SC.re (js := [.z 2]) tk (by kernel_rfl)
   · refine SC.cut (fun a w => ∃ (z_3 : Bool), signal_numbers_j2 F s_1 z_3 = some r ∧ A 72 0 fx [(1, vp 0 0), (3, vp 1 0), (7, vi .i64 s_1.Kind), (14, vb z_3)] [.blk 26 (C_api_Signal s_1), .blk 24 (C_api_Update s_1.Update)] a w) ?_ ?_
     · refine SC.r tk [(1, vp 0 0), (3, vp 1 0), (7, vi .i64 s_1.Kind), (14, vb (s_1.Kind == 6))] [] [] [] (by kernel_rfl) ?_
       refine SC.if' rfl hp (fun hp => ?_) (fun hp => ?_)
       · refine SC.skipJ fun a w h => ?_
         exact ⟨(s_1.Kind == 6), hp, h.at (js := [.g 0, .g 1]) (by kernel_rfl)⟩
       · refine SC.reg ?_
         refine SL.sim tk 2 [(1, vp 0 0), (3, vp 1 0), (7, vi .i64 s_1.Kind), (14, vb (s_1.Kind == 7))] [] [] [] (by kernel_rfl) ?_
         refine SL.nilJ fun a w h => ?_
         exact ⟨(s_1.Kind == 7), hp, h.at (js := [.g 0, .g 1]) (by kernel_rfl)⟩
     · rintro a w ⟨z_3, hp, h⟩
       refine h.go ?_
       refine SC.if' rfl hp (fun hp => ?_) (fun hp => ?_)
       · refine SC.seq ?_
         refine SC.reg ?_
         refine SL.sim tk 6 [(19, vi .i64 (w64 s_1.Source)), (22, vi .i64 (w64 s_1.Dest))] [] [] [] (by kernel_rfl) ?_
         refine SL.eff (e_lit (sz := 1) (E := 3) (R := (RInt .i64)) (by_ := 8) tk [[ci .i64 (w64 s_1.Source)], [ci .i64 (w64 s_1.Dest)]] [w64 s_1.Source, w64 s_1.Dest] (by kernel_rfl) ⟨Clo.int, ⟨Clo.int, trivial⟩⟩ rfl (by kernel_rfl) (by kernel_rfl)) rfl (by kernel_rfl) ?_
         refine SL.sim tk 1 [(2, vs 2)] [] [] [] (by kernel_rfl) ?_
         refine SL.nilThen ?_
         obtain rfl := some_inv' hp
         exact SC.re (js := [.z 2]) tk (by kernel_rfl)
       · refine SC.r tk [(1, vp 0 0), (3, vp 1 0), (7, vi .i64 s_1.Kind), (24, vb (s_1.Kind == 18))] [] [] [] (by kernel_rfl) ?_
         refine SC.if' rfl hp (fun hp => ?_) (fun hp => ?_)
         · refine SC.seq ?_
           refine SC.reg ?_
           refine SL.sim tk 10 [(27, vi .i64 s_1.Update.WinSize), (29, vi .i64 s_1.Update.WinOffset), (31, vi .i64 s_1.Update.Interval), (33, vi .i64 s_1.Update.Latency), (35, vi .i64 s_1.Update.Timeout)] [] [] [] (by kernel_rfl) ?_
           refine SL.eff (e_lit (sz := 1) (E := 3) (R := (RInt .i64)) (by_ := 8) tk [[ci .i64 s_1.Update.WinSize], [ci .i64 s_1.Update.WinOffset], [ci .i64 s_1.Update.Interval], [ci .i64 s_1.Update.Latency], [ci .i64 s_1.Update.Timeout]] [s_1.Update.WinSize, s_1.Update.WinOffset, s_1.Update.Interval, s_1.Update.Latency, s_1.Update.Timeout] (by kernel_rfl) ⟨Clo.int, ⟨Clo.int, ⟨Clo.int, ⟨Clo.int, ⟨Clo.int, trivial⟩⟩⟩⟩⟩ rfl (by kernel_rfl) (by kernel_rfl)) rfl (by kernel_rfl) ?_
           refine SL.sim tk 1 [(2, vs 2)] [] [] [] (by kernel_rfl) ?_
           refine SL.nilThen ?_
           obtain rfl := some_inv' hp
           exact SC.re (js := [.z 2]) tk (by kernel_rfl)
         · refine SC.r tk [(1, vp 0 0), (7, vi .i64 s_1.Kind), (37, vb (s_1.Kind == 20))] [] [] [] (by kernel_rfl) ?_
           refine SC.if' rfl hp (fun hp => ?_) (fun hp => ?_)
           · refine SC.seq ?_
             refine SC.reg ?_
             refine SL.sim tk 12 [(41, vi .i64 (w64 s_1.PSM)), (44, vi .i64 (w64 s_1.Source)), (46, vi .i64 s_1.MTU), (48, vi .i64 s_1.MPS), (50, vi .i64 s_1.Credits)] [] [] [] (by kernel_rfl) ?_
             refine SL.eff (e_lit (sz := 1) (E := 3) (R := (RInt .i64)) (by_ := 8) tk [[ci .i64 (w64 s_1.PSM)], [ci .i64 (w64 s_1.Source)], [ci .i64 s_1.MTU], [ci .i64 s_1.MPS], [ci .i64 s_1.Credits]] [w64 s_1.PSM, w64 s_1.Source, s_1.MTU, s_1.MPS, s_1.Credits] (by kernel_rfl) ⟨Clo.int, ⟨Clo.int, ⟨Clo.int, ⟨Clo.int, ⟨Clo.int, trivial⟩⟩⟩⟩⟩ rfl (by kernel_rfl) (by kernel_rfl)) rfl (by kernel_rfl) ?_
             refine SL.sim tk 1 [(2, vs 2)] [] [] [] (by kernel_rfl) ?_
             refine SL.nilThen ?_
             obtain rfl := some_inv' hp
             exact SC.re (js := [.z 2]) tk (by kernel_rfl)
           · refine SC.r tk [(1, vp 0 0), (52, vb (s_1.Kind == 21))] [] [] [] (by kernel_rfl) ?_
             refine SC.if' rfl hp (fun hp => ?_) (fun hp => ?_)
             · refine SC.seq ?_
               refine SC.reg ?_
               refine SL.sim tk 11 [(56, vi .i64 (w64 s_1.Source)), (58, vi .i64 s_1.MTU), (60, vi .i64 s_1.MPS), (62, vi .i64 s_1.Credits), (64, vi .i64 s_1.Result)] [] [] [] (by kernel_rfl) ?_
               refine SL.eff (e_lit (sz := 1) (E := 3) (R := (RInt .i64)) (by_ := 8) tk [[ci .i64 (w64 s_1.Source)], [ci .i64 s_1.MTU], [ci .i64 s_1.MPS], [ci .i64 s_1.Credits], [ci .i64 s_1.Result]] [w64 s_1.Source, s_1.MTU, s_1.MPS, s_1.Credits, s_1.Result] (by kernel_rfl) ⟨Clo.int, ⟨Clo.int, ⟨Clo.int, ⟨Clo.int, ⟨Clo.int, trivial⟩⟩⟩⟩⟩ rfl (by kernel_rfl) (by kernel_rfl)) rfl (by kernel_rfl) ?_
               refine SL.sim tk 1 [(2, vs 2)] [] [] [] (by kernel_rfl) ?_
               refine SL.nilThen ?_
               obtain rfl := some_inv' hp
               exact SC.re (js := [.z 2]) tk (by kernel_rfl)
             · refine SC.skipThen ?_
               refine SC.seq ?_
               refine SC.reg ?_
               refine SL.sim tk 5 [(68, vi .i64 (w64 s_1.Source)), (70, vi .i64 s_1.Credits)] [] [] [] (by kernel_rfl) ?_
               refine SL.eff (e_lit (sz := 1) (E := 3) (R := (RInt .i64)) (by_ := 8) tk [[ci .i64 (w64 s_1.Source)], [ci .i64 s_1.Credits]] [w64 s_1.Source, s_1.Credits] (by kernel_rfl) ⟨Clo.int, ⟨Clo.int, trivial⟩⟩ rfl (by kernel_rfl) (by kernel_rfl)) rfl (by kernel_rfl) ?_
               refine SL.sim tk 1 [(2, vs 2)] [] [] [] (by kernel_rfl) ?_
               refine SL.nilThen ?_
               obtain rfl := some_inv' hp
               exact SC.re (js := [.z 2]) tk (by kernel_rfl)

theorem ok_octets_sized (F : Nat) (n_1 : Int) (r : Bool) (hp : octets_sized F n_1 = some r) : Spec Try.prog 45 [vi .i64 n_1] [] (vb r) [] := by
 refine Spec.enter Try.func45 rfl Try.ntmps45 rfl rfl fun fx => ?_
 refine SC.r tk [(0, vi .i64 n_1)] [] [] [] (by kernel_rfl) ?_
 refine SC.r tk [(2, vb ((decide (n_1 ≥ 1)) && (decide (n_1 ≤ 8))))] [] [] [] (by kernel_rfl) ?_
 obtain rfl := some_inv' hp
 exact SC.re (js := []) tk (by kernel_rfl)

theorem ok_octets_Put (F : Nat) (fields_1 : (List T_api_Field)) (r : (List Int) × Int) (hp : octets_Put F fields_1 = some r) : Spec Try.prog 32 [vs 0] [.rd 2 R_T_api_Field fields_1] (.u [.inl (.s 1), .inl (ci .i64 r.2)]) [.gone, .rd 1 R8 r.1] := by
 refine Spec.enter Try.func32 rfl Try.ntmps32 rfl rfl fun fx => ?_
 refine SC.r tk [(0, vs 0)] [] [] [] (by kernel_rfl) ?_
 refine SC.r tk [(0, vs 0), (4, vn)] [] [] [] (by kernel_rfl) ?_
 refine SC.cut (fun a w => ∃ (l_2 : (List Int)), octets_Put_j1 F l_2 = some r ∧ A 49 1 fx [(4, vs 1)] [.gone, .own 1 5 R8 l_2] a w) ?_ ?_
 · refine SC.r tk [(4, vn), (8, vs 0), (9, vi .i64 (len fields_1)), (10, vi .i64 0)] [] [] [] (by kernel_rfl) ?_
   refine SC.block ?_
   obtain ⟨o1, hi1, ho1⟩ := bind_inv hp
   clear hp
   refine SC.loop (fun n a w => ∃ (l_3 : (List Int)) (x_4 : Int), iter (fun s => octets_Put_l1 F fields_1 s.1 s.2) n (l_3, x_4) = some o1 ∧ A 49 1 fx [(4, vs 1), (8, vs 0), (9, vi .i64 (len fields_1)), (10, vi .i64 x_4)] [.rd 2 R_T_api_Field fields_1, .own 1 5 R8 l_3] a w) F (fun a w h => ⟨[], 0, hi1, h.at (js := [.g 0, .n]) (by kernel_rfl)⟩) ?_
   rintro n1 a w ⟨l_3, x_4, hi1, h⟩
   obtain ⟨n1, q1, rfl, hp, hs1⟩ := iter_inv hi1
   replace hp : octets_Put_l1 F fields_1 l_3 x_4 = some q1 := hp
   clear hi1
   refine h.go ?_
   refine SC.r tk [(4, vs 1), (8, vs 0), (9, vi .i64 (len fields_1)), (10, vi .i64 x_4), (11, vb (decide (x_4 < (len fields_1))))] [] [] [] (by kernel_rfl) ?_
   refine SC.seq ?_
   refine SC.if' rfl hp (fun hp => ?_) (fun hp => ?_)
   · refine SC.skipThen ?_
     refine SC.cut (fun a w => ∃ (l_5 : (List Int)), octets_Put_j2 F x_4 l_5 = some q1 ∧ A 49 1 fx [(4, vs 1), (8, vs 0), (9, vi .i64 (len fields_1)), (10, vi .i64 x_4)] [.rd 2 R_T_api_Field fields_1, .own 1 5 R8 l_5] a w) ?_ ?_
     · refine SC.block ?_
       refine SC.seq ?_
       refine SC.reg ?_
       obtain ⟨x_6, e_x_6, hp⟩ := bind_inv hp
       refine SL.pre (pre_ix (i := 0) (iv := x_4) (sz := 2) (R := R_T_api_Field) (l := fields_1) (by kernel_rfl) rfl e_x_6) ?_
       refine SL.sim tk 2 [(4, vs 1), (8, vs 0), (9, vi .i64 (len fields_1)), (10, vi .i64 x_4), (13, .g (C_api_Field x_6))] [] [.el 2] [x_4] (by kernel_rfl) ?_
       refine SL.eff (e_alloc (E := 53) tk [ci .i64 0, ci .u64 0] (by kernel_rfl)) rfl (by kernel_rfl) ?_
       refine SL.sim tk 1 [(4, vs 1), (6, vp 3 0), (8, vs 0), (9, vi .i64 (len fields_1)), (10, vi .i64 x_4)] [(3, 53, (C_api_Field x_6))] [] [] (by kernel_rfl) ?_
       refine SL.nilThen ?_
       refine SC.seq ?_
       refine SC.seq ?_
       refine SC.reg ?_
       refine SL.sim tk 2 [(4, vs 1), (6, vp 3 0), (8, vs 0), (9, vi .i64 (len fields_1)), (10, vi .i64 x_4), (15, vi .i64 x_6.Size)] [] [] [] (by kernel_rfl) ?_
       obtain ⟨x_7, e_x_7, hp⟩ := bind_inv hp
       refine SL.eff (e_c Try.call45 (ok_octets_sized F x_6.Size _ e_x_7) [] [vi .i64 x_6.Size] (vb x_7) (by kernel_rfl) (.inl rfl)) rfl (by kernel_rfl) ?_
       refine SL.norm (itsN := [.rd 2 R_T_api_Field fields_1, .own 1 5 R8 l_3, .elt (some (0, x_4)) false (C_api_Field x_6), .blk 53 (C_api_Field x_6)]) (by kernel_rfl) ?_
       refine SL.sim tk 2 [(4, vs 1), (6, vp 3 0), (8, vs 0), (9, vi .i64 (len fields_1)), (10, vi .i64 x_4), (18, vb (!x_7))] [] [] [] (by kernel_rfl) ?_
       obtain ⟨z_9, hz, hpr⟩ := bind_inv hp
       clear hp
       refine SL.cutAt 13 (fun a w => A 49 1 fx [(4, vs 1), (6, vp 2 0), (8, vs 0), (9, vi .i64 (len fields_1)), (10, vi .i64 x_4), (31, vb z_9)] [.rd 2 R_T_api_Field fields_1, .own 1 5 R8 l_3, .blk 53 (C_api_Field x_6)] a w) ?_ ?_
       · have hp := hz
         rcases Bool.eq_false_or_eq_true ((!x_7)) with hg_8 | hg_8
         · replace hp := if_t hp hg_8
           refine SL.no rfl rfl hg_8 rfl ?_
           refine SL.no rfl rfl hg_8 rfl ?_
           refine SL.no rfl rfl hg_8 rfl ?_
           refine SL.no rfl rfl hg_8 rfl ?_
           refine SL.noU rfl rfl rfl ?_
           refine SL.noU rfl rfl rfl ?_
           refine SL.noU rfl rfl rfl ?_
           refine SL.noU rfl rfl rfl ?_
           refine SL.noU rfl rfl rfl ?_
           refine SL.noU rfl rfl rfl ?_
           refine SL.noU rfl rfl rfl ?_
           refine SL.no rfl rfl hg_8 rfl ?_
           refine SL.pickt rfl hg_8 rfl rfl ?_
           refine SL.nilJ fun a w h => ?_
           obtain rfl := some_inv' hp
           exact h.at (js := [.g 0, .g 1, .g 3]) (by kernel_rfl)
         · replace hp := if_f hp hg_8
           refine SL.yes rfl rfl hg_8 ?_
           refine SL.sim tk 1 [(4, vs 1), (6, vp 3 0), (8, vs 0), (9, vi .i64 (len fields_1)), (10, vi .i64 x_4), (18, vb (!x_7)), (19, vp 3 0)] [] [] [] (by kernel_rfl) ?_
           refine SL.yes rfl rfl hg_8 ?_
           refine SL.sim tk 1 [(4, vs 1), (6, vp 3 0), (8, vs 0), (9, vi .i64 (len fields_1)), (10, vi .i64 x_4), (18, vb (!x_7)), (19, vp 3 0), (20, vi .i64 x_6.Size)] [] [] [] (by kernel_rfl) ?_
           refine SL.yes rfl rfl hg_8 ?_
           refine SL.sim tk 1 [(4, vs 1), (6, vp 3 0), (8, vs 0), (9, vi .i64 (len fields_1)), (10, vi .i64 x_4), (18, vb (!x_7)), (19, vp 3 0), (20, vi .i64 x_6.Size), (21, vb (decide (x_6.Size < 8)))] [] [] [] (by kernel_rfl) ?_
           refine SL.yes rfl rfl hg_8 ?_
           refine SL.sim tk 1 [(4, vs 1), (6, vp 3 0), (8, vs 0), (9, vi .i64 (len fields_1)), (10, vi .i64 x_4), (18, vb (!x_7)), (19, vp 3 0), (20, vi .i64 x_6.Size), (21, vb (decide (x_6.Size < 8))), (22, vb (decide (x_6.Size < 8)))] [] [] [] (by kernel_rfl) ?_
           rcases Bool.eq_false_or_eq_true (decide (x_6.Size < 8)) with hg_15 | hg_15
           · replace hp := if_t hp hg_15
             refine SL.yes rfl rfl hg_15 ?_
             refine SL.sim tk 1 [(4, vs 1), (6, vp 3 0), (8, vs 0), (9, vi .i64 (len fields_1)), (10, vi .i64 x_4), (18, vb (!x_7)), (19, vp 3 0), (20, vi .i64 x_6.Size), (21, vb (decide (x_6.Size < 8))), (22, vb (decide (x_6.Size < 8))), (23, vp 3 1)] [] [] [] (by kernel_rfl) ?_
             refine SL.yes rfl rfl hg_15 ?_
             refine SL.sim tk 1 [(4, vs 1), (6, vp 3 0), (8, vs 0), (9, vi .i64 (len fields_1)), (10, vi .i64 x_4), (18, vb (!x_7)), (19, vp 3 0), (20, vi .i64 x_6.Size), (21, vb (decide (x_6.Size < 8))), (22, vb (decide (x_6.Size < 8))), (23, vp 3 1), (24, vi .u64 x_6.Value)] [] [] [] (by kernel_rfl) ?_
             refine SL.yes rfl rfl hg_15 ?_
             refine SL.sim tk 1 [(4, vs 1), (6, vp 3 0), (8, vs 0), (9, vi .i64 (len fields_1)), (10, vi .i64 x_4), (18, vb (!x_7)), (19, vp 3 0), (20, vi .i64 x_6.Size), (21, vb (decide (x_6.Size < 8))), (22, vb (decide (x_6.Size < 8))), (23, vp 3 1), (24, vi .u64 x_6.Value), (25, vp 3 0)] [] [] [] (by kernel_rfl) ?_
             refine SL.yes rfl rfl hg_15 ?_
             refine SL.sim tk 1 [(4, vs 1), (6, vp 3 0), (8, vs 0), (9, vi .i64 (len fields_1)), (10, vi .i64 x_4), (18, vb (!x_7)), (19, vp 3 0), (20, vi .i64 x_6.Size), (21, vb (decide (x_6.Size < 8))), (22, vb (decide (x_6.Size < 8))), (23, vp 3 1), (24, vi .u64 x_6.Value), (25, vp 3 0), (26, vi .i64 x_6.Size)] [] [] [] (by kernel_rfl) ?_
             refine SL.yes rfl rfl hg_15 ?_
             refine SL.sim tk 1 [(4, vs 1), (6, vp 3 0), (8, vs 0), (9, vi .i64 (len fields_1)), (10, vi .i64 x_4), (18, vb (!x_7)), (19, vp 3 0), (20, vi .i64 x_6.Size), (21, vb (decide (x_6.Size < 8))), (22, vb (decide (x_6.Size < 8))), (23, vp 3 1), (24, vi .u64 x_6.Value), (25, vp 3 0), (26, vi .i64 x_6.Size), (27, vi .i64 (w64 (8 * x_6.Size)))] [] [] [] (by kernel_rfl) ?_
             refine SL.yes rfl rfl hg_15 ?_
             obtain ⟨x_16, e_x_16, hp⟩ := bind_inv hp
             refine SL.sim tk 1 [(4, vs 1), (6, vp 3 0), (8, vs 0), (9, vi .i64 (len fields_1)), (10, vi .i64 x_4), (18, vb (!x_7)), (19, vp 3 0), (20, vi .i64 x_6.Size), (21, vb (decide (x_6.Size < 8))), (22, vb (decide (x_6.Size < 8))), (23, vp 3 1), (24, vi .u64 x_6.Value), (25, vp 3 0), (26, vi .i64 x_6.Size), (27, vi .i64 (w64 (8 * x_6.Size))), (28, vi .u64 x_16)] [] [.bin .shr .u64 x_6.Value (w64 (8 * x_6.Size)) x_16 e_x_16] [x_6.Value, w64 (8 * x_6.Size)] (by kernel_rfl) ?_
             refine SL.yes rfl rfl hg_15 ?_
             refine SL.sim tk 1 [(4, vs 1), (6, vp 3 0), (8, vs 0), (9, vi .i64 (len fields_1)), (10, vi .i64 x_4), (18, vb (!x_7)), (19, vp 3 0), (20, vi .i64 x_6.Size), (21, vb (decide (x_6.Size < 8))), (22, vb (decide (x_6.Size < 8))), (23, vp 3 1), (24, vi .u64 x_6.Value), (25, vp 3 0), (26, vi .i64 x_6.Size), (27, vi .i64 (w64 (8 * x_6.Size))), (28, vi .u64 x_16), (29, vb (x_16 != 0))] [] [] [] (by kernel_rfl) ?_
             refine SL.yes rfl rfl hg_8 ?_
             refine SL.pickt rfl hg_15 rfl rfl ?_
             refine SL.pickf rfl hg_8 rfl rfl ?_
             refine SL.nilJ fun a w h => ?_
             obtain rfl := some_inv' hp
             exact h.at (js := [.g 0, .g 1, .g 3]) (by kernel_rfl)
           · replace hp := if_f hp hg_15
             refine SL.no rfl rfl hg_15 rfl ?_
             refine SL.no rfl rfl hg_15 rfl ?_
             refine SL.no rfl rfl hg_15 rfl ?_
             refine SL.no rfl rfl hg_15 rfl ?_
             refine SL.no rfl rfl hg_15 rfl ?_
             refine SL.no rfl rfl hg_15 rfl ?_
             refine SL.no rfl rfl hg_15 rfl ?_
             refine SL.yes rfl rfl hg_8 ?_
             refine SL.pickf rfl hg_15 rfl rfl ?_
             refine SL.pickf rfl hg_8 rfl rfl ?_
             refine SL.nilJ fun a w h => ?_
             obtain rfl := some_inv' hp
             exact h.at (js := [.g 0, .g 1, .g 3]) (by kernel_rfl)
       · intro a w h
         have hp := hpr; clear hpr hz
         refine h.goL ?_
         refine SL.nilThen ?_
         refine SC.if' rfl hp (fun hp => ?_) (fun hp => ?_)
         · refine SC.r tk [(2, vn), (3, vi .i64 5)] [] [] [] (by kernel_rfl) ?_
           have ho := done_inv hp hs1
           replace hp := ho1
           try rw [ho] at hp
           obtain rfl := some_inv' hp
           exact SC.re (js := [.g 0, .n]) tk (by kernel_rfl)
         · refine SC.skipThen ?_
           refine SC.r tk [(4, vs 1), (6, vp 2 0), (8, vs 0), (9, vi .i64 (len fields_1)), (10, vi .i64 x_4), (33, vi .i64 x_6.Size), (34, vi .i64 0)] [] [] [] (by kernel_rfl) ?_
           refine SC.block ?_
           obtain ⟨o2, hi2, ho2⟩ := bind_inv hp
           clear hp
           refine SC.loop (fun n a w => ∃ (l_10 : (List Int)) (x_11 : Int), iter (fun s => octets_Put_l2 F x_6 s.1 s.2) n (l_10, x_11) = some o2 ∧ A 49 1 fx [(4, vs 1), (6, vp 2 0), (8, vs 0), (9, vi .i64 (len fields_1)), (10, vi .i64 x_4), (33, vi .i64 x_6.Size), (34, vi .i64 x_11)] [.rd 2 R_T_api_Field fields_1, .own 1 5 R8 l_10, .blk 53 (C_api_Field x_6)] a w) F (fun a w h => ⟨l_3, 0, hi2, h.at (js := [.g 0, .g 1, .g 2]) (by kernel_rfl)⟩) ?_
           rintro n2 a w ⟨l_10, x_11, hi2, h⟩
           obtain ⟨n2, q2, rfl, hp, hs2⟩ := iter_inv hi2
           replace hp : octets_Put_l2 F x_6 l_10 x_11 = some q2 := hp
           clear hi2
           refine h.go ?_
           refine SC.r tk [(4, vs 1), (6, vp 2 0), (8, vs 0), (9, vi .i64 (len fields_1)), (10, vi .i64 x_4), (33, vi .i64 x_6.Size), (34, vi .i64 x_11), (35, vb (decide (x_11 < x_6.Size)))] [] [] [] (by kernel_rfl) ?_
           refine SC.seq ?_
           refine SC.if' rfl hp (fun hp => ?_) (fun hp => ?_)
           · refine SC.skipThen ?_
             refine SC.seq ?_
             refine SC.block ?_
             refine SC.r tk [(4, vs 1), (6, vp 2 0), (7, vi .i64 x_11), (8, vs 0), (9, vi .i64 (len fields_1)), (10, vi .i64 x_4), (33, vi .i64 x_6.Size), (34, vi .i64 x_11)] [] [] [] (by kernel_rfl) ?_
             refine SC.reg ?_
             obtain ⟨x_12, e_x_12, hp⟩ := bind_inv hp
             refine SL.sim tk 7 [(4, vs 1), (6, vp 2 0), (8, vs 0), (9, vi .i64 (len fields_1)), (10, vi .i64 x_4), (33, vi .i64 x_6.Size), (34, vi .i64 x_11), (37, vs 1), (43, vi .u8 (wu8 x_12))] [] [.bin .shr .u64 x_6.Value (w64 (8 * x_11)) x_12 e_x_12] [x_6.Value, w64 (8 * x_11)] (by kernel_rfl) ?_
             refine SL.eff (e_lit (sz := 1) (E := 5) (R := R8) (by_ := 1) tk [[ci .u8 (wu8 x_12)]] [wu8 x_12] (by kernel_rfl) ⟨Clo.int, trivial⟩ rfl (by kernel_rfl) (by kernel_rfl)) rfl (by kernel_rfl) ?_
             obtain ⟨l_13, e_l_13, hp⟩ := bind_inv hp
             refine SL.eff (e_app (i := 1) (l := l_10) (sz := 1) (E := 5) (R := R8) (by_ := 1) (m := [wu8 x_12]) tk rfl (by kernel_rfl) rfl (.o 5 (by kernel_rfl)) e_l_13 (by kernel_rfl)) rfl (by kernel_rfl) ?_
             refine SL.sim tk 1 [(4, vs 4), (6, vp 2 0), (8, vs 0), (9, vi .i64 (len fields_1)), (10, vi .i64 x_4), (33, vi .i64 x_6.Size), (34, vi .i64 x_11)] [] [] [] (by kernel_rfl) ?_
             refine SL.nilThen ?_
             refine SC.reg ?_
             refine SL.sim tk 2 [(4, vs 4), (6, vp 2 0), (8, vs 0), (9, vi .i64 (len fields_1)), (10, vi .i64 x_4), (33, vi .i64 x_6.Size), (34, vi .i64 (w64 (x_11 + 1)))] [] [] [] (by kernel_rfl) ?_
             refine SL.nilJ fun a w h => ?_
             exact ⟨n2, Nat.lt_succ_self _, l_13, w64 (x_11 + 1), next_inv hp hs2, h.at (js := [.g 0, .g 4, .g 2]) (by kernel_rfl)⟩
           · refine SC.exitJ rfl fun a w h => ?_
             have ho := done_inv hp hs2
             replace hp := ho2
             try rw [ho] at hp
             exact ⟨l_10, hp, h.at (js := [.g 0, .g 1]) (by kernel_rfl)⟩
     · rintro a w ⟨l_5, hp, h⟩
       refine h.go ?_
       refine SC.reg ?_
       refine SL.sim tk 2 [(4, vs 1), (8, vs 0), (9, vi .i64 (len fields_1)), (10, vi .i64 (w64 (x_4 + 1)))] [] [] [] (by kernel_rfl) ?_
       refine SL.nilJ fun a w h => ?_
       exact ⟨n1, Nat.lt_succ_self _, l_5, w64 (x_4 + 1), next_inv hp hs1, h.at (js := [.g 0, .g 1]) (by kernel_rfl)⟩
   · refine SC.exitJ rfl fun a w h => ?_
     have ho := done_inv hp hs1
     replace hp := ho1
     try rw [ho] at hp
     exact ⟨l_3, hp, h.at (js := [.g 0, .g 1]) (by kernel_rfl)⟩
 · rintro a w ⟨l_2, hp, h⟩
   refine h.go ?_
   refine SC.r tk [(2, vs 1), (3, vi .i64 0)] [] [] [] (by kernel_rfl) ?_
   obtain rfl := some_inv' hp
   exact SC.re (js := [.g 0, .z 1]) tk (by kernel_rfl)

theorem ok_octets_Join (F : Nat) (parts_1 : (List (List Int))) (r : (List Int)) (hp : octets_Join F parts_1 = some r) : Spec Try.prog 33 [vs 0] [.rd 1 (RSl 1 R8) parts_1] (vs 1) [.gone, .rd 1 R8 r] := by
 refine Spec.enter Try.func33 rfl Try.ntmps33 rfl rfl fun fx => ?_
 refine SC.r tk [(0, vs 0)] [] [] [] (by kernel_rfl) ?_
 refine SC.r tk [(0, vs 0), (3, vn)] [] [] [] (by kernel_rfl) ?_
 refine SC.cut (fun a w => ∃ (l_2 : (List Int)), octets_Join_j1 F l_2 = some r ∧ A 17 1 fx [(3, vs 1)] [.gone, .own 1 5 R8 l_2] a w) ?_ ?_
 · refine SC.r tk [(3, vn), (6, vs 0), (7, vi .i64 (len parts_1)), (8, vi .i64 0)] [] [] [] (by kernel_rfl) ?_
   refine SC.block ?_
   obtain ⟨o1, hi1, ho1⟩ := bind_inv hp
   clear hp
   refine SC.loop (fun n a w => ∃ (l_3 : (List Int)) (x_4 : Int), iter (fun s => octets_Join_l1 F parts_1 s.1 s.2) n (l_3, x_4) = some o1 ∧ A 17 1 fx [(3, vs 1), (6, vs 0), (7, vi .i64 (len parts_1)), (8, vi .i64 x_4)] [.rd 1 (RSl 1 R8) parts_1, .own 1 5 R8 l_3] a w) F (fun a w h => ⟨[], 0, hi1, h.at (js := [.g 0, .n]) (by kernel_rfl)⟩) ?_
   rintro n1 a w ⟨l_3, x_4, hi1, h⟩
   obtain ⟨n1, q1, rfl, hp, hs1⟩ := iter_inv hi1
   replace hp : octets_Join_l1 F parts_1 l_3 x_4 = some q1 := hp
   clear hi1
   refine h.go ?_
   refine SC.r tk [(3, vs 1), (6, vs 0), (7, vi .i64 (len parts_1)), (8, vi .i64 x_4), (9, vb (decide (x_4 < (len parts_1))))] [] [] [] (by kernel_rfl) ?_
   refine SC.seq ?_
   refine SC.if' rfl hp (fun hp => ?_) (fun hp => ?_)
   · refine SC.skipThen ?_
     refine SC.seq ?_
     refine SC.block ?_
     obtain ⟨x_5, e_x_5, hp⟩ := bind_inv hp
     refine SC.pre (pre_ix (i := 0) (iv := x_4) (sz := 1) (R := (RSl 1 R8)) (l := parts_1) (by kernel_rfl) rfl e_x_5) ?_
     refine SC.r tk [(3, vs 1), (5, vs 3), (6, vs 0), (7, vi .i64 (len parts_1)), (8, vi .i64 x_4)] [] [.el 2] [x_4] (by kernel_rfl) ?_
     refine SC.reg ?_
     refine SL.sim tk 2 [(3, vs 1), (6, vs 0), (7, vi .i64 (len parts_1)), (8, vi .i64 x_4), (12, vs 1), (13, vs 3)] [] [] [] (by kernel_rfl) ?_
     obtain ⟨l_6, e_l_6, hp⟩ := bind_inv hp
     refine SL.eff (e_app (i := 1) (l := l_3) (sz := 1) (E := 5) (R := R8) (by_ := 1) (m := x_5) tk rfl (by kernel_rfl) rfl (.r (by kernel_rfl)) e_l_6 (by kernel_rfl)) rfl (by kernel_rfl) ?_
     refine SL.sim tk 1 [(3, vs 4), (6, vs 0), (7, vi .i64 (len parts_1)), (8, vi .i64 x_4)] [] [] [] (by kernel_rfl) ?_
     refine SL.nilThen ?_
     refine SC.reg ?_
     refine SL.sim tk 2 [(3, vs 4), (6, vs 0), (7, vi .i64 (len parts_1)), (8, vi .i64 (w64 (x_4 + 1)))] [] [] [] (by kernel_rfl) ?_
     refine SL.nilJ fun a w h => ?_
     exact ⟨n1, Nat.lt_succ_self _, l_6, w64 (x_4 + 1), next_inv hp hs1, h.at (js := [.g 0, .g 4]) (by kernel_rfl)⟩
   · refine SC.exitJ rfl fun a w h => ?_
     have ho := done_inv hp hs1
     replace hp := ho1
     try rw [ho] at hp
     exact ⟨l_3, hp, h.at (js := [.g 0, .g 1]) (by kernel_rfl)⟩
 · rintro a w ⟨l_2, hp, h⟩
   refine h.go ?_
   refine SC.r tk [(2, vs 1)] [] [] [] (by kernel_rfl) ?_
   obtain rfl := some_inv' hp
   exact SC.re (js := [.g 0, .z 1]) tk (by kernel_rfl)

theorem ok_signal_Encode (F : Nat) (s_1 : T_api_Signal) (r : (List Int) × Int) (hp : signal_Encode F s_1 = some r) : Spec Try.prog 13 [.g (C_api_Signal s_1)] [] (.u [.inl (.s 0), .inl (ci .i64 r.2)]) [.rd 1 R8 r.1] := by
 refine Spec.enter Try.func13 rfl Try.ntmps13 rfl rfl fun fx => ?_
 refine SC.seq ?_
 refine SC.reg ?_
 refine SL.eff (e_box (E := 26) (C_api_Signal s_1) (by kernel_rfl)) rfl (by kernel_rfl) ?_
 refine SL.sim tk 2 [(1, vp 0 0)] [] [] [] (by kernel_rfl) ?_
 refine SL.nilThen ?_
 refine SC.seq ?_
 refine SC.seq ?_
 refine SC.reg ?_
 refine SL.sim tk 1 [(1, vp 0 0), (12, .g (C_api_Signal s_1))] [] [] [] (by kernel_rfl) ?_
 obtain ⟨x_2, e_x_2, hp⟩ := bind_inv hp
 refine SL.eff (e_c Try.call10 (ok_signal_Check F s_1 _ e_x_2) [] [.g (C_api_Signal s_1)] (vi .i64 x_2) (by kernel_rfl) (.inl rfl)) rfl (by kernel_rfl) ?_
 refine SL.sim tk 1 [(1, vp 0 0), (4, vi .i64 x_2)] [] [] [] (by kernel_rfl) ?_
 refine SL.nilThen ?_
 refine SC.r tk [(1, vp 0 0), (4, vi .i64 x_2), (15, vb (x_2 != 0))] [] [] [] (by kernel_rfl) ?_
 refine SC.if' rfl hp (fun hp => ?_) (fun hp => ?_)
 · refine SC.r tk [(2, vn), (3, vi .i64 x_2)] [] [] [] (by kernel_rfl) ?_
   obtain rfl := some_inv' hp
   exact SC.re (js := [.n]) tk (by kernel_rfl)
 · refine SC.skipThen ?_
   refine SC.r tk [(1, vp 0 0), (5, vn)] [] [] [] (by kernel_rfl) ?_
   refine SC.seq ?_
   refine SC.reg ?_
   refine SL.sim tk 2 [(1, vp 0 0), (5, vn), (18, vi .i64 s_1.Kind)] [] [] [] (by kernel_rfl) ?_
   obtain ⟨x_3, e_x_3, hp⟩ := bind_inv hp
   refine SL.eff (e_c Try.call30 (ok_signal_sizes F s_1.Kind _ e_x_3) [] [vi .i64 s_1.Kind] (vs 1) (by kernel_rfl) (.inl rfl)) rfl (by kernel_rfl) ?_
   refine SL.norm (itsN := [.blk 26 (C_api_Signal s_1), .rd 1 (RInt .i64) x_3]) (by kernel_rfl) ?_
   refine SL.sim tk 2 [(1, vp 0 0), (5, vn), (6, vs 1), (7, vi .i64 0)] [] [] [] (by kernel_rfl) ?_
   refine SL.nilThen ?_
   refine SC.cut (fun a w => ∃ (l_4 : (List T_api_Field)) (x_5 : Int), signal_Encode_j1 F s_1 l_4 x_5 = some r ∧ A 65 0 fx [(1, vp 0 0), (5, vs 1), (7, vi .i64 x_5)] [.blk 26 (C_api_Signal s_1), .own 2 53 R_T_api_Field l_4] a w) ?_ ?_
   · refine SC.seq ?_
     refine SC.reg ?_
     refine SL.sim tk 1 [(1, vp 0 0), (5, vn), (6, vs 1), (7, vi .i64 0), (20, .g (C_api_Signal s_1))] [] [] [] (by kernel_rfl) ?_
     obtain ⟨x_8, e_x_8, hp⟩ := bind_inv hp
     refine SL.eff (e_c Try.call31 (ok_signal_numbers F s_1 _ e_x_8) [] [.g (C_api_Signal s_1)] (vs 2) (by kernel_rfl) (.inl rfl)) rfl (by kernel_rfl) ?_
     refine SL.sim tk 2 [(1, vp 0 0), (5, vn), (6, vs 1), (7, vi .i64 0), (21, vs 2), (22, vi .i64 (len x_8)), (23, vi .i64 0)] [] [] [] (by kernel_rfl) ?_
     refine SL.nilThen ?_
     refine SC.block ?_
     obtain ⟨o1, hi1, ho1⟩ := bind_inv hp
     clear hp
     refine SC.loop (fun n a w => ∃ (l_9 : (List T_api_Field)) (x_10 : Int) (x_11 : Int), iter (fun s => signal_Encode_l1 F x_3 x_8 s.1 s.2.1 s.2.2) n (l_9, x_10, x_11) = some o1 ∧ A 65 0 fx [(1, vp 0 0), (5, vs 1), (6, vs 2), (7, vi .i64 x_10), (21, vs 3), (22, vi .i64 (len x_8)), (23, vi .i64 x_11)] [.blk 26 (C_api_Signal s_1), .own 2 53 R_T_api_Field l_9, .rd 1 (RInt .i64) x_3, .rd 1 (RInt .i64) x_8] a w) F (fun a w h => ⟨[], 0, 0, hi1, h.at (js := [.g 0, .n, .g 1, .g 2]) (by kernel_rfl)⟩) ?_
     rintro n1 a w ⟨l_9, x_10, x_11, hi1, h⟩
     obtain ⟨n1, q1, rfl, hp, hs1⟩ := iter_inv hi1
     replace hp : signal_Encode_l1 F x_3 x_8 l_9 x_10 x_11 = some q1 := hp
     clear hi1
     refine h.go ?_
     refine SC.r tk [(1, vp 0 0), (5, vs 1), (6, vs 2), (7, vi .i64 x_10), (21, vs 3), (22, vi .i64 (len x_8)), (23, vi .i64 x_11), (24, vb (decide (x_11 < (len x_8))))] [] [] [] (by kernel_rfl) ?_
     refine SC.seq ?_
     refine SC.if' rfl hp (fun hp => ?_) (fun hp => ?_)
     · refine SC.skipThen ?_
       refine SC.seq ?_
       refine SC.block ?_
       obtain ⟨x_12, e_x_12, hp⟩ := bind_inv hp
       refine SC.pre (pre_ix (i := 3) (iv := x_11) (sz := 1) (R := (RInt .i64)) (l := x_8) (by kernel_rfl) rfl e_x_12) ?_
       refine SC.r tk [(1, vp 0 0), (5, vs 1), (6, vs 2), (7, vi .i64 x_10), (8, vi .i64 x_11), (9, vi .i64 x_12), (21, vs 3), (22, vi .i64 (len x_8)), (23, vi .i64 x_11)] [] [.el 4] [x_11] (by kernel_rfl) ?_
       refine SC.seq ?_
       refine SC.reg ?_
       obtain ⟨x_13, e_x_13, hp⟩ := bind_inv hp
       refine SL.pre (pre_ix (i := 2) (iv := x_11) (sz := 1) (R := (RInt .i64)) (l := x_3) (by kernel_rfl) rfl e_x_13) ?_
       refine SL.sim tk 8 [(1, vp 0 0), (5, vs 1), (6, vs 2), (7, vi .i64 x_10), (8, vi .i64 x_11), (21, vs 3), (22, vi .i64 (len x_8)), (23, vi .i64 x_11), (28, vs 1), (35, .g [ci .i64 x_13, ci .u64 (wu64 x_12)])] [] [.el 5] [x_11] (by kernel_rfl) ?_
       refine SL.eff (e_lit (sz := 2) (E := 53) (R := R_T_api_Field) (by_ := 16) tk [[ci .i64 x_13, ci .u64 (wu64 x_12)]] [(T_api_Field.mk x_13 (wu64 x_12))] (by kernel_rfl) ⟨(clo_T_api_Field (x := (T_api_Field.mk x_13 (wu64 x_12)))), trivial⟩ rfl (by kernel_rfl) (by kernel_rfl)) rfl (by kernel_rfl) ?_
       obtain ⟨l_14, e_l_14, hp⟩ := bind_inv hp
       refine SL.eff (e_app (i := 1) (l := l_9) (sz := 2) (E := 53) (R := R_T_api_Field) (by_ := 16) (m := [(T_api_Field.mk x_13 (wu64 x_12))]) tk rfl (by kernel_rfl) rfl (.o 53 (by kernel_rfl)) e_l_14 (by kernel_rfl)) rfl (by kernel_rfl) ?_
       refine SL.norm (itsN := [.blk 26 (C_api_Signal s_1), .gone, .rd 1 (RInt .i64) x_3, .rd 1 (RInt .i64) x_8, .elt (some (3, x_11)) false [ci .i64 x_12], .elt (some (2, x_11)) false [ci .i64 x_13], .own 2 53 R_T_api_Field [(T_api_Field.mk x_13 (wu64 x_12))], .own 2 53 R_T_api_Field l_14]) (by kernel_rfl) ?_
       refine SL.sim tk 1 [(1, vp 0 0), (5, vs 7), (6, vs 2), (7, vi .i64 x_10), (8, vi .i64 x_11), (21, vs 3), (22, vi .i64 (len x_8)), (23, vi .i64 x_11)] [] [] [] (by kernel_rfl) ?_
       refine SL.nilThen ?_
       refine SC.reg ?_
       obtain ⟨x_15, e_x_15, hp⟩ := bind_inv hp
       refine SL.pre (pre_ix (i := 2) (iv := x_11) (sz := 1) (R := (RInt .i64)) (l := x_3) (by kernel_rfl) rfl e_x_15) ?_
       refine SL.sim tk 7 [(1, vp 0 0), (5, vs 7), (6, vs 2), (7, vi .i64 (w64 (x_10 + x_15))), (21, vs 3), (22, vi .i64 (len x_8)), (23, vi .i64 x_11)] [] [.el 8] [x_11] (by kernel_rfl) ?_
       refine SL.nilThen ?_
       refine SC.reg ?_
       refine SL.sim tk 2 [(1, vp 0 0), (5, vs 7), (6, vs 2), (7, vi .i64 (w64 (x_10 + x_15))), (21, vs 3), (22, vi .i64 (len x_8)), (23, vi .i64 (w64 (x_11 + 1)))] [] [] [] (by kernel_rfl) ?_
       refine SL.nilJ fun a w h => ?_
       exact ⟨n1, Nat.lt_succ_self _, l_14, w64 (x_10 + x_15), w64 (x_11 + 1), next_inv hp hs1, h.at (js := [.g 0, .g 7, .g 2, .g 3]) (by kernel_rfl)⟩
     · refine SC.exitJ rfl fun a w h => ?_
       have ho := done_inv hp hs1
       replace hp := ho1
       try rw [ho] at hp
       exact ⟨l_9, x_10, hp, h.at (js := [.g 0, .g 1]) (by kernel_rfl)⟩
   · rintro a w ⟨l_4, x_5, hp, h⟩
     refine h.go ?_
     refine SC.seq ?_
     refine SC.reg ?_
     refine SL.sim tk 1 [(1, vp 0 0), (7, vi .i64 x_5), (46, vs 1)] [] [] [] (by kernel_rfl) ?_
     obtain ⟨x_6, e_x_6, hp⟩ := bind_inv hp
     refine SL.pre (pre_frz (i := 1) (sz := 2) (E := 53) (R := R_T_api_Field) (l := l_4) (by kernel_rfl)) ?_
     refine SL.eff (e_c Try.call32 (ok_octets_Put F l_4 _ e_x_6) [.g 1] [vs 1] (.u [.inl (.s 2), .inl (ci .i64 x_6.2)]) (by kernel_rfl) (.inl rfl)) rfl (by kernel_rfl) ?_
     refine SL.sim tk 5 [(1, vp 0 0), (7, vi .i64 x_5), (10, vs 2), (11, vi .i64 x_6.2)] [] [] [] (by kernel_rfl) ?_
     refine SL.nilThen ?_
     refine SC.seq ?_
     refine SC.r tk [(1, vp 0 0), (7, vi .i64 x_5), (10, vs 2), (11, vi .i64 x_6.2), (51, vb (x_6.2 != 0))] [] [] [] (by kernel_rfl) ?_
     refine SC.if' rfl hp (fun hp => ?_) (fun hp => ?_)
     · refine SC.r tk [(2, vn), (3, vi .i64 x_6.2)] [] [] [] (by kernel_rfl) ?_
       obtain rfl := some_inv' hp
       exact SC.re (js := [.n]) tk (by kernel_rfl)
     · refine SC.skipThen ?_
       refine SC.seq ?_
       refine SC.reg ?_
       refine SL.sim tk 8 [(10, vs 2), (55, vi .u8 (wu8 s_1.Kind)), (58, vi .u8 (wu8 s_1.ID)), (60, vi .u8 (wu8 x_5))] [] [] [] (by kernel_rfl) ?_
       refine SL.eff (e_lit (sz := 1) (E := 5) (R := R8) (by_ := 1) tk [[ci .u8 (wu8 s_1.Kind)], [ci .u8 (wu8 s_1.ID)], [ci .u8 (wu8 x_5)], [ci .u8 0]] [wu8 s_1.Kind, wu8 s_1.ID, wu8 x_5, 0] (by kernel_rfl) ⟨Clo.int, ⟨Clo.int, ⟨Clo.int, ⟨Clo.int, trivial⟩⟩⟩⟩ rfl (by kernel_rfl) (by kernel_rfl)) rfl (by kernel_rfl) ?_
       refine SL.sim tk 1 [(61, vs 3), (62, vs 2)] [] [] [] (by kernel_rfl) ?_
       refine SL.pre (pre_frz (i := 3) (sz := 1) (E := 5) (R := R8) (l := [wu8 s_1.Kind, wu8 s_1.ID, wu8 x_5, 0]) (by kernel_rfl)) ?_
       refine SL.eff (e_lit (sz := 1) (E := 31) (R := (RSl 1 R8)) (by_ := 24) tk [[.s 3], [.s 2]] [[wu8 s_1.Kind, wu8 s_1.ID, wu8 x_5, 0], x_6.1] (by kernel_rfl) ⟨(Clo.sl (by kernel_rfl)), ⟨(Clo.sl (by kernel_rfl)), trivial⟩⟩ rfl (by kernel_rfl) (by kernel_rfl)) rfl (by kernel_rfl) ?_
       refine SL.norm (itsN := [.blk 26 (C_api_Signal s_1), .rd 2 R_T_api_Field l_4, .rd 1 R8 x_6.1, .rd 1 R8 [wu8 s_1.Kind, wu8 s_1.ID, wu8 x_5, 0], .own 1 31 (RSl 1 R8) [[wu8 s_1.Kind, wu8 s_1.ID, wu8 x_5, 0], x_6.1]]) (by kernel_rfl) ?_
       obtain ⟨x_7, e_x_7, hp⟩ := bind_inv hp
       refine SL.pre (pre_frz (i := 4) (sz := 1) (E := 31) (R := (RSl 1 R8)) (l := [[wu8 s_1.Kind, wu8 s_1.ID, wu8 x_5, 0], x_6.1]) (by kernel_rfl)) ?_
       refine SL.eff (e_c Try.call33 (ok_octets_Join F [[wu8 s_1.Kind, wu8 s_1.ID, wu8 x_5, 0], x_6.1] _ e_x_7) [.g 4] [vs 4] (vs 5) (by kernel_rfl) (.inl rfl)) rfl (by kernel_rfl) ?_
       refine SL.sim tk 2 [(2, vs 5), (3, vi .i64 0)] [] [] [] (by kernel_rfl) ?_
       refine SL.nilThen ?_
       obtain rfl := some_inv' hp
       exact SC.re (js := [.g 5]) tk (by kernel_rfl)

theorem ok_octets_Take (F : Nat) (b_1 : (List Int)) (sizes_2 : (List Int)) (r : (List Int) × (List Int) × Int) (hp : octets_Take F b_1 sizes_2 = some r) : Spec Try.prog 35 [vs 0, vs 1] [.rd 1 R8 b_1, .rd 1 (RInt .i64) sizes_2] (.u [.inl (.s 2), .inl (.s 3), .inl (ci .i64 r.2.2)]) [.gone, .gone, .rd 1 (RInt .u64) r.1, .rd 1 R8 r.2.1] := by
 refine Spec.enter Try.func35 rfl Try.ntmps35 rfl rfl fun fx => ?_
 refine SC.r tk [(0, vs 0), (1, vs 1)] [] [] [] (by kernel_rfl) ?_
 refine SC.r tk [(0, vs 0), (1, vs 1), (7, vi .i64 0)] [] [] [] (by kernel_rfl) ?_
 refine SC.cut (fun a w => ∃ (x_3 : Int), octets_Take_j1 F b_1 sizes_2 x_3 = some r ∧ A 65 2 fx [(0, vs 0), (1, vs 1), (7, vi .i64 x_3)] [.rd 1 R8 b_1, .rd 1 (RInt .i64) sizes_2] a w) ?_ ?_
 · refine SC.r tk [(0, vs 0), (1, vs 1), (7, vi .i64 0), (15, vs 1), (16, vi .i64 (len sizes_2)), (17, vi .i64 0)] [] [] [] (by kernel_rfl) ?_
   refine SC.block ?_
   obtain ⟨o3, hi3, ho3⟩ := bind_inv hp
   clear hp
   refine SC.loop (fun n a w => ∃ (x_20 : Int) (x_21 : Int), iter (fun s => octets_Take_l3 F sizes_2 s.1 s.2) n (x_20, x_21) = some o3 ∧ A 65 2 fx [(0, vs 0), (1, vs 1), (7, vi .i64 x_20), (15, vs 1), (16, vi .i64 (len sizes_2)), (17, vi .i64 x_21)] [.rd 1 R8 b_1, .rd 1 (RInt .i64) sizes_2] a w) F (fun a w h => ⟨0, 0, hi3, h.at (js := [.g 0, .g 1]) (by kernel_rfl)⟩) ?_
   rintro n3 a w ⟨x_20, x_21, hi3, h⟩
   obtain ⟨n3, q3, rfl, hp, hs3⟩ := iter_inv hi3
   replace hp : octets_Take_l3 F sizes_2 x_20 x_21 = some q3 := hp
   clear hi3
   refine h.go ?_
   refine SC.r tk [(0, vs 0), (1, vs 1), (7, vi .i64 x_20), (15, vs 1), (16, vi .i64 (len sizes_2)), (17, vi .i64 x_21), (18, vb (decide (x_21 < (len sizes_2))))] [] [] [] (by kernel_rfl) ?_
   refine SC.seq ?_
   refine SC.if' rfl hp (fun hp => ?_) (fun hp => ?_)
   · refine SC.skipThen ?_
     refine SC.seq ?_
     refine SC.block ?_
     obtain ⟨x_22, e_x_22, hp⟩ := bind_inv hp
     refine SC.pre (pre_ix (i := 1) (iv := x_21) (sz := 1) (R := (RInt .i64)) (l := sizes_2) (by kernel_rfl) rfl e_x_22) ?_
     refine SC.r tk [(0, vs 0), (1, vs 1), (7, vi .i64 x_20), (9, vi .i64 x_22), (15, vs 1), (16, vi .i64 (len sizes_2)), (17, vi .i64 x_21)] [] [.el 2] [x_21] (by kernel_rfl) ?_
     refine SC.seq ?_
     refine SC.seq ?_
     refine SC.reg ?_
     refine SL.sim tk 1 [(0, vs 0), (1, vs 1), (7, vi .i64 x_20), (9, vi .i64 x_22), (15, vs 1), (16, vi .i64 (len sizes_2)), (17, vi .i64 x_21), (21, vi .i64 x_22)] [] [] [] (by kernel_rfl) ?_
     obtain ⟨x_23, e_x_23, hp⟩ := bind_inv hp
     refine SL.eff (e_c Try.call45 (ok_octets_sized F x_22 _ e_x_23) [] [vi .i64 x_22] (vb x_23) (by kernel_rfl) (.inl rfl)) rfl (by kernel_rfl) ?_
     refine SL.sim tk 1 [(0, vs 0), (1, vs 1), (7, vi .i64 x_20), (9, vi .i64 x_22), (15, vs 1), (16, vi .i64 (len sizes_2)), (17, vi .i64 x_21), (23, vb (!x_23))] [] [] [] (by kernel_rfl) ?_
     refine SL.nilThen ?_
     refine SC.if' rfl hp (fun hp => ?_) (fun hp => ?_)
     · refine SC.r tk [(4, vn), (5, vn), (6, vi .i64 5)] [] [] [] (by kernel_rfl) ?_
       have ho := done_inv hp hs3
       replace hp := ho3
       try rw [ho] at hp
       obtain rfl := some_inv' hp
       exact SC.re (js := [.g 0, .g 1, .n, .n]) tk (by kernel_rfl)
     · refine SC.skipThen ?_
       refine SC.reg ?_
       refine SL.sim tk 4 [(0, vs 0), (1, vs 1), (7, vi .i64 (w64 (x_20 + x_22))), (15, vs 1), (16, vi .i64 (len sizes_2)), (17, vi .i64 x_21)] [] [] [] (by kernel_rfl) ?_
       refine SL.nilThen ?_
       refine SC.reg ?_
       refine SL.sim tk 2 [(0, vs 0), (1, vs 1), (7, vi .i64 (w64 (x_20 + x_22))), (15, vs 1), (16, vi .i64 (len sizes_2)), (17, vi .i64 (w64 (x_21 + 1)))] [] [] [] (by kernel_rfl) ?_
       refine SL.nilJ fun a w h => ?_
       exact ⟨n3, Nat.lt_succ_self _, w64 (x_20 + x_22), w64 (x_21 + 1), next_inv hp hs3, h.at (js := [.g 0, .g 1]) (by kernel_rfl)⟩
   · refine SC.exitJ rfl fun a w h => ?_
     have ho := done_inv hp hs3
     replace hp := ho3
     try rw [ho] at hp
     exact ⟨x_20, hp, h.at (js := [.g 0, .g 1]) (by kernel_rfl)⟩
 · rintro a w ⟨x_3, hp, h⟩
   refine h.go ?_
   refine SC.seq ?_
   refine SC.r tk [(0, vs 0), (1, vs 1), (31, vb (decide ((len b_1) < x_3)))] [] [] [] (by kernel_rfl) ?_
   refine SC.if' rfl hp (fun hp => ?_) (fun hp => ?_)
   · refine SC.r tk [(4, vn), (5, vn), (6, vi .i64 3)] [] [] [] (by kernel_rfl) ?_
     obtain rfl := some_inv' hp
     exact SC.re (js := [.g 0, .g 1, .n, .n]) tk (by kernel_rfl)
   · refine SC.skipThen ?_
     refine SC.r tk [(0, vs 0), (1, vs 1), (10, vn)] [] [] [] (by kernel_rfl) ?_
     refine SC.cut (fun a w => ∃ (l_4 : (List Int)) (l_5 : (List Int)), octets_Take_j2 F l_4 l_5 = some r ∧ A 65 2 fx [(0, vs 2), (10, vs 3)] [.gone, .gone, .rd 1 R8 l_4, .own 1 51 (RInt .u64) l_5] a w) ?_ ?_
     · refine SC.r tk [(0, vs 0), (10, vn), (32, vs 1), (33, vi .i64 (len sizes_2)), (34, vi .i64 0)] [] [] [] (by kernel_rfl) ?_
       refine SC.block ?_
       obtain ⟨o1, hi1, ho1⟩ := bind_inv hp
       clear hp
       refine SC.loop (fun n a w => ∃ (l_7 : (List Int)) (l_8 : (List Int)) (x_9 : Int), iter (fun s => octets_Take_l1 F sizes_2 s.1 s.2.1 s.2.2) n (l_7, l_8, x_9) = some o1 ∧ A 65 2 fx [(0, vs 2), (10, vs 3), (32, vs 1), (33, vi .i64 (len sizes_2)), (34, vi .i64 x_9)] [.gone, .rd 1 (RInt .i64) sizes_2, .rd 1 R8 l_7, .own 1 51 (RInt .u64) l_8] a w) F (fun a w h => ⟨b_1, [], 0, hi1, h.at (js := [.g 0, .g 1, .g 0, .n]) (by kernel_rfl)⟩) ?_
       rintro n1 a w ⟨l_7, l_8, x_9, hi1, h⟩
       obtain ⟨n1, q1, rfl, hp, hs1⟩ := iter_inv hi1
       replace hp : octets_Take_l1 F sizes_2 l_7 l_8 x_9 = some q1 := hp
       clear hi1
       refine h.go ?_
       refine SC.r tk [(0, vs 2), (10, vs 3), (32, vs 1), (33, vi .i64 (len sizes_2)), (34, vi .i64 x_9), (35, vb (decide (x_9 < (len sizes_2))))] [] [] [] (by kernel_rfl) ?_
       refine SC.seq ?_
       refine SC.if' rfl hp (fun hp => ?_) (fun hp => ?_)
       · refine SC.skipThen ?_
         refine SC.cut (fun a w => ∃ (l_10 : (List Int)) (l_11 : (List Int)), octets_Take_j3 F x_9 l_10 l_11 = some q1 ∧ A 65 2 fx [(0, vs 2), (10, vs 3), (32, vs 1), (33, vi .i64 (len sizes_2)), (34, vi .i64 x_9)] [.gone, .rd 1 (RInt .i64) sizes_2, .rd 1 R8 l_10, .own 1 51 (RInt .u64) l_11] a w) ?_ ?_
         · refine SC.block ?_
           obtain ⟨x_12, e_x_12, hp⟩ := bind_inv hp
           refine SC.pre (pre_ix (i := 1) (iv := x_9) (sz := 1) (R := (RInt .i64)) (l := sizes_2) (by kernel_rfl) rfl e_x_12) ?_
           refine SC.r tk [(0, vs 2), (10, vs 3), (12, vi .i64 x_12), (32, vs 1), (33, vi .i64 (len sizes_2)), (34, vi .i64 x_9)] [] [.el 4] [x_9] (by kernel_rfl) ?_
           refine SC.r tk [(0, vs 2), (10, vs 3), (12, vi .i64 x_12), (13, vi .u64 0), (32, vs 1), (33, vi .i64 (len sizes_2)), (34, vi .i64 x_9)] [] [] [] (by kernel_rfl) ?_
           refine SC.cut (fun a w => ∃ (x_13 : Int), octets_Take_j4 F l_7 l_8 x_9 x_12 x_13 = some q1 ∧ A 65 2 fx [(0, vs 2), (10, vs 3), (12, vi .i64 x_12), (13, vi .u64 x_13), (32, vs 1), (33, vi .i64 (len sizes_2)), (34, vi .i64 x_9)] [.gone, .rd 1 (RInt .i64) sizes_2, .rd 1 R8 l_7, .own 1 51 (RInt .u64) l_8] a w) ?_ ?_
           · refine SC.r tk [(0, vs 2), (10, vs 3), (12, vi .i64 x_12), (13, vi .u64 0), (32, vs 1), (33, vi .i64 (len sizes_2)), (34, vi .i64 x_9), (38, vi .i64 x_12), (39, vi .i64 0)] [] [] [] (by kernel_rfl) ?_
             refine SC.block ?_
             obtain ⟨o2, hi2, ho2⟩ := bind_inv hp
             clear hp
             refine SC.loop (fun n a w => ∃ (x_16 : Int) (x_17 : Int), iter (fun s => octets_Take_l2 F l_7 x_12 s.1 s.2) n (x_16, x_17) = some o2 ∧ A 65 2 fx [(0, vs 2), (10, vs 3), (12, vi .i64 x_12), (13, vi .u64 x_16), (32, vs 1), (33, vi .i64 (len sizes_2)), (34, vi .i64 x_9), (38, vi .i64 x_12), (39, vi .i64 x_17)] [.gone, .rd 1 (RInt .i64) sizes_2, .rd 1 R8 l_7, .own 1 51 (RInt .u64) l_8] a w) F (fun a w h => ⟨0, 0, hi2, h.at (js := [.g 0, .g 1, .g 2, .g 3]) (by kernel_rfl)⟩) ?_
             rintro n2 a w ⟨x_16, x_17, hi2, h⟩
             obtain ⟨n2, q2, rfl, hp, hs2⟩ := iter_inv hi2
             replace hp : octets_Take_l2 F l_7 x_12 x_16 x_17 = some q2 := hp
             clear hi2
             refine h.go ?_
             refine SC.r tk [(0, vs 2), (10, vs 3), (12, vi .i64 x_12), (13, vi .u64 x_16), (32, vs 1), (33, vi .i64 (len sizes_2)), (34, vi .i64 x_9), (38, vi .i64 x_12), (39, vi .i64 x_17), (40, vb (decide (x_17 < x_12)))] [] [] [] (by kernel_rfl) ?_
             refine SC.seq ?_
             refine SC.if' rfl hp (fun hp => ?_) (fun hp => ?_)
             · refine SC.skipThen ?_
               refine SC.seq ?_
               refine SC.block ?_
               refine SC.r tk [(0, vs 2), (10, vs 3), (12, vi .i64 x_12), (13, vi .u64 x_16), (14, vi .i64 x_17), (32, vs 1), (33, vi .i64 (len sizes_2)), (34, vi .i64 x_9), (38, vi .i64 x_12), (39, vi .i64 x_17)] [] [] [] (by kernel_rfl) ?_
               refine SC.reg ?_
               obtain ⟨x_18, e_x_18, hp⟩ := bind_inv hp
               obtain ⟨x_19, e_x_19, hp⟩ := bind_inv hp
               refine SL.pre (pre_ix (i := 2) (iv := x_17) (sz := 1) (R := R8) (l := l_7) (by kernel_rfl) rfl e_x_18) ?_
               refine SL.sim tk 11 [(0, vs 2), (10, vs 3), (12, vi .i64 x_12), (13, vi .u64 (ior .u64 x_16 x_19)), (32, vs 1), (33, vi .i64 (len sizes_2)), (34, vi .i64 x_9), (38, vi .i64 x_12), (39, vi .i64 x_17)] [] [.el 4, .bin .shl .u64 (wu64 x_18) (w64 (8 * x_17)) x_19 e_x_19] [x_17, wu64 x_18, w64 (8 * x_17)] (by kernel_rfl) ?_
               refine SL.nilThen ?_
               refine SC.reg ?_
               refine SL.sim tk 2 [(0, vs 2), (10, vs 3), (12, vi .i64 x_12), (13, vi .u64 (ior .u64 x_16 x_19)), (32, vs 1), (33, vi .i64 (len sizes_2)), (34, vi .i64 x_9), (38, vi .i64 x_12), (39, vi .i64 (w64 (x_17 + 1)))] [] [] [] (by kernel_rfl) ?_
               refine SL.nilJ fun a w h => ?_
               exact ⟨n2, Nat.lt_succ_self _, ior .u64 x_16 x_19, w64 (x_17 + 1), next_inv hp hs2, h.at (js := [.g 0, .g 1, .g 2, .g 3]) (by kernel_rfl)⟩
             · refine SC.exitJ rfl fun a w h => ?_
               have ho := done_inv hp hs2
               replace hp := ho2
               try rw [ho] at hp
               exact ⟨x_16, hp, h.at (js := [.g 0, .g 1, .g 2, .g 3]) (by kernel_rfl)⟩
           · rintro a w ⟨x_13, hp, h⟩
             refine h.go ?_
             refine SC.seq ?_
             refine SC.reg ?_
             refine SL.sim tk 2 [(0, vs 2), (10, vs 3), (12, vi .i64 x_12), (32, vs 1), (33, vi .i64 (len sizes_2)), (34, vi .i64 x_9), (53, vs 3), (54, vi .u64 x_13)] [] [] [] (by kernel_rfl) ?_
             refine SL.eff (e_lit (sz := 1) (E := 51) (R := (RInt .u64)) (by_ := 8) tk [[ci .u64 x_13]] [x_13] (by kernel_rfl) ⟨Clo.int, trivial⟩ rfl (by kernel_rfl) (by kernel_rfl)) rfl (by kernel_rfl) ?_
             obtain ⟨l_14, e_l_14, hp⟩ := bind_inv hp
             refine SL.eff (e_app (i := 3) (l := l_8) (sz := 1) (E := 51) (R := (RInt .u64)) (by_ := 8) (m := [x_13]) tk rfl (by kernel_rfl) rfl (.o 51 (by kernel_rfl)) e_l_14 (by kernel_rfl)) rfl (by kernel_rfl) ?_
             refine SL.sim tk 1 [(0, vs 2), (10, vs 5), (12, vi .i64 x_12), (32, vs 1), (33, vi .i64 (len sizes_2)), (34, vi .i64 x_9)] [] [] [] (by kernel_rfl) ?_
             refine SL.nilThen ?_
             refine SC.reg ?_
             refine SL.sim tk 2 [(0, vs 2), (10, vs 5), (32, vs 1), (33, vi .i64 (len sizes_2)), (34, vi .i64 x_9), (57, vs 2), (58, vi .i64 x_12)] [] [] [] (by kernel_rfl) ?_
             obtain ⟨l_15, e_l_15, hp⟩ := bind_inv hp
             refine SL.eff (e_sub (sz := 1) (E := 5) (R := R8) (by_ := 1) (l := l_7) tk rfl (.inl ⟨2, rfl, (by kernel_rfl)⟩) rfl rfl e_l_15 (by kernel_rfl)) rfl (by kernel_rfl) ?_
             refine SL.sim tk 1 [(0, vs 6), (10, vs 5), (32, vs 1), (33, vi .i64 (len sizes_2)), (34, vi .i64 x_9)] [] [] [] (by kernel_rfl) ?_
             refine SL.nilJ fun a w h => ?_
             exact ⟨l_15, l_14, hp, h.at (js := [.g 0, .g 1, .g 6, .g 5]) (by kernel_rfl)⟩
         · rintro a w ⟨l_10, l_11, hp, h⟩
           refine h.go ?_
           refine SC.reg ?_
           refine SL.sim tk 2 [(0, vs 2), (10, vs 3), (32, vs 1), (33, vi .i64 (len sizes_2)), (34, vi .i64 (w64 (x_9 + 1)))] [] [] [] (by kernel_rfl) ?_
           refine SL.nilJ fun a w h => ?_
           exact ⟨n1, Nat.lt_succ_self _, l_10, l_11, w64 (x_9 + 1), next_inv hp hs1, h.at (js := [.g 0, .g 1, .g 2, .g 3]) (by kernel_rfl)⟩
       · refine SC.exitJ rfl fun a w h => ?_
         have ho := done_inv hp hs1
         replace hp := ho1
         try rw [ho] at hp
         exact ⟨l_7, l_8, hp, h.at (js := [.g 0, .g 1, .g 2, .g 3]) (by kernel_rfl)⟩
     · rintro a w ⟨l_4, l_5, hp, h⟩
       refine h.go ?_
       refine SC.seq ?_
       refine SC.reg ?_
       refine SL.sim tk 2 [(61, vs 3), (62, vs 2)] [] [] [] (by kernel_rfl) ?_
       refine SL.eff (e_lit (sz := 1) (E := 31) (R := (RSl 1 R8)) (by_ := 24) tk [[.s 2]] [l_4] (by kernel_rfl) ⟨(Clo.sl (by kernel_rfl)), trivial⟩ rfl (by kernel_rfl) (by kernel_rfl)) rfl (by kernel_rfl) ?_
       obtain ⟨x_6, e_x_6, hp⟩ := bind_inv hp
       refine SL.pre (pre_frz (i := 4) (sz := 1) (E := 31) (R := (RSl 1 R8)) (l := [l_4]) (by kernel_rfl)) ?_
       refine SL.eff (e_c Try.call33 (ok_octets_Join F [l_4] _ e_x_6) [.g 4] [vs 4] (vs 5) (by kernel_rfl) (.inl rfl)) rfl (by kernel_rfl) ?_
       refine SL.sim tk 3 [(4, vs 3), (5, vs 5), (6, vi .i64 0)] [] [] [] (by kernel_rfl) ?_
       refine SL.nilThen ?_
       obtain rfl := some_inv' hp
       exact SC.re (js := [.g 0, .g 1, .z 3, .g 5]) tk (by kernel_rfl)

theorem ok_signal_filled_1 (F : Nat) (i_1 : Int) (p_2 : (List Int)) (r : Int × (List Int)) (hp : signal_filled_1 F i_1 p_2 = some r) : Spec Try.prog 48 [vi .i64 i_1, vp 0 0] [.blk 58 [.s 1], .rd 1 (RInt .u64) p_2] (vi .i64 r.1) [.blk 58 [.s 2], .gone, .rd 1 (RInt .u64) r.2] := by
 refine Spec.enter Try.func48 rfl Try.ntmps48 rfl rfl fun fx => ?_
 refine SC.r tk [(0, vi .i64 i_1), (1, vp 0 0)] [] [] [] (by kernel_rfl) ?_
 obtain ⟨x_3, e_x_3, hp⟩ := bind_inv hp
 refine SC.pre (pre_ix (i := 1) (iv := i_1) (sz := 1) (R := (RInt .u64)) (l := p_2) (by kernel_rfl) rfl e_x_3) ?_
 refine SC.r tk [(3, vi .i64 (w64 x_3))] [] [.el 2] [i_1] (by kernel_rfl) ?_
 obtain rfl := some_inv' hp
 exact SC.re (js := [.g 0, .g 1, .g 1]) tk (by kernel_rfl)

theorem ok_signal_filled_2 (F : Nat) (i_1 : Int) (p_2 : (List Int)) (r : Int × (List Int)) (hp : signal_filled_2 F i_1 p_2 = some r) : Spec Try.prog 49 [vi .i64 i_1, vp 0 0] [.blk 58 [.s 1], .rd 1 (RInt .u64) p_2] (vi .u16 r.1) [.blk 58 [.s 2], .gone, .rd 1 (RInt .u64) r.2] := by
 refine Spec.enter Try.func49 rfl Try.ntmps49 rfl rfl fun fx => ?_
 refine SC.r tk [(0, vi .i64 i_1), (1, vp 0 0)] [] [] [] (by kernel_rfl) ?_
 obtain ⟨x_3, e_x_3, hp⟩ := bind_inv hp
 refine SC.pre (pre_ix (i := 1) (iv := i_1) (sz := 1) (R := (RInt .u64)) (l := p_2) (by kernel_rfl) rfl e_x_3) ?_
 refine SC.r tk [(3, vi .u16 (wu16 x_3))] [] [.el 2] [i_1] (by kernel_rfl) ?_
 obtain rfl := some_inv' hp
 exact SC.re (js := [.g 0, .g 1, .g 1]) tk (by kernel_rfl)

theorem ok_signal_filled (F : Nat) (s_1 : T_api_Signal) (l_2 : (List Int)) (r : T_api_Signal) (hp : signal_filled F s_1 l_2 = some r) : Spec Try.prog 36 [.g (C_api_Signal s_1), vs 0] [.rd 1 (RInt .u64) l_2] (.g (C_api_Signal (T_api_Signal.mk r.Kind r.ID r.PSM r.Source r.Dest r.MTU r.MPS r.Credits r.Result (T_api_Update.mk r.Update.WinSize r.Update.WinOffset r.Update.Interval r.Update.Latency r.Update.Timeout)))) [.gone] := by
 refine Spec.enter Try.func36 rfl Try.ntmps36 rfl rfl fun fx => ?_
 refine SC.seq ?_
 refine SC.reg ?_
 refine SL.eff (e_box (E := 26) (C_api_Signal s_1) (by kernel_rfl)) rfl (by kernel_rfl) ?_
 refine SL.eff (e_box (E := 58) [.s 0] (by kernel_rfl)) rfl (by kernel_rfl) ?_
 refine SL.eff (e_alloc (E := 26) tk (C_api_Signal (T_api_Signal.mk 0 0 0 0 0 0 0 0 0 (T_api_Update.mk 0 0 0 0 0))) (by kernel_rfl)) rfl (by kernel_rfl) ?_
 refine SL.nilThen ?_
 refine SC.r tk [(2, vp 1 0), (3, vp 2 0), (4, vp 3 0), (5, .f 48 [.p 2 0])] [] [] [] (by kernel_rfl) ?_
 refine SC.r tk [(2, vp 1 0), (4, vp 3 0), (5, .f 48 [.p 2 0]), (6, .f 49 [.p 2 0])] [] [] [] (by kernel_rfl) ?_
 refine SC.cut (fun a w => ∃ (c_15 : T_api_Signal), signal_filled_j1 F s_1 c_15 = some r ∧ A 83 1 fx [(2, vp 1 0), (4, vp 2 0)] [.gone, .blk 26 (C_api_Signal ({ c_15 with Kind := s_1.Kind, ID := s_1.ID })), .blk 26 (C_api_Signal (T_api_Signal.mk 0 0 0 0 0 0 0 0 0 (T_api_Update.mk 0 0 0 0 0)))] a w) ?_ ?_
 · refine SC.r tk [(2, vp 1 0), (4, vp 3 0), (5, .f 48 [.p 2 0]), (6, .f 49 [.p 2 0]), (10, vi .i64 s_1.Kind)] [] [] [] (by kernel_rfl) ?_
   refine SC.block ?_
   refine SC.cut (fun a w => ∃ (z_16 : Bool), signal_filled_j2 F s_1 l_2 z_16 = some r ∧ A 83 1 fx [(2, vp 1 0), (4, vp 2 0), (5, .f 48 [.p 3 0]), (6, .f 49 [.p 3 0]), (10, vi .i64 s_1.Kind), (11, vb z_16)] [.rd 1 (RInt .u64) l_2, .blk 26 (C_api_Signal s_1), .blk 26 (C_api_Signal (T_api_Signal.mk 0 0 0 0 0 0 0 0 0 (T_api_Update.mk 0 0 0 0 0))), .blk 58 [.s 0]] a w) ?_ ?_
   · refine SC.r tk [(2, vp 1 0), (4, vp 3 0), (5, .f 48 [.p 2 0]), (6, .f 49 [.p 2 0]), (10, vi .i64 s_1.Kind), (11, vb (s_1.Kind == 1))] [] [] [] (by kernel_rfl) ?_
     refine SC.if' rfl hp (fun hp => ?_) (fun hp => ?_)
     · refine SC.skipJ fun a w h => ?_
       exact ⟨(s_1.Kind == 1), hp, h.at (js := [.g 0, .g 1, .g 3, .g 2]) (by kernel_rfl)⟩
     · refine SC.reg ?_
       refine SL.sim tk 2 [(2, vp 1 0), (4, vp 3 0), (5, .f 48 [.p 2 0]), (6, .f 49 [.p 2 0]), (10, vi .i64 s_1.Kind), (11, vb (s_1.Kind == 19))] [] [] [] (by kernel_rfl) ?_
       refine SL.nilJ fun a w h => ?_
       exact ⟨(s_1.Kind == 19), hp, h.at (js := [.g 0, .g 1, .g 3, .g 2]) (by kernel_rfl)⟩
   · rintro a w ⟨z_16, hp, h⟩
     refine h.go ?_
     refine SC.if' rfl hp (fun hp => ?_) (fun hp => ?_)
     · refine SC.reg ?_
       refine SL.sim tk 1 [(2, vp 1 0), (4, vp 2 0), (14, .f 48 [.p 3 0])] [] [] [] (by kernel_rfl) ?_
       obtain ⟨x_17, e_x_17, hp⟩ := bind_inv hp
       refine SL.eff (e_c Try.call48 (ok_signal_filled_1 F 0 l_2 _ e_x_17) [.g 3, .g 0] [vi .i64 0, vp 3 0] (vi .i64 x_17.1) (by kernel_rfl) (.inl rfl)) rfl (by kernel_rfl) ?_
       refine SL.sim tk 2 [(2, vp 1 0), (4, vp 2 0)] [(1, 26, (C_api_Signal ({ s_1 with Result := x_17.1 })))] [] [] (by kernel_rfl) ?_
       refine SL.nilJ fun a w h => ?_
       exact ⟨{ s_1 with Result := x_17.1 }, hp, h.at (js := [.g 0, .g 1, .g 2]) (by kernel_rfl)⟩
     · refine SC.cut (fun a w => ∃ (z_18 : Bool), signal_filled_j3 F s_1 l_2 z_18 = some r ∧ A 83 1 fx [(2, vp 1 0), (4, vp 2 0), (5, .f 48 [.p 3 0]), (6, .f 49 [.p 3 0]), (10, vi .i64 s_1.Kind), (17, vb z_18)] [.rd 1 (RInt .u64) l_2, .blk 26 (C_api_Signal s_1), .blk 26 (C_api_Signal (T_api_Signal.mk 0 0 0 0 0 0 0 0 0 (T_api_Update.mk 0 0 0 0 0))), .blk 58 [.s 0]] a w) ?_ ?_
       · refine SC.r tk [(2, vp 1 0), (4, vp 2 0), (5, .f 48 [.p 3 0]), (6, .f 49 [.p 3 0]), (10, vi .i64 s_1.Kind), (17, vb (s_1.Kind == 6))] [] [] [] (by kernel_rfl) ?_
         refine SC.if' rfl hp (fun hp => ?_) (fun hp => ?_)
         · refine SC.skipJ fun a w h => ?_
           exact ⟨(s_1.Kind == 6), hp, h.at (js := [.g 0, .g 1, .g 2, .g 3]) (by kernel_rfl)⟩
         · refine SC.reg ?_
           refine SL.sim tk 2 [(2, vp 1 0), (4, vp 2 0), (5, .f 48 [.p 3 0]), (6, .f 49 [.p 3 0]), (10, vi .i64 s_1.Kind), (17, vb (s_1.Kind == 7))] [] [] [] (by kernel_rfl) ?_
           refine SL.nilJ fun a w h => ?_
           exact ⟨(s_1.Kind == 7), hp, h.at (js := [.g 0, .g 1, .g 2, .g 3]) (by kernel_rfl)⟩
       · rintro a w ⟨z_18, hp, h⟩
         refine h.go ?_
         refine SC.if' rfl hp (fun hp => ?_) (fun hp => ?_)
         · refine SC.reg ?_
           refine SL.sim tk 1 [(2, vp 1 0), (4, vp 2 0), (6, .f 49 [.p 3 0]), (20, .f 49 [.p 3 0])] [] [] [] (by kernel_rfl) ?_
           obtain ⟨x_19, e_x_19, hp⟩ := bind_inv hp
           refine SL.eff (e_c Try.call49 (ok_signal_filled_2 F 0 l_2 _ e_x_19) [.g 3, .g 0] [vi .i64 0, vp 3 0] (vi .u16 x_19.1) (by kernel_rfl) (.inl rfl)) rfl (by kernel_rfl) ?_
           refine SL.sim tk 1 [(2, vp 1 0), (4, vp 2 0), (21, vi .u16 x_19.1), (22, .f 49 [.p 3 0])] [] [] [] (by kernel_rfl) ?_
           obtain ⟨x_20, e_x_20, hp⟩ := bind_inv hp
           refine SL.eff (e_c Try.call49 (ok_signal_filled_2 F 1 x_19.2 _ e_x_20) [.g 3, .g 4] [vi .i64 1, vp 3 0] (vi .u16 x_20.1) (by kernel_rfl) (.inl rfl)) rfl (by kernel_rfl) ?_
           refine SL.norm (itsN := [.rd 1 (RInt .u64) l_2, .blk 26 (C_api_Signal s_1), .blk 26 (C_api_Signal (T_api_Signal.mk 0 0 0 0 0 0 0 0 0 (T_api_Update.mk 0 0 0 0 0))), .blk 58 [.s 5], .rd 1 (RInt .u64) x_19.2, .rd 1 (RInt .u64) x_20.2]) (by kernel_rfl) ?_
           refine SL.sim tk 4 [(2, vp 1 0), (4, vp 2 0)] [(1, 26, (C_api_Signal ({ s_1 with Source := x_19.1, Dest := x_20.1 })))] [] [] (by kernel_rfl) ?_
           refine SL.nilJ fun a w h => ?_
           exact ⟨{ s_1 with Source := x_19.1, Dest := x_20.1 }, hp, h.at (js := [.g 0, .g 1, .g 2]) (by kernel_rfl)⟩
         · refine SC.r tk [(2, vp 1 0), (4, vp 2 0), (5, .f 48 [.p 3 0]), (6, .f 49 [.p 3 0]), (10, vi .i64 s_1.Kind), (26, vb (s_1.Kind == 18))] [] [] [] (by kernel_rfl) ?_
           refine SC.if' rfl hp (fun hp => ?_) (fun hp => ?_)
           · refine SC.reg ?_
             refine SL.sim tk 1 [(2, vp 1 0), (4, vp 2 0), (5, .f 48 [.p 3 0]), (28, .f 48 [.p 3 0])] [] [] [] (by kernel_rfl) ?_
             obtain ⟨x_21, e_x_21, hp⟩ := bind_inv hp
             refine SL.eff (e_c Try.call48 (ok_signal_filled_1 F 0 l_2 _ e_x_21) [.g 3, .g 0] [vi .i64 0, vp 3 0] (vi .i64 x_21.1) (by kernel_rfl) (.inl rfl)) rfl (by kernel_rfl) ?_
             refine SL.sim tk 1 [(2, vp 1 0), (4, vp 2 0), (5, .f 48 [.p 3 0]), (29, vi .i64 x_21.1), (30, .f 48 [.p 3 0])] [] [] [] (by kernel_rfl) ?_
             obtain ⟨x_22, e_x_22, hp⟩ := bind_inv hp
             refine SL.eff (e_c Try.call48 (ok_signal_filled_1 F 1 x_21.2 _ e_x_22) [.g 3, .g 4] [vi .i64 1, vp 3 0] (vi .i64 x_22.1) (by kernel_rfl) (.inl rfl)) rfl (by kernel_rfl) ?_
             refine SL.norm (itsN := [.rd 1 (RInt .u64) l_2, .blk 26 (C_api_Signal s_1), .blk 26 (C_api_Signal (T_api_Signal.mk 0 0 0 0 0 0 0 0 0 (T_api_Update.mk 0 0 0 0 0))), .blk 58 [.s 5], .rd 1 (RInt .u64) x_21.2, .rd 1 (RInt .u64) x_22.2]) (by kernel_rfl) ?_
             refine SL.sim tk 1 [(2, vp 1 0), (4, vp 2 0), (5, .f 48 [.p 3 0]), (29, vi .i64 x_21.1), (31, vi .i64 x_22.1), (32, .f 48 [.p 3 0])] [] [] [] (by kernel_rfl) ?_
             obtain ⟨x_23, e_x_23, hp⟩ := bind_inv hp
             refine SL.eff (e_c Try.call48 (ok_signal_filled_1 F 2 x_22.2 _ e_x_23) [.g 3, .g 5] [vi .i64 2, vp 3 0] (vi .i64 x_23.1) (by kernel_rfl) (.inl rfl)) rfl (by kernel_rfl) ?_
             refine SL.sim tk 1 [(2, vp 1 0), (4, vp 2 0), (5, .f 48 [.p 3 0]), (29, vi .i64 x_21.1), (31, vi .i64 x_22.1), (33, vi .i64 x_23.1), (34, .f 48 [.p 3 0])] [] [] [] (by kernel_rfl) ?_
             obtain ⟨x_24, e_x_24, hp⟩ := bind_inv hp
             refine SL.eff (e_c Try.call48 (ok_signal_filled_1 F 3 x_23.2 _ e_x_24) [.g 3, .g 6] [vi .i64 3, vp 3 0] (vi .i64 x_24.1) (by kernel_rfl) (.inl rfl)) rfl (by kernel_rfl) ?_
             refine SL.norm (itsN := [.rd 1 (RInt .u64) l_2, .blk 26 (C_api_Signal s_1), .blk 26 (C_api_Signal (T_api_Signal.mk 0 0 0 0 0 0 0 0 0 (T_api_Update.mk 0 0 0 0 0))), .blk 58 [.s 7], .rd 1 (RInt .u64) x_21.2, .rd 1 (RInt .u64) x_22.2, .rd 1 (RInt .u64) x_23.2, .rd 1 (RInt .u64) x_24.2]) (by kernel_rfl) ?_
             refine SL.sim tk 1 [(2, vp 1 0), (4, vp 2 0), (29, vi .i64 x_21.1), (31, vi .i64 x_22.1), (33, vi .i64 x_23.1), (35, vi .i64 x_24.1), (36, .f 48 [.p 3 0])] [] [] [] (by kernel_rfl) ?_
             obtain ⟨x_25, e_x_25, hp⟩ := bind_inv hp
             refine SL.eff (e_c Try.call48 (ok_signal_filled_1 F 4 x_24.2 _ e_x_25) [.g 3, .g 7] [vi .i64 4, vp 3 0] (vi .i64 x_25.1) (by kernel_rfl) (.inl rfl)) rfl (by kernel_rfl) ?_
             refine SL.sim tk 3 [(2, vp 1 0), (4, vp 2 0)] [(1, 26, (C_api_Signal ({ s_1 with Update := (T_api_Update.mk x_21.1 x_22.1 x_23.1 x_24.1 x_25.1) })))] [] [] (by kernel_rfl) ?_
             refine SL.nilJ fun a w h => ?_
             exact ⟨{ s_1 with Update := (T_api_Update.mk x_21.1 x_22.1 x_23.1 x_24.1 x_25.1) }, hp, h.at (js := [.g 0, .g 1, .g 2]) (by kernel_rfl)⟩
           · refine SC.r tk [(2, vp 1 0), (4, vp 2 0), (5, .f 48 [.p 3 0]), (6, .f 49 [.p 3 0]), (10, vi .i64 s_1.Kind), (40, vb (s_1.Kind == 20))] [] [] [] (by kernel_rfl) ?_
             refine SC.if' rfl hp (fun hp => ?_) (fun hp => ?_)
             · refine SC.reg ?_
               refine SL.sim tk 1 [(2, vp 1 0), (4, vp 2 0), (5, .f 48 [.p 3 0]), (6, .f 49 [.p 3 0]), (42, .f 49 [.p 3 0])] [] [] [] (by kernel_rfl) ?_
               obtain ⟨x_26, e_x_26, hp⟩ := bind_inv hp
               refine SL.eff (e_c Try.call49 (ok_signal_filled_2 F 0 l_2 _ e_x_26) [.g 3, .g 0] [vi .i64 0, vp 3 0] (vi .u16 x_26.1) (by kernel_rfl) (.inl rfl)) rfl (by kernel_rfl) ?_
               refine SL.sim tk 1 [(2, vp 1 0), (4, vp 2 0), (5, .f 48 [.p 3 0]), (43, vi .u16 x_26.1), (44, .f 49 [.p 3 0])] [] [] [] (by kernel_rfl) ?_
               obtain ⟨x_27, e_x_27, hp⟩ := bind_inv hp
               refine SL.eff (e_c Try.call49 (ok_signal_filled_2 F 1 x_26.2 _ e_x_27) [.g 3, .g 4] [vi .i64 1, vp 3 0] (vi .u16 x_27.1) (by kernel_rfl) (.inl rfl)) rfl (by kernel_rfl) ?_
               refine SL.norm (itsN := [.rd 1 (RInt .u64) l_2, .blk 26 (C_api_Signal s_1), .blk 26 (C_api_Signal (T_api_Signal.mk 0 0 0 0 0 0 0 0 0 (T_api_Update.mk 0 0 0 0 0))), .blk 58 [.s 5], .rd 1 (RInt .u64) x_26.2, .rd 1 (RInt .u64) x_27.2]) (by kernel_rfl) ?_
               refine SL.sim tk 1 [(2, vp 1 0), (4, vp 2 0), (5, .f 48 [.p 3 0]), (43, vi .u16 x_26.1), (45, vi .u16 x_27.1), (46, .f 48 [.p 3 0])] [] [] [] (by kernel_rfl) ?_
               obtain ⟨x_28, e_x_28, hp⟩ := bind_inv hp
               refine SL.eff (e_c Try.call48 (ok_signal_filled_1 F 2 x_27.2 _ e_x_28) [.g 3, .g 5] [vi .i64 2, vp 3 0] (vi .i64 x_28.1) (by kernel_rfl) (.inl rfl)) rfl (by kernel_rfl) ?_
               refine SL.sim tk 1 [(2, vp 1 0), (4, vp 2 0), (5, .f 48 [.p 3 0]), (43, vi .u16 x_26.1), (45, vi .u16 x_27.1), (47, vi .i64 x_28.1), (48, .f 48 [.p 3 0])] [] [] [] (by kernel_rfl) ?_
               obtain ⟨x_29, e_x_29, hp⟩ := bind_inv hp
               refine SL.eff (e_c Try.call48 (ok_signal_filled_1 F 3 x_28.2 _ e_x_29) [.g 3, .g 6] [vi .i64 3, vp 3 0] (vi .i64 x_29.1) (by kernel_rfl) (.inl rfl)) rfl (by kernel_rfl) ?_
               refine SL.norm (itsN := [.rd 1 (RInt .u64) l_2, .blk 26 (C_api_Signal s_1), .blk 26 (C_api_Signal (T_api_Signal.mk 0 0 0 0 0 0 0 0 0 (T_api_Update.mk 0 0 0 0 0))), .blk 58 [.s 7], .rd 1 (RInt .u64) x_26.2, .rd 1 (RInt .u64) x_27.2, .rd 1 (RInt .u64) x_28.2, .rd 1 (RInt .u64) x_29.2]) (by kernel_rfl) ?_
               refine SL.sim tk 1 [(2, vp 1 0), (4, vp 2 0), (43, vi .u16 x_26.1), (45, vi .u16 x_27.1), (47, vi .i64 x_28.1), (49, vi .i64 x_29.1), (50, .f 48 [.p 3 0])] [] [] [] (by kernel_rfl) ?_
               obtain ⟨x_30, e_x_30, hp⟩ := bind_inv hp
               refine SL.eff (e_c Try.call48 (ok_signal_filled_1 F 4 x_29.2 _ e_x_30) [.g 3, .g 7] [vi .i64 4, vp 3 0] (vi .i64 x_30.1) (by kernel_rfl) (.inl rfl)) rfl (by kernel_rfl) ?_
               refine SL.sim tk 10 [(2, vp 1 0), (4, vp 2 0)] [(1, 26, (C_api_Signal ({ s_1 with PSM := x_26.1, Source := x_27.1, MTU := x_28.1, MPS := x_29.1, Credits := x_30.1 })))] [] [] (by kernel_rfl) ?_
               refine SL.nilJ fun a w h => ?_
               exact ⟨{ s_1 with PSM := x_26.1, Source := x_27.1, MTU := x_28.1, MPS := x_29.1, Credits := x_30.1 }, hp, h.at (js := [.g 0, .g 1, .g 2]) (by kernel_rfl)⟩
             · refine SC.r tk [(2, vp 1 0), (4, vp 2 0), (5, .f 48 [.p 3 0]), (6, .f 49 [.p 3 0]), (10, vi .i64 s_1.Kind), (57, vb (s_1.Kind == 21))] [] [] [] (by kernel_rfl) ?_
               refine SC.if' rfl hp (fun hp => ?_) (fun hp => ?_)
               · refine SC.reg ?_
                 refine SL.sim tk 1 [(2, vp 1 0), (4, vp 2 0), (5, .f 48 [.p 3 0]), (59, .f 49 [.p 3 0])] [] [] [] (by kernel_rfl) ?_
                 obtain ⟨x_31, e_x_31, hp⟩ := bind_inv hp
                 refine SL.eff (e_c Try.call49 (ok_signal_filled_2 F 0 l_2 _ e_x_31) [.g 3, .g 0] [vi .i64 0, vp 3 0] (vi .u16 x_31.1) (by kernel_rfl) (.inl rfl)) rfl (by kernel_rfl) ?_
                 refine SL.sim tk 1 [(2, vp 1 0), (4, vp 2 0), (5, .f 48 [.p 3 0]), (60, vi .u16 x_31.1), (61, .f 48 [.p 3 0])] [] [] [] (by kernel_rfl) ?_
                 obtain ⟨x_32, e_x_32, hp⟩ := bind_inv hp
                 refine SL.eff (e_c Try.call48 (ok_signal_filled_1 F 1 x_31.2 _ e_x_32) [.g 3, .g 4] [vi .i64 1, vp 3 0] (vi .i64 x_32.1) (by kernel_rfl) (.inl rfl)) rfl (by kernel_rfl) ?_
                 refine SL.norm (itsN := [.rd 1 (RInt .u64) l_2, .blk 26 (C_api_Signal s_1), .blk 26 (C_api_Signal (T_api_Signal.mk 0 0 0 0 0 0 0 0 0 (T_api_Update.mk 0 0 0 0 0))), .blk 58 [.s 5], .rd 1 (RInt .u64) x_31.2, .rd 1 (RInt .u64) x_32.2]) (by kernel_rfl) ?_
                 refine SL.sim tk 1 [(2, vp 1 0), (4, vp 2 0), (5, .f 48 [.p 3 0]), (60, vi .u16 x_31.1), (62, vi .i64 x_32.1), (63, .f 48 [.p 3 0])] [] [] [] (by kernel_rfl) ?_
                 obtain ⟨x_33, e_x_33, hp⟩ := bind_inv hp
                 refine SL.eff (e_c Try.call48 (ok_signal_filled_1 F 2 x_32.2 _ e_x_33) [.g 3, .g 5] [vi .i64 2, vp 3 0] (vi .i64 x_33.1) (by kernel_rfl) (.inl rfl)) rfl (by kernel_rfl) ?_
                 refine SL.sim tk 1 [(2, vp 1 0), (4, vp 2 0), (5, .f 48 [.p 3 0]), (60, vi .u16 x_31.1), (62, vi .i64 x_32.1), (64, vi .i64 x_33.1), (65, .f 48 [.p 3 0])] [] [] [] (by kernel_rfl) ?_
                 obtain ⟨x_34, e_x_34, hp⟩ := bind_inv hp
                 refine SL.eff (e_c Try.call48 (ok_signal_filled_1 F 3 x_33.2 _ e_x_34) [.g 3, .g 6] [vi .i64 3, vp 3 0] (vi .i64 x_34.1) (by kernel_rfl) (.inl rfl)) rfl (by kernel_rfl) ?_
                 refine SL.norm (itsN := [.rd 1 (RInt .u64) l_2, .blk 26 (C_api_Signal s_1), .blk 26 (C_api_Signal (T_api_Signal.mk 0 0 0 0 0 0 0 0 0 (T_api_Update.mk 0 0 0 0 0))), .blk 58 [.s 7], .rd 1 (RInt .u64) x_31.2, .rd 1 (RInt .u64) x_32.2, .rd 1 (RInt .u64) x_33.2, .rd 1 (RInt .u64) x_34.2]) (by kernel_rfl) ?_
                 refine SL.sim tk 1 [(2, vp 1 0), (4, vp 2 0), (60, vi .u16 x_31.1), (62, vi .i64 x_32.1), (64, vi .i64 x_33.1), (66, vi .i64 x_34.1), (67, .f 48 [.p 3 0])] [] [] [] (by kernel_rfl) ?_
                 obtain ⟨x_35, e_x_35, hp⟩ := bind_inv hp
                 refine SL.eff (e_c Try.call48 (ok_signal_filled_1 F 4 x_34.2 _ e_x_35) [.g 3, .g 7] [vi .i64 4, vp 3 0] (vi .i64 x_35.1) (by kernel_rfl) (.inl rfl)) rfl (by kernel_rfl) ?_
                 refine SL.sim tk 10 [(2, vp 1 0), (4, vp 2 0)] [(1, 26, (C_api_Signal ({ s_1 with Source := x_31.1, MTU := x_32.1, MPS := x_33.1, Credits := x_34.1, Result := x_35.1 })))] [] [] (by kernel_rfl) ?_
                 refine SL.nilJ fun a w h => ?_
                 exact ⟨{ s_1 with Source := x_31.1, MTU := x_32.1, MPS := x_33.1, Credits := x_34.1, Result := x_35.1 }, hp, h.at (js := [.g 0, .g 1, .g 2]) (by kernel_rfl)⟩
               · refine SC.r tk [(2, vp 1 0), (4, vp 2 0), (5, .f 48 [.p 3 0]), (6, .f 49 [.p 3 0]), (74, vb (s_1.Kind == 22))] [] [] [] (by kernel_rfl) ?_
                 refine SC.if' rfl hp (fun hp => ?_) (fun hp => ?_)
                 · refine SC.reg ?_
                   refine SL.sim tk 1 [(2, vp 1 0), (4, vp 2 0), (5, .f 48 [.p 3 0]), (76, .f 49 [.p 3 0])] [] [] [] (by kernel_rfl) ?_
                   obtain ⟨x_36, e_x_36, hp⟩ := bind_inv hp
                   refine SL.eff (e_c Try.call49 (ok_signal_filled_2 F 0 l_2 _ e_x_36) [.g 3, .g 0] [vi .i64 0, vp 3 0] (vi .u16 x_36.1) (by kernel_rfl) (.inl rfl)) rfl (by kernel_rfl) ?_
                   refine SL.sim tk 1 [(2, vp 1 0), (4, vp 2 0), (77, vi .u16 x_36.1), (78, .f 48 [.p 3 0])] [] [] [] (by kernel_rfl) ?_
                   obtain ⟨x_37, e_x_37, hp⟩ := bind_inv hp
                   refine SL.eff (e_c Try.call48 (ok_signal_filled_1 F 1 x_36.2 _ e_x_37) [.g 3, .g 4] [vi .i64 1, vp 3 0] (vi .i64 x_37.1) (by kernel_rfl) (.inl rfl)) rfl (by kernel_rfl) ?_
                   refine SL.norm (itsN := [.rd 1 (RInt .u64) l_2, .blk 26 (C_api_Signal s_1), .blk 26 (C_api_Signal (T_api_Signal.mk 0 0 0 0 0 0 0 0 0 (T_api_Update.mk 0 0 0 0 0))), .blk 58 [.s 5], .rd 1 (RInt .u64) x_36.2, .rd 1 (RInt .u64) x_37.2]) (by kernel_rfl) ?_
                   refine SL.sim tk 4 [(2, vp 1 0), (4, vp 2 0)] [(1, 26, (C_api_Signal ({ s_1 with Source := x_36.1, Credits := x_37.1 })))] [] [] (by kernel_rfl) ?_
                   refine SL.nilJ fun a w h => ?_
                   exact ⟨{ s_1 with Source := x_36.1, Credits := x_37.1 }, hp, h.at (js := [.g 0, .g 1, .g 2]) (by kernel_rfl)⟩
                 · refine SC.skipJ fun a w h => ?_
                   exact ⟨s_1, hp, h.at (js := [.g 0, .g 1, .g 2]) (by kernel_rfl)⟩
 · rintro a w ⟨c_15, hp, h⟩
   refine h.go ?_
   refine SC.r tk [(4, vp 2 0)] [(2, 26, (C_api_Signal ({ c_15 with Kind := s_1.Kind, ID := s_1.ID })))] [] [] (by kernel_rfl) ?_
   obtain rfl := some_inv' hp
   exact SC.re (js := [.g 0]) tk (by kernel_rfl)

theorem ok_signal_Decode (F : Nat) (b_1 : (List Int)) (r : T_api_Signal × Int) (hp : signal_Decode F b_1 = some r) : Spec Try.prog 16 [vs 0] [.rd 1 R8 b_1] (.u [.inr (C_api_Signal (T_api_Signal.mk r.1.Kind r.1.ID r.1.PSM r.1.Source r.1.Dest r.1.MTU r.1.MPS r.1.Credits r.1.Result (T_api_Update.mk r.1.Update.WinSize r.1.Update.WinOffset r.1.Update.Interval r.1.Update.Latency r.1.Update.Timeout))), .inl (ci .i64 r.2)]) [.gone] := by
 refine Spec.enter Try.func16 rfl Try.ntmps16 rfl rfl fun fx => ?_
 refine SC.seq ?_
 refine SC.reg ?_
 refine SL.eff (e_alloc (E := 26) tk (C_api_Signal (T_api_Signal.mk 0 0 0 0 0 0 0 0 0 (T_api_Update.mk 0 0 0 0 0))) (by kernel_rfl)) rfl (by kernel_rfl) ?_
 refine SL.sim tk 1 [(0, vs 0), (2, vp 1 0)] [] [] [] (by kernel_rfl) ?_
 refine SL.nilThen ?_
 refine SC.seq ?_
 refine SC.r tk [(0, vs 0), (2, vp 1 0), (15, vb (decide ((len b_1) < 4)))] [] [] [] (by kernel_rfl) ?_
 refine SC.if' rfl hp (fun hp => ?_) (fun hp => ?_)
 · refine SC.r tk [(2, vp 1 0), (3, vi .i64 3)] [(1, 26, (C_api_Signal (T_api_Signal.mk 0 0 0 0 0 0 0 0 0 (T_api_Update.mk 0 0 0 0 0))))] [] [] (by kernel_rfl) ?_
   obtain rfl := some_inv' hp
   exact SC.re (js := [.g 0]) tk (by kernel_rfl)
 · refine SC.skipThen ?_
   refine SC.cut (fun a w => ∃ (c_4 : T_api_Signal), signal_Decode_j1 F b_1 c_4 = some r ∧ A 92 1 fx [(0, vs 0), (2, vp 1 0), (4, vp 2 0)] [.rd 1 R8 b_1, .blk 26 (C_api_Signal (T_api_Signal.mk 0 0 0 0 0 0 0 0 0 (T_api_Update.mk 0 0 0 0 0))), .blk 26 (C_api_Signal ({ c_4 with PSM := 0, Source := 0, Dest := 0, MTU := 0, MPS := 0, Credits := 0, Result := 0, Update := (T_api_Update.mk 0 0 0 0 0) }))] a w) ?_ ?_
   · obtain ⟨x_30, e_x_30, hp⟩ := bind_inv hp
     obtain ⟨x_31, e_x_31, hp⟩ := bind_inv hp
     refine SC.pre (pre_ix (i := 0) (iv := 0) (sz := 1) (R := R8) (l := b_1) (by kernel_rfl) rfl e_x_30) ?_
     refine SC.pre (pre_ix (i := 0) (iv := 1) (sz := 1) (R := R8) (l := b_1) (by kernel_rfl) rfl e_x_31) ?_
     refine SC.draw MO [true, true, true, true] (by kernel_rfl) fun kap_32 D_33 => ?_
     refine SD.takes tk D_33 [] kn0 [0, 1, 2, 3, 4, 5, 6, 7, 8] [.el 2, .el 3] [0, 1] [true, true, true, true, true, true, true, true, true, false, false] [(0, vs 0), (2, vp 1 0), (25, .g (C_api_Signal (T_api_Signal.mk (w64 x_30) (w64 x_31) 0 0 0 0 0 0 0 (T_api_Update.mk 0 0 0 0 0))))] rfl (by kernel_rfl) (by kernel_rfl) (by kernel_rfl) ?_
     refine SD.all1 (i := 9) (by kernel_rfl) ?_
     refine SW.eff D_33 (i := 9) (bs' := [true, true, true, true, true, true, true, true, true, true, false]) rfl (.inl rfl) rfl (e_alloc (E := 26) tk (C_api_Signal (T_api_Signal.mk 0 0 0 0 0 0 0 0 0 (T_api_Update.mk 0 0 0 0 0))) (by kernel_rfl)) (by kernel_rfl) rfl (by kernel_rfl) ?_
     refine SD.all1 (i := 10) (by kernel_rfl) ?_
     refine SW.store D_33 tk (i := 10) (q := 4) (T := 26) (cs := (C_api_Signal (T_api_Signal.mk (w64 x_30) (w64 x_31) 0 0 0 0 0 0 0 (T_api_Update.mk 0 0 0 0 0)))) (bs' := [true, true, true, true, true, true, true, true, true, true, true]) rfl (by kernel_rfl) rfl rfl (by kernel_rfl) ?_
     refine SD.norm (itsN := [.rd 1 R8 b_1, .blk 26 (C_api_Signal (T_api_Signal.mk 0 0 0 0 0 0 0 0 0 (T_api_Update.mk 0 0 0 0 0))), .elt (some (0, 0)) false [ci .u8 x_30], .elt (some (0, 1)) false [ci .u8 x_31], .blk 26 (C_api_Signal (T_api_Signal.mk (w64 x_30) (w64 x_31) 0 0 0 0 0 0 0 (T_api_Update.mk 0 0 0 0 0)))]) (by kernel_rfl) ?_
     refine SD.done (by kernel_rfl) fun a w h => ?_
     exact ⟨(T_api_Signal.mk (w64 x_30) (w64 x_31) 0 0 0 0 0 0 0 (T_api_Update.mk 0 0 0 0 0)), hp, h.at (js := [.g 0, .g 1, .g 4]) (by kernel_rfl)⟩
   · rintro a w ⟨c_4, hp, h⟩
     refine h.go ?_
     refine SC.cut (fun a w => ∃ (x_5 : Int), signal_Decode_j2 F b_1 c_4 x_5 = some r ∧ A 92 1 fx [(0, vs 0), (2, vp 1 0), (4, vp 2 0), (5, vi .i64 x_5), (6, vi .i64 0)] [.rd 1 R8 b_1, .blk 26 (C_api_Signal (T_api_Signal.mk 0 0 0 0 0 0 0 0 0 (T_api_Update.mk 0 0 0 0 0))), .blk 26 (C_api_Signal ({ c_4 with PSM := 0, Source := 0, Dest := 0, MTU := 0, MPS := 0, Credits := 0, Result := 0, Update := (T_api_Update.mk 0 0 0 0 0) }))] a w) ?_ ?_
     · obtain ⟨x_25, e_x_25, hp⟩ := bind_inv hp
       obtain ⟨x_26, e_x_26, hp⟩ := bind_inv hp
       refine SC.pre (pre_ix (i := 0) (iv := 2) (sz := 1) (R := R8) (l := b_1) (by kernel_rfl) rfl e_x_25) ?_
       refine SC.pre (pre_ix (i := 0) (iv := 3) (sz := 1) (R := R8) (l := b_1) (by kernel_rfl) rfl e_x_26) ?_
       refine SC.draw MO [true, true, true, true, true] (by kernel_rfl) fun kap_27 D_28 => ?_
       obtain ⟨x_29, e_x_29, hp⟩ := bind_inv hp
       refine SD.takes tk D_28 [] kn0 [0, 1, 2, 3, 4, 5, 6, 7, 8, 9, 10, 11] [.el 3, .el 4, .bin .shl .i64 (w64 x_26) 8 x_29 e_x_29] [2, 3, w64 x_26, 8] [true, true, true, true, true, true, true, true, true, true, true, true] [(0, vs 0), (2, vp 1 0), (4, vp 2 0), (5, vi .i64 (ior .i64 (w64 x_25) x_29)), (6, vi .i64 0)] rfl (by kernel_rfl) (by kernel_rfl) (by kernel_rfl) ?_
       refine SD.done (by kernel_rfl) fun a w h => ?_
       exact ⟨ior .i64 (w64 x_25) x_29, hp, h.at (js := [.g 0, .g 1, .g 2]) (by kernel_rfl)⟩
     · rintro a w ⟨x_5, hp, h⟩
       refine h.go ?_
       refine SC.cut (fun a w => ∃ (x_6 : Int), signal_Decode_j3 F b_1 c_4 x_5 x_6 = some r ∧ A 92 1 fx [(0, vs 0), (2, vp 1 0), (4, vp 2 0), (5, vi .i64 x_5), (6, vi .i64 x_6)] [.rd 1 R8 b_1, .blk 26 (C_api_Signal (T_api_Signal.mk 0 0 0 0 0 0 0 0 0 (T_api_Update.mk 0 0 0 0 0))), .blk 26 (C_api_Signal ({ c_4 with PSM := 0, Source := 0, Dest := 0, MTU := 0, MPS := 0, Credits := 0, Result := 0, Update := (T_api_Update.mk 0 0 0 0 0) }))] a w) ?_ ?_
       · refine SC.seq ?_
         refine SC.reg ?_
         refine SL.sim tk 2 [(0, vs 0), (2, vp 1 0), (4, vp 2 0), (5, vi .i64 x_5), (6, vi .i64 0), (37, vi .i64 c_4.Kind)] [] [] [] (by kernel_rfl) ?_
         obtain ⟨x_21, e_x_21, hp⟩ := bind_inv hp
         refine SL.eff (e_c Try.call30 (ok_signal_sizes F c_4.Kind _ e_x_21) [] [vi .i64 c_4.Kind] (vs 3) (by kernel_rfl) (.inl rfl)) rfl (by kernel_rfl) ?_
         refine SL.sim tk 2 [(0, vs 0), (2, vp 1 0), (4, vp 2 0), (5, vi .i64 x_5), (6, vi .i64 0), (38, vs 3), (39, vi .i64 (len x_21)), (40, vi .i64 0)] [] [] [] (by kernel_rfl) ?_
         refine SL.nilThen ?_
         refine SC.block ?_
         obtain ⟨o1, hi1, ho1⟩ := bind_inv hp
         clear hp
         refine SC.loop (fun n a w => ∃ (x_22 : Int) (x_23 : Int), iter (fun s => signal_Decode_l1 F x_21 s.1 s.2) n (x_22, x_23) = some o1 ∧ A 92 1 fx [(0, vs 0), (2, vp 1 0), (4, vp 2 0), (5, vi .i64 x_5), (6, vi .i64 x_22), (38, vs 3), (39, vi .i64 (len x_21)), (40, vi .i64 x_23)] [.rd 1 R8 b_1, .blk 26 (C_api_Signal (T_api_Signal.mk 0 0 0 0 0 0 0 0 0 (T_api_Update.mk 0 0 0 0 0))), .blk 26 (C_api_Signal ({ c_4 with PSM := 0, Source := 0, Dest := 0, MTU := 0, MPS := 0, Credits := 0, Result := 0, Update := (T_api_Update.mk 0 0 0 0 0) })), .rd 1 (RInt .i64) x_21] a w) F (fun a w h => ⟨0, 0, hi1, h.at (js := [.g 0, .g 1, .g 2, .g 3]) (by kernel_rfl)⟩) ?_
         rintro n1 a w ⟨x_22, x_23, hi1, h⟩
         obtain ⟨n1, q1, rfl, hp, hs1⟩ := iter_inv hi1
         replace hp : signal_Decode_l1 F x_21 x_22 x_23 = some q1 := hp
         clear hi1
         refine h.go ?_
         refine SC.r tk [(0, vs 0), (2, vp 1 0), (4, vp 2 0), (5, vi .i64 x_5), (6, vi .i64 x_22), (38, vs 3), (39, vi .i64 (len x_21)), (40, vi .i64 x_23), (41, vb (decide (x_23 < (len x_21))))] [] [] [] (by kernel_rfl) ?_
         refine SC.seq ?_
         refine SC.if' rfl hp (fun hp => ?_) (fun hp => ?_)
         · refine SC.skipThen ?_
           refine SC.seq ?_
           refine SC.block ?_
           obtain ⟨x_24, e_x_24, hp⟩ := bind_inv hp
           refine SC.pre (pre_ix (i := 3) (iv := x_23) (sz := 1) (R := (RInt .i64)) (l := x_21) (by kernel_rfl) rfl e_x_24) ?_
           refine SC.r tk [(0, vs 0), (2, vp 1 0), (4, vp 2 0), (5, vi .i64 x_5), (6, vi .i64 x_22), (8, vi .i64 x_24), (38, vs 3), (39, vi .i64 (len x_21)), (40, vi .i64 x_23)] [] [.el 4] [x_23] (by kernel_rfl) ?_
           refine SC.reg ?_
           refine SL.sim tk 4 [(0, vs 0), (2, vp 1 0), (4, vp 2 0), (5, vi .i64 x_5), (6, vi .i64 (w64 (x_22 + x_24))), (38, vs 3), (39, vi .i64 (len x_21)), (40, vi .i64 x_23)] [] [] [] (by kernel_rfl) ?_
           refine SL.nilThen ?_
           refine SC.reg ?_
           refine SL.sim tk 2 [(0, vs 0), (2, vp 1 0), (4, vp 2 0), (5, vi .i64 x_5), (6, vi .i64 (w64 (x_22 + x_24))), (38, vs 3), (39, vi .i64 (len x_21)), (40, vi .i64 (w64 (x_23 + 1)))] [] [] [] (by kernel_rfl) ?_
           refine SL.nilJ fun a w h => ?_
           exact ⟨n1, Nat.lt_succ_self _, w64 (x_22 + x_24), w64 (x_23 + 1), next_inv hp hs1, h.at (js := [.g 0, .g 1, .g 2, .g 3]) (by kernel_rfl)⟩
         · refine SC.exitJ rfl fun a w h => ?_
           have ho := done_inv hp hs1
           replace hp := ho1
           try rw [ho] at hp
           exact ⟨x_22, hp, h.at (js := [.g 0, .g 1, .g 2]) (by kernel_rfl)⟩
       · rintro a w ⟨x_6, hp, h⟩
         refine h.go ?_
         refine SC.seq ?_
         refine SC.block ?_
         refine SC.seq ?_
         refine SC.reg ?_
         refine SL.sim tk 2 [(0, vs 0), (2, vp 1 0), (4, vp 2 0), (5, vi .i64 x_5), (6, vi .i64 x_6), (50, vi .i64 c_4.Kind)] [] [] [] (by kernel_rfl) ?_
         obtain ⟨x_7, e_x_7, hp⟩ := bind_inv hp
         refine SL.eff (e_c Try.call20 (ok_signal_known F c_4.Kind _ e_x_7) [] [vi .i64 c_4.Kind] (vb x_7) (by kernel_rfl) (.inl rfl)) rfl (by kernel_rfl) ?_
         refine SL.sim tk 2 [(0, vs 0), (2, vp 1 0), (4, vp 2 0), (5, vi .i64 x_5), (6, vi .i64 x_6), (48, vb (!x_7))] [] [] [] (by kernel_rfl) ?_
         refine SL.nilThen ?_
         refine SC.if' rfl hp (fun hp => ?_) (fun hp => ?_)
         · refine SC.r tk [(2, vp 1 0), (3, vi .i64 12)] [(1, 26, (C_api_Signal (T_api_Signal.mk 0 0 0 0 0 0 0 0 0 (T_api_Update.mk 0 0 0 0 0))))] [] [] (by kernel_rfl) ?_
           obtain rfl := some_inv' hp
           exact SC.re (js := [.g 0]) tk (by kernel_rfl)
         · refine SC.r tk [(0, vs 0), (2, vp 1 0), (4, vp 2 0), (5, vi .i64 x_5), (6, vi .i64 x_6), (54, vb (c_4.ID == 0))] [] [] [] (by kernel_rfl) ?_
           refine SC.if' rfl hp (fun hp => ?_) (fun hp => ?_)
           · refine SC.r tk [(2, vp 1 0), (3, vi .i64 5)] [(1, 26, (C_api_Signal (T_api_Signal.mk 0 0 0 0 0 0 0 0 0 (T_api_Update.mk 0 0 0 0 0))))] [] [] (by kernel_rfl) ?_
             obtain rfl := some_inv' hp
             exact SC.re (js := [.g 0]) tk (by kernel_rfl)
           · refine SC.r tk [(0, vs 0), (2, vp 1 0), (4, vp 2 0), (59, vb (x_5 != x_6))] [] [] [] (by kernel_rfl) ?_
             refine SC.if' rfl hp (fun hp => ?_) (fun hp => ?_)
             · refine SC.r tk [(2, vp 1 0), (3, vi .i64 2)] [(1, 26, (C_api_Signal (T_api_Signal.mk 0 0 0 0 0 0 0 0 0 (T_api_Update.mk 0 0 0 0 0))))] [] [] (by kernel_rfl) ?_
               obtain rfl := some_inv' hp
               exact SC.re (js := [.g 0]) tk (by kernel_rfl)
             · refine SC.skipThen ?_
               refine SC.cut (fun a w => ∃ (l_8 : (List Int)) (l_9 : (List Int)) (x_10 : Int), signal_Decode_j4 F c_4 l_8 l_9 x_10 = some r ∧ A 92 1 fx [(2, vp 1 0), (4, vp 2 0), (9, vs 3), (10, vs 4), (11, vi .i64 x_10)] [.gone, .blk 26 (C_api_Signal (T_api_Signal.mk 0 0 0 0 0 0 0 0 0 (T_api_Update.mk 0 0 0 0 0))), .blk 26 (C_api_Signal ({ c_4 with PSM := 0, Source := 0, Dest := 0, MTU := 0, MPS := 0, Credits := 0, Result := 0, Update := (T_api_Update.mk 0 0 0 0 0) })), .rd 1 (RInt .u64) l_8, .rd 1 R8 l_9] a w) ?_ ?_
               · refine SC.draw MO [true, true, true] (by kernel_rfl) fun kap_13 D_14 => ?_
                 refine SD.takes tk D_14 [] kn0 [0, 2, 3] [] [] [true, false, true, true, false, false, false, false, false, false, false, false, false] [(2, vp 1 0), (4, vp 2 0), (65, vs 0), (68, vi .i64 c_4.Kind)] rfl (by kernel_rfl) (by kernel_rfl) (by kernel_rfl) ?_
                 refine SD.all2 (i := 1) (j := 4) (by kernel_rfl) ?_ ?_
                 · obtain ⟨l_15, e_l_15, hp⟩ := bind_inv hp
                   refine SW.eff D_14 (i := 1) (bs' := [true, true, true, true, false, false, false, false, false, false, false, false, false]) rfl (.inl rfl) rfl (e_sub (sz := 1) (E := 5) (R := R8) (by_ := 1) (l := b_1) tk rfl (.inl ⟨0, rfl, (by kernel_rfl)⟩) rfl rfl e_l_15 (by kernel_rfl)) (by kernel_rfl) rfl (by kernel_rfl) ?_
                   refine SD.norm (itsN := [.rd 1 R8 b_1, .blk 26 (C_api_Signal (T_api_Signal.mk 0 0 0 0 0 0 0 0 0 (T_api_Update.mk 0 0 0 0 0))), .blk 26 (C_api_Signal ({ c_4 with PSM := 0, Source := 0, Dest := 0, MTU := 0, MPS := 0, Credits := 0, Result := 0, Update := (T_api_Update.mk 0 0 0 0 0) })), .rd 1 R8 l_15]) (by kernel_rfl) ?_
                   obtain ⟨x_16, e_x_16, hp⟩ := bind_inv hp
                   refine SD.all1 (i := 4) (by kernel_rfl) ?_
                   refine SW.eff D_14 (i := 4) (bs' := [true, true, true, true, true, false, false, false, false, false, false, false, false]) rfl (.inl rfl) rfl (e_c Try.call30 (ok_signal_sizes F c_4.Kind _ e_x_16) [] [vi .i64 c_4.Kind] (vs 4) (by kernel_rfl) (.inl rfl)) (by kernel_rfl) rfl (by kernel_rfl) ?_
                   obtain ⟨x_17, e_x_17, hp⟩ := bind_inv hp
                   refine SD.all1 (i := 5) (by kernel_rfl) ?_
                   refine SW.eff D_14 (i := 5) (bs' := [true, true, true, true, true, true, false, false, false, false, false, false, false]) rfl (.inl rfl) rfl (e_c Try.call35 (ok_octets_Take F l_15 x_16 _ e_x_17) [.g 3, .g 4] [vs 3, vs 4] (.u [.inl (.s 5), .inl (.s 6), .inl (ci .i64 x_17.2.2)]) (by kernel_rfl) (.inl rfl)) (by kernel_rfl) rfl (by kernel_rfl) ?_
                   refine SD.norm (itsN := [.rd 1 R8 b_1, .blk 26 (C_api_Signal (T_api_Signal.mk 0 0 0 0 0 0 0 0 0 (T_api_Update.mk 0 0 0 0 0))), .blk 26 (C_api_Signal ({ c_4 with PSM := 0, Source := 0, Dest := 0, MTU := 0, MPS := 0, Credits := 0, Result := 0, Update := (T_api_Update.mk 0 0 0 0 0) })), .rd 1 R8 l_15, .rd 1 (RInt .i64) x_16, .rd 1 (RInt .u64) x_17.1, .rd 1 R8 x_17.2.1]) (by kernel_rfl) ?_
                   refine SD.takes tk D_14 [] kn0 [6, 7, 8, 9, 10, 11, 12] [] [] [true, true, true, true, true, true, true, true, true, true, true, true, true] [(2, vp 1 0), (4, vp 2 0), (9, vs 5), (10, vs 6), (11, vi .i64 x_17.2.2)] rfl (by kernel_rfl) (by kernel_rfl) (by kernel_rfl) ?_
                   refine SD.done (by kernel_rfl) fun a w h => ?_
                   exact ⟨x_17.1, x_17.2.1, x_17.2.2, hp, h.at (js := [.g 0, .g 1, .g 2, .g 5, .g 6]) (by kernel_rfl)⟩
                 · replace hp := bind_swap hp
                   obtain ⟨x_18, e_x_18, hp⟩ := bind_inv hp
                   refine SW.eff D_14 (i := 4) (bs' := [true, false, true, true, true, false, false, false, false, false, false, false, false]) rfl (.inl rfl) rfl (e_c Try.call30 (ok_signal_sizes F c_4.Kind _ e_x_18) [] [vi .i64 c_4.Kind] (vs 3) (by kernel_rfl) (.inl rfl)) (by kernel_rfl) rfl (by kernel_rfl) ?_
                   refine SD.norm (itsN := [.rd 1 R8 b_1, .blk 26 (C_api_Signal (T_api_Signal.mk 0 0 0 0 0 0 0 0 0 (T_api_Update.mk 0 0 0 0 0))), .blk 26 (C_api_Signal ({ c_4 with PSM := 0, Source := 0, Dest := 0, MTU := 0, MPS := 0, Credits := 0, Result := 0, Update := (T_api_Update.mk 0 0 0 0 0) })), .rd 1 (RInt .i64) x_18]) (by kernel_rfl) ?_
                   obtain ⟨l_19, e_l_19, hp⟩ := bind_inv hp
                   refine SD.all1 (i := 1) (by kernel_rfl) ?_
                   refine SW.eff D_14 (i := 1) (bs' := [true, true, true, true, true, false, false, false, false, false, false, false, false]) rfl (.inl rfl) rfl (e_sub (sz := 1) (E := 5) (R := R8) (by_ := 1) (l := b_1) tk rfl (.inl ⟨0, rfl, (by kernel_rfl)⟩) rfl rfl e_l_19 (by kernel_rfl)) (by kernel_rfl) rfl (by kernel_rfl) ?_
                   obtain ⟨x_20, e_x_20, hp⟩ := bind_inv hp
                   refine SD.all1 (i := 5) (by kernel_rfl) ?_
                   refine SW.eff D_14 (i := 5) (bs' := [true, true, true, true, true, true, false, false, false, false, false, false, false]) rfl (.inl rfl) rfl (e_c Try.call35 (ok_octets_Take F l_19 x_18 _ e_x_20) [.g 4, .g 3] [vs 4, vs 3] (.u [.inl (.s 5), .inl (.s 6), .inl (ci .i64 x_20.2.2)]) (by kernel_rfl) (.inl rfl)) (by kernel_rfl) rfl (by kernel_rfl) ?_
                   refine SD.norm (itsN := [.rd 1 R8 b_1, .blk 26 (C_api_Signal (T_api_Signal.mk 0 0 0 0 0 0 0 0 0 (T_api_Update.mk 0 0 0 0 0))), .blk 26 (C_api_Signal ({ c_4 with PSM := 0, Source := 0, Dest := 0, MTU := 0, MPS := 0, Credits := 0, Result := 0, Update := (T_api_Update.mk 0 0 0 0 0) })), .rd 1 (RInt .i64) x_18, .rd 1 R8 l_19, .rd 1 (RInt .u64) x_20.1, .rd 1 R8 x_20.2.1]) (by kernel_rfl) ?_
                   refine SD.takes tk D_14 [] kn0 [6, 7, 8, 9, 10, 11, 12] [] [] [true, true, true, true, true, true, true, true, true, true, true, true, true] [(2, vp 1 0), (4, vp 2 0), (9, vs 5), (10, vs 6), (11, vi .i64 x_20.2.2)] rfl (by kernel_rfl) (by kernel_rfl) (by kernel_rfl) ?_
                   refine SD.done (by kernel_rfl) fun a w h => ?_
                   exact ⟨x_20.1, x_20.2.1, x_20.2.2, hp, h.at (js := [.g 0, .g 1, .g 2, .g 5, .g 6]) (by kernel_rfl)⟩
               · rintro a w ⟨l_8, l_9, x_10, hp, h⟩
                 refine h.go ?_
                 refine SC.seq ?_
                 refine SC.r tk [(2, vp 1 0), (4, vp 2 0), (9, vs 3), (10, vs 4), (11, vi .i64 x_10), (75, vb (x_10 != 0))] [] [] [] (by kernel_rfl) ?_
                 refine SC.if' rfl hp (fun hp => ?_) (fun hp => ?_)
                 · refine SC.r tk [(2, vp 1 0), (3, vi .i64 x_10)] [(1, 26, (C_api_Signal (T_api_Signal.mk 0 0 0 0 0 0 0 0 0 (T_api_Update.mk 0 0 0 0 0))))] [] [] (by kernel_rfl) ?_
                   obtain rfl := some_inv' hp
                   exact SC.re (js := [.g 0]) tk (by kernel_rfl)
                 · refine SC.skipThen ?_
                   refine SC.seq ?_
                   refine SC.r tk [(2, vp 1 0), (4, vp 2 0), (9, vs 3), (80, vb (decide ((len l_9) > 0)))] [] [] [] (by kernel_rfl) ?_
                   refine SC.if' rfl hp (fun hp => ?_) (fun hp => ?_)
                   · refine SC.r tk [(2, vp 1 0), (3, vi .i64 2)] [(1, 26, (C_api_Signal (T_api_Signal.mk 0 0 0 0 0 0 0 0 0 (T_api_Update.mk 0 0 0 0 0))))] [] [] (by kernel_rfl) ?_
                     obtain rfl := some_inv' hp
                     exact SC.re (js := [.g 0]) tk (by kernel_rfl)
                   · refine SC.skipThen ?_
                     refine SC.seq ?_
                     refine SC.reg ?_
                     refine SL.sim tk 2 [(2, vp 1 0), (4, vp 2 0), (82, .g (C_api_Signal ({ c_4 with PSM := 0, Source := 0, Dest := 0, MTU := 0, MPS := 0, Credits := 0, Result := 0, Update := (T_api_Update.mk 0 0 0 0 0) }))), (83, vs 3)] [] [] [] (by kernel_rfl) ?_
                     obtain ⟨x_11, e_x_11, hp⟩ := bind_inv hp
                     refine SL.eff (e_c Try.call36 (ok_signal_filled F ({ c_4 with PSM := 0, Source := 0, Dest := 0, MTU := 0, MPS := 0, Credits := 0, Result := 0, Update := (T_api_Update.mk 0 0 0 0 0) }) l_8 _ e_x_11) [.g 3] [.g (C_api_Signal ({ c_4 with PSM := 0, Source := 0, Dest := 0, MTU := 0, MPS := 0, Credits := 0, Result := 0, Update := (T_api_Update.mk 0 0 0 0 0) })), vs 3] (.g (C_api_Signal x_11)) (by kernel_rfl) (.inl rfl)) rfl (by kernel_rfl) ?_
                     refine SL.sim tk 1 [(2, vp 1 0), (4, vp 2 0)] [(2, 26, (C_api_Signal x_11))] [] [] (by kernel_rfl) ?_
                     refine SL.nilThen ?_
                     refine SC.seq ?_
                     refine SC.seq ?_
                     refine SC.reg ?_
                     refine SL.sim tk 1 [(2, vp 1 0), (4, vp 2 0), (85, .g (C_api_Signal x_11))] [] [] [] (by kernel_rfl) ?_
                     obtain ⟨x_12, e_x_12, hp⟩ := bind_inv hp
                     refine SL.eff (e_c Try.call10 (ok_signal_Check F x_11 _ e_x_12) [] [.g (C_api_Signal x_11)] (vi .i64 x_12) (by kernel_rfl) (.inl rfl)) rfl (by kernel_rfl) ?_
                     refine SL.norm (itsN := [.gone, .blk 26 (C_api_Signal (T_api_Signal.mk 0 0 0 0 0 0 0 0 0 (T_api_Update.mk 0 0 0 0 0))), .blk 26 (C_api_Signal x_11), .rd 1 (RInt .u64) l_8, .rd 1 R8 l_9]) (by kernel_rfl) ?_
                     refine SL.sim tk 1 [(2, vp 1 0), (4, vp 2 0), (12, vi .i64 x_12)] [] [] [] (by kernel_rfl) ?_
                     refine SL.nilThen ?_
                     refine SC.r tk [(2, vp 1 0), (4, vp 2 0), (12, vi .i64 x_12), (88, vb (x_12 != 0))] [] [] [] (by kernel_rfl) ?_
                     refine SC.if' rfl hp (fun hp => ?_) (fun hp => ?_)
                     · refine SC.r tk [(2, vp 1 0), (3, vi .i64 x_12)] [(1, 26, (C_api_Signal (T_api_Signal.mk 0 0 0 0 0 0 0 0 0 (T_api_Update.mk 0 0 0 0 0))))] [] [] (by kernel_rfl) ?_
                       obtain rfl := some_inv' hp
                       exact SC.re (js := [.g 0]) tk (by kernel_rfl)
                     · refine SC.skipThen ?_
                       refine SC.r tk [(2, vp 1 0), (3, vi .i64 0)] [(1, 26, (C_api_Signal x_11))] [] [] (by kernel_rfl) ?_
                       obtain rfl := some_inv' hp
                       exact SC.re (js := [.g 0]) tk (by kernel_rfl)

theorem ok_wirelessref23_Same (F : Nat) (a_1 : (List Int)) (b_2 : (List Int)) (r : Bool) (hp : wirelessref23_Same F a_1 b_2 = some r) : Spec Try.prog 15 [vs 0, vs 1] [.rd 1 R8 a_1, .rd 1 R8 b_2] (vb r) [.gone, .gone] := by
 refine Spec.enter Try.func15 rfl Try.ntmps15 rfl rfl fun fx => ?_
 refine SC.r tk [(0, vs 0), (1, vs 1)] [] [] [] (by kernel_rfl) ?_
 refine SC.seq ?_
 refine SC.reg ?_
 refine SL.sim tk 1 [(1, vs 1), (5, vs 0)] [] [] [] (by kernel_rfl) ?_
 refine SL.eff (e_b2s (l := a_1) tk rfl (.r (by kernel_rfl)) (by kernel_rfl)) rfl (by kernel_rfl) ?_
 refine SL.sim tk 1 [(6, vt 2), (7, vs 1)] [] [] [] (by kernel_rfl) ?_
 refine SL.eff (e_b2s (l := b_2) tk rfl (.r (by kernel_rfl)) (by kernel_rfl)) rfl (by kernel_rfl) ?_
 refine SL.sim tk 2 [(4, vb ((str a_1) == (str b_2)))] [] [] [] (by kernel_rfl) ?_
 refine SL.nilThen ?_
 obtain rfl := some_inv' hp
 exact SC.re (js := [.g 0, .g 1]) tk (by kernel_rfl)

theorem ok_wirelesslaw34_exampleHolds (F : Nat) (r : Bool) (hp : wirelesslaw34_exampleHolds F = some r) : Spec Try.prog 12 [] [] (vb r) [] := by
 refine Spec.enter Try.func12 rfl Try.ntmps12 rfl rfl fun fx => ?_
 refine SC.r tk [] [] [] [] (by kernel_rfl) ?_
 refine SC.seq ?_
 refine SC.reg ?_
 refine SL.sim tk 1 [(12, .g (C_api_Signal (T_api_Signal.mk 22 3 0 64 0 0 0 5 0 (T_api_Update.mk 0 0 0 0 0))))] [] [] [] (by kernel_rfl) ?_
 obtain ⟨x_1, e_x_1, hp⟩ := bind_inv hp
 refine SL.eff (e_c Try.call13 (ok_signal_Encode F (T_api_Signal.mk 22 3 0 64 0 0 0 5 0 (T_api_Update.mk 0 0 0 0 0)) _ e_x_1) [] [.g (C_api_Signal (T_api_Signal.mk 22 3 0 64 0 0 0 5 0 (T_api_Update.mk 0 0 0 0 0)))] (.u [.inl (.s 0), .inl (ci .i64 x_1.2)]) (by kernel_rfl) (.inl rfl)) rfl (by kernel_rfl) ?_
 refine SL.sim tk 5 [(1, vs 0), (2, vi .i64 x_1.2)] [] [] [] (by kernel_rfl) ?_
 refine SL.nilThen ?_
 refine SC.seq ?_
 refine SC.reg ?_
 refine SL.sim tk 1 [(1, vs 0), (2, vi .i64 x_1.2), (17, .g (C_api_Signal (T_api_Signal.mk 21 1 0 0 0 0 0 0 2 (T_api_Update.mk 0 0 0 0 0))))] [] [] [] (by kernel_rfl) ?_
 obtain ⟨x_2, e_x_2, hp⟩ := bind_inv hp
 refine SL.eff (e_c Try.call13 (ok_signal_Encode F (T_api_Signal.mk 21 1 0 0 0 0 0 0 2 (T_api_Update.mk 0 0 0 0 0)) _ e_x_2) [] [.g (C_api_Signal (T_api_Signal.mk 21 1 0 0 0 0 0 0 2 (T_api_Update.mk 0 0 0 0 0)))] (.u [.inl (.s 1), .inl (ci .i64 x_2.2)]) (by kernel_rfl) (.inl rfl)) rfl (by kernel_rfl) ?_
 refine SL.norm (itsN := [.rd 1 R8 x_1.1, .rd 1 R8 x_2.1]) (by kernel_rfl) ?_
 refine SL.sim tk 5 [(1, vs 0), (2, vi .i64 x_1.2), (3, vs 1), (4, vi .i64 x_2.2)] [] [] [] (by kernel_rfl) ?_
 refine SL.nilThen ?_
 refine SC.seq ?_
 refine SC.reg ?_
 refine SL.eff (e_lit (sz := 1) (E := 5) (R := R8) (by_ := 1) tk [[ci .u8 1], [ci .u8 7], [ci .u8 2], [ci .u8 0], [ci .u8 1], [ci .u8 0]] [1, 7, 2, 0, 1, 0] (by kernel_rfl) ⟨Clo.int, ⟨Clo.int, ⟨Clo.int, ⟨Clo.int, ⟨Clo.int, ⟨Clo.int, trivial⟩⟩⟩⟩⟩⟩ rfl (by kernel_rfl) (by kernel_rfl)) rfl (by kernel_rfl) ?_
 obtain ⟨x_3, e_x_3, hp⟩ := bind_inv hp
 refine SL.eff (e_c Try.call16 (ok_signal_Decode F [1, 7, 2, 0, 1, 0] _ e_x_3) [.l 2] [vs 2] (.u [.inr (C_api_Signal x_3.1), .inl (ci .i64 x_3.2)]) (by kernel_rfl) (.inr ⟨trivial, trivial⟩)) rfl (by kernel_rfl) ?_
 refine SL.sim tk 3 [(1, vs 0), (2, vi .i64 x_1.2), (3, vs 1), (4, vi .i64 x_2.2), (24, .g (C_api_Signal x_3.1)), (25, vi .i64 x_3.2)] [] [] [] (by kernel_rfl) ?_
 refine SL.eff (e_alloc (E := 26) tk (C_api_Signal (T_api_Signal.mk 0 0 0 0 0 0 0 0 0 (T_api_Update.mk 0 0 0 0 0))) (by kernel_rfl)) rfl (by kernel_rfl) ?_
 refine SL.norm (itsN := [.rd 1 R8 x_1.1, .rd 1 R8 x_2.1, .own 1 5 R8 [1, 7, 2, 0, 1, 0], .blk 26 (C_api_Signal (T_api_Signal.mk 0 0 0 0 0 0 0 0 0 (T_api_Update.mk 0 0 0 0 0)))]) (by kernel_rfl) ?_
 refine SL.sim tk 2 [(1, vs 0), (2, vi .i64 x_1.2), (3, vs 1), (4, vi .i64 x_2.2), (6, vi .i64 x_3.2)] [(3, 26, (C_api_Signal x_3.1))] [] [] (by kernel_rfl) ?_
 refine SL.nilThen ?_
 refine SC.seq ?_
 refine SC.reg ?_
 refine SL.eff (e_lit (sz := 1) (E := 5) (R := R8) (by_ := 1) tk [[ci .u8 1], [ci .u8 0], [ci .u8 2], [ci .u8 0], [ci .u8 0], [ci .u8 0]] [1, 0, 2, 0, 0, 0] (by kernel_rfl) ⟨Clo.int, ⟨Clo.int, ⟨Clo.int, ⟨Clo.int, ⟨Clo.int, ⟨Clo.int, trivial⟩⟩⟩⟩⟩⟩ rfl (by kernel_rfl) (by kernel_rfl)) rfl (by kernel_rfl) ?_
 obtain ⟨x_4, e_x_4, hp⟩ := bind_inv hp
 refine SL.eff (e_c Try.call16 (ok_signal_Decode F [1, 0, 2, 0, 0, 0] _ e_x_4) [.l 4] [vs 4] (.u [.inr (C_api_Signal x_4.1), .inl (ci .i64 x_4.2)]) (by kernel_rfl) (.inr ⟨trivial, trivial⟩)) rfl (by kernel_rfl) ?_
 refine SL.norm (itsN := [.rd 1 R8 x_1.1, .rd 1 R8 x_2.1, .own 1 5 R8 [1, 7, 2, 0, 1, 0], .blk 26 (C_api_Signal x_3.1), .own 1 5 R8 [1, 0, 2, 0, 0, 0]]) (by kernel_rfl) ?_
 refine SL.sim tk 3 [(1, vs 0), (2, vi .i64 x_1.2), (3, vs 1), (4, vi .i64 x_2.2), (6, vi .i64 x_3.2), (29, .g (C_api_Signal x_4.1)), (30, vi .i64 x_4.2)] [] [] [] (by kernel_rfl) ?_
 refine SL.eff (e_alloc (E := 26) tk (C_api_Signal (T_api_Signal.mk 0 0 0 0 0 0 0 0 0 (T_api_Update.mk 0 0 0 0 0))) (by kernel_rfl)) rfl (by kernel_rfl) ?_
 refine SL.sim tk 2 [(1, vs 0), (2, vi .i64 x_1.2), (3, vs 1), (4, vi .i64 x_2.2), (6, vi .i64 x_3.2), (8, vi .i64 x_4.2)] [(5, 26, (C_api_Signal x_4.1))] [] [] (by kernel_rfl) ?_
 refine SL.nilThen ?_
 refine SC.seq ?_
 refine SC.reg ?_
 refine SL.eff (e_lit (sz := 1) (E := 5) (R := R8) (by_ := 1) tk [[ci .u8 99], [ci .u8 1], [ci .u8 0], [ci .u8 0]] [99, 1, 0, 0] (by kernel_rfl) ⟨Clo.int, ⟨Clo.int, ⟨Clo.int, ⟨Clo.int, trivial⟩⟩⟩⟩ rfl (by kernel_rfl) (by kernel_rfl)) rfl (by kernel_rfl) ?_
 obtain ⟨x_5, e_x_5, hp⟩ := bind_inv hp
 refine SL.eff (e_c Try.call16 (ok_signal_Decode F [99, 1, 0, 0] _ e_x_5) [.l 6] [vs 6] (.u [.inr (C_api_Signal x_5.1), .inl (ci .i64 x_5.2)]) (by kernel_rfl) (.inr ⟨trivial, trivial⟩)) rfl (by kernel_rfl) ?_
 refine SL.norm (itsN := [.rd 1 R8 x_1.1, .rd 1 R8 x_2.1, .own 1 5 R8 [1, 7, 2, 0, 1, 0], .blk 26 (C_api_Signal x_3.1), .own 1 5 R8 [1, 0, 2, 0, 0, 0], .blk 26 (C_api_Signal x_4.1), .own 1 5 R8 [99, 1, 0, 0]]) (by kernel_rfl) ?_
 refine SL.sim tk 3 [(1, vs 0), (2, vi .i64 x_1.2), (3, vs 1), (4, vi .i64 x_2.2), (6, vi .i64 x_3.2), (8, vi .i64 x_4.2), (34, .g (C_api_Signal x_5.1)), (35, vi .i64 x_5.2)] [] [] [] (by kernel_rfl) ?_
 refine SL.eff (e_alloc (E := 26) tk (C_api_Signal (T_api_Signal.mk 0 0 0 0 0 0 0 0 0 (T_api_Update.mk 0 0 0 0 0))) (by kernel_rfl)) rfl (by kernel_rfl) ?_
 refine SL.sim tk 2 [(1, vs 0), (2, vi .i64 x_1.2), (3, vs 1), (4, vi .i64 x_2.2), (6, vi .i64 x_3.2), (8, vi .i64 x_4.2), (10, vi .i64 x_5.2)] [(7, 26, (C_api_Signal x_5.1))] [] [] (by kernel_rfl) ?_
 refine SL.nilThen ?_
 refine SC.seq ?_
 refine SC.reg ?_
 refine SL.sim tk 3 [(1, vs 0), (3, vs 1), (4, vi .i64 x_2.2), (6, vi .i64 x_3.2), (8, vi .i64 x_4.2), (10, vi .i64 x_5.2), (38, vb (x_1.2 == 0))] [] [] [] (by kernel_rfl) ?_
 obtain ⟨z_7, hz, hpr⟩ := bind_inv hp
 clear hp
 refine SL.cutAt 4 (fun a w => A 64 0 fx [(3, vs 0), (4, vi .i64 x_2.2), (6, vi .i64 x_3.2), (8, vi .i64 x_4.2), (10, vi .i64 x_5.2), (42, vb z_7)] [.rd 1 R8 x_2.1] a w) ?_ ?_
 · have hp := hz
   rcases Bool.eq_false_or_eq_true ((x_1.2 == 0)) with hg_6 | hg_6
   · replace hp := if_t hp hg_6
     refine SL.yes rfl rfl hg_6 ?_
     refine SL.sim tk 1 [(3, vs 1), (4, vi .i64 x_2.2), (6, vi .i64 x_3.2), (8, vi .i64 x_4.2), (10, vi .i64 x_5.2), (38, vb (x_1.2 == 0)), (39, vs 0)] [] [] [] (by kernel_rfl) ?_
     refine SL.yes rfl rfl hg_6 ?_
     refine SL.eff (e_lit (sz := 1) (E := 5) (R := R8) (by_ := 1) tk [[ci .u8 22], [ci .u8 3], [ci .u8 4], [ci .u8 0], [ci .u8 64], [ci .u8 0], [ci .u8 5], [ci .u8 0]] [22, 3, 4, 0, 64, 0, 5, 0] (by kernel_rfl) ⟨Clo.int, ⟨Clo.int, ⟨Clo.int, ⟨Clo.int, ⟨Clo.int, ⟨Clo.int, ⟨Clo.int, ⟨Clo.int, trivial⟩⟩⟩⟩⟩⟩⟩⟩ rfl (by kernel_rfl) (by kernel_rfl)) rfl (by kernel_rfl) ?_
     refine SL.yes rfl rfl hg_6 ?_
     obtain ⟨x_13, e_x_13, hp⟩ := bind_inv hp
     refine SL.eff (e_c Try.call15 (ok_wirelessref23_Same F x_1.1 [22, 3, 4, 0, 64, 0, 5, 0] _ e_x_13) [.g 0, .l 8] [vs 0, vs 8] (vb x_13) (by kernel_rfl) (.inr ⟨trivial, trivial, trivial⟩)) rfl (by kernel_rfl) ?_
     refine SL.norm (itsN := [.rd 1 R8 x_1.1, .rd 1 R8 x_2.1, .own 1 5 R8 [1, 7, 2, 0, 1, 0], .blk 26 (C_api_Signal x_3.1), .own 1 5 R8 [1, 0, 2, 0, 0, 0], .blk 26 (C_api_Signal x_4.1), .own 1 5 R8 [99, 1, 0, 0], .blk 26 (C_api_Signal x_5.1), .own 1 5 R8 [22, 3, 4, 0, 64, 0, 5, 0]]) (by kernel_rfl) ?_
     refine SL.pickt rfl hg_6 rfl rfl ?_
     refine SL.nilJ fun a w h => ?_
     obtain rfl := some_inv' hp
     exact h.at (js := [.g 1]) (by kernel_rfl)
   · replace hp := if_f hp hg_6
     refine SL.no rfl rfl hg_6 rfl ?_
     refine SL.no rfl rfl hg_6 rfl ?_
     refine SL.no rfl rfl hg_6 rfl ?_
     refine SL.pickf rfl hg_6 rfl rfl ?_
     refine SL.nilJ fun a w h => ?_
     obtain rfl := some_inv' hp
     exact h.at (js := [.g 1]) (by kernel_rfl)
 · intro a w h
   have hp := hpr; clear hpr hz
   refine h.goL ?_
   refine SL.sim tk 5 [(3, vs 0), (6, vi .i64 x_3.2), (8, vi .i64 x_4.2), (10, vi .i64 x_5.2), (47, vb (z_7 && (x_2.2 == 0)))] [] [] [] (by kernel_rfl) ?_
   obtain ⟨z_9, hz, hpr⟩ := bind_inv hp
   clear hp
   refine SL.cutAt 4 (fun a w => A 64 0 fx [(6, vi .i64 x_3.2), (8, vi .i64 x_4.2), (10, vi .i64 x_5.2), (51, vb z_9)] [] a w) ?_ ?_
   · have hp := hz
     rcases Bool.eq_false_or_eq_true ((z_7 && (x_2.2 == 0))) with hg_8 | hg_8
     · replace hp := if_t hp hg_8
       refine SL.yes rfl rfl hg_8 ?_
       refine SL.sim tk 1 [(6, vi .i64 x_3.2), (8, vi .i64 x_4.2), (10, vi .i64 x_5.2), (47, vb (z_7 && (x_2.2 == 0))), (48, vs 0)] [] [] [] (by kernel_rfl) ?_
       refine SL.yes rfl rfl hg_8 ?_
       refine SL.eff (e_lit (sz := 1) (E := 5) (R := R8) (by_ := 1) tk [[ci .u8 21], [ci .u8 1], [ci .u8 10], [ci .u8 0], [ci .u8 0], [ci .u8 0], [ci .u8 0], [ci .u8 0], [ci .u8 0], [ci .u8 0], [ci .u8 0], [ci .u8 0], [ci .u8 2], [ci .u8 0]] [21, 1, 10, 0, 0, 0, 0, 0, 0, 0, 0, 0, 2, 0] (by kernel_rfl) ⟨Clo.int, ⟨Clo.int, ⟨Clo.int, ⟨Clo.int, ⟨Clo.int, ⟨Clo.int, ⟨Clo.int, ⟨Clo.int, ⟨Clo.int, ⟨Clo.int, ⟨Clo.int, ⟨Clo.int, ⟨Clo.int, ⟨Clo.int, trivial⟩⟩⟩⟩⟩⟩⟩⟩⟩⟩⟩⟩⟩⟩ rfl (by kernel_rfl) (by kernel_rfl)) rfl (by kernel_rfl) ?_
       refine SL.yes rfl rfl hg_8 ?_
       obtain ⟨x_11, e_x_11, hp⟩ := bind_inv hp
       refine SL.eff (e_c Try.call15 (ok_wirelessref23_Same F x_2.1 [21, 1, 10, 0, 0, 0, 0, 0, 0, 0, 0, 0, 2, 0] _ e_x_11) [.g 0, .l 1] [vs 0, vs 1] (vb x_11) (by kernel_rfl) (.inr ⟨trivial, trivial, trivial⟩)) rfl (by kernel_rfl) ?_
       refine SL.pickt rfl hg_8 rfl rfl ?_
       refine SL.nilJ fun a w h => ?_
       obtain rfl := some_inv' hp
       exact h.at (js := []) (by kernel_rfl)
     · replace hp := if_f hp hg_8
       refine SL.no rfl rfl hg_8 rfl ?_
       refine SL.no rfl rfl hg_8 rfl ?_
       refine SL.no rfl rfl hg_8 rfl ?_
       refine SL.pickf rfl hg_8 rfl rfl ?_
       refine SL.nilJ fun a w h => ?_
       obtain rfl := some_inv' hp
       exact h.at (js := []) (by kernel_rfl)
   · intro a w h
     have hp := hpr; clear hpr hz
     refine h.goL ?_
     refine SL.sim tk 13 [(0, vb (((z_9 && (x_3.2 == 5)) && (x_4.2 == 5)) && (x_5.2 == 12)))] [] [] [] (by kernel_rfl) ?_
     refine SL.nilThen ?_
     obtain rfl := some_inv' hp
     exact SC.re (js := []) tk (by kernel_rfl)

theorem ok_wirelesslaw34_SignalChecks (F : Nat) (s_1 : T_api_Signal) (r : Bool) (hp : wirelesslaw34_SignalChecks F s_1 = some r) : Spec Try.prog 3 [.g (C_api_Signal s_1)] [] (vb r) [] := by
 refine Spec.enter Try.func3 rfl Try.ntmps3 rfl rfl fun fx => ?_
 refine SC.seq ?_
 refine SC.reg ?_
 refine SL.eff (e_box (E := 26) (C_api_Signal s_1) (by kernel_rfl)) rfl (by kernel_rfl) ?_
 refine SL.sim tk 1 [(1, vp 0 0)] [] [] [] (by kernel_rfl) ?_
 refine SL.nilThen ?_
 refine SC.cut (fun a w => ∃ (z_2 : Bool), wirelesslaw34_SignalChecks_j1 F z_2 = some r ∧ A 11 0 fx [(2, vb z_2)] [] a w) ?_ ?_
 · refine SC.draw MO [true] (by kernel_rfl) fun kap_3 D_4 => ?_
   refine SD.takes tk D_4 [] kn0 [0, 2] [] [] [true, false, true, false, false, false, false, false, false] [(3, .g (C_api_Signal s_1)), (5, .g (C_api_Signal s_1))] rfl (by kernel_rfl) (by kernel_rfl) (by kernel_rfl) ?_
   obtain ⟨x_5, e_x_5, hp⟩ := bind_inv hp
   refine SD.all1 (i := 1) (by kernel_rfl) ?_
   refine SW.eff D_4 (i := 1) (bs' := [true, true, true, false, false, false, false, false, false]) rfl (.inl rfl) rfl (e_c Try.call10 (ok_signal_Check F s_1 _ e_x_5) [] [.g (C_api_Signal s_1)] (vi .i64 x_5) (by kernel_rfl) (.inl rfl)) (by kernel_rfl) rfl (by kernel_rfl) ?_
   obtain ⟨x_6, e_x_6, hp⟩ := bind_inv hp
   refine SD.all1 (i := 3) (by kernel_rfl) ?_
   refine SW.eff D_4 (i := 3) (bs' := [true, true, true, true, false, false, false, false, false]) rfl (.inl rfl) rfl (e_c Try.call11 (ok_wirelessref34_Check F s_1 _ e_x_6) [] [.g (C_api_Signal s_1)] (vi .i64 x_6) (by kernel_rfl) (.inl rfl)) (by kernel_rfl) rfl (by kernel_rfl) ?_
   refine SD.norm (itsN := [.blk 26 (C_api_Signal s_1)]) (by kernel_rfl) ?_
   refine SD.takes tk D_4 [] kn0 [4, 5] [] [] [true, true, true, true, true, true, false, false, false] [(8, vb (x_5 == x_6))] rfl (by kernel_rfl) (by kernel_rfl) (by kernel_rfl) ?_
   rcases Bool.eq_false_or_eq_true ((x_5 == x_6)) with hg_7 | hg_7
   · replace hp := if_t hp hg_7
     obtain ⟨x_8, e_x_8, hp⟩ := bind_inv hp
     refine SD.all1 (i := 6) (by kernel_rfl) ?_
     refine SW.eff D_4 (i := 6) (bs' := [true, true, true, true, true, true, true, false, false]) rfl (.inr ⟨_, _, _, _, rfl, rfl, rfl, hg_7⟩) rfl (e_c Try.call12 (ok_wirelesslaw34_exampleHolds F  _ e_x_8) [] [] (vb x_8) (by kernel_rfl) (.inl rfl)) (by kernel_rfl) rfl (by kernel_rfl) ?_
     refine SD.takes tk D_4 [(8, true)] (knS rfl hg_7 kn0) [7, 8] [] [] [true, true, true, true, true, true, true, true, true] [(2, vb x_8)] rfl (by kernel_rfl) (by kernel_rfl) (by kernel_rfl) ?_
     refine SD.done (by kernel_rfl) fun a w h => ?_
     exact ⟨x_8, hp, h.at (js := []) (by kernel_rfl)⟩
   · replace hp := if_f hp hg_7
     refine SD.takes tk D_4 [(8, false)] (knS rfl hg_7 kn0) [6, 7, 8] [] [] [true, true, true, true, true, true, true, true, true] [(2, vb false)] rfl (by kernel_rfl) (by kernel_rfl) (by kernel_rfl) ?_
     refine SD.done (by kernel_rfl) fun a w h => ?_
     exact ⟨false, hp, h.at (js := []) (by kernel_rfl)⟩
 · rintro a w ⟨z_2, hp, h⟩
   refine h.go ?_
   obtain rfl := some_inv' hp
   exact SC.re (js := []) tk (by kernel_rfl)

theorem ok_wirelessref23_Put (F : Nat) (n_1 : Int) (size_2 : Int) (r : (List Int)) (hp : wirelessref23_Put F n_1 size_2 = some r) : Spec Try.prog 46 [vi .u64 n_1, vi .i64 size_2] [] (vs 0) [.own 1 5 R8 r] := by
 refine Spec.enter Try.func46 rfl Try.ntmps46 rfl rfl fun fx => ?_
 refine SC.r tk [(0, vi .u64 n_1), (1, vi .i64 size_2)] [] [] [] (by kernel_rfl) ?_
 refine SC.r tk [(0, vi .u64 n_1), (1, vi .i64 size_2), (5, vn)] [] [] [] (by kernel_rfl) ?_
 refine SC.cut (fun a w => ∃ (l_3 : (List Int)), wirelessref23_Put_j1 F l_3 = some r ∧ A 21 0 fx [(5, vs 0)] [.own 1 5 R8 l_3] a w) ?_ ?_
 · refine SC.r tk [(0, vi .u64 n_1), (1, vi .i64 size_2), (5, vn), (6, vi .i64 0)] [] [] [] (by kernel_rfl) ?_
   refine SC.block ?_
   obtain ⟨o1, hi1, ho1⟩ := bind_inv hp
   clear hp
   refine SC.loop (fun n a w => ∃ (x_4 : Int) (l_5 : (List Int)) (x_6 : Int), iter (fun s => wirelessref23_Put_l1 F size_2 s.1 s.2.1 s.2.2) n (x_4, l_5, x_6) = some o1 ∧ A 21 0 fx [(0, vi .u64 x_4), (1, vi .i64 size_2), (5, vs 0), (6, vi .i64 x_6)] [.own 1 5 R8 l_5] a w) F (fun a w h => ⟨n_1, [], 0, hi1, h.at (js := [.n]) (by kernel_rfl)⟩) ?_
   rintro n1 a w ⟨x_4, l_5, x_6, hi1, h⟩
   obtain ⟨n1, q1, rfl, hp, hs1⟩ := iter_inv hi1
   replace hp : wirelessref23_Put_l1 F size_2 x_4 l_5 x_6 = some q1 := hp
   clear hi1
   refine h.go ?_
   refine SC.seq ?_
   refine SC.r tk [(0, vi .u64 x_4), (1, vi .i64 size_2), (5, vs 0), (6, vi .i64 x_6), (9, vb (decide (x_6 < size_2)))] [] [] [] (by kernel_rfl) ?_
   refine SC.if' rfl hp (fun hp => ?_) (fun hp => ?_)
   · refine SC.skipThen ?_
     refine SC.seq ?_
     refine SC.block ?_
     refine SC.seq ?_
     refine SC.reg ?_
     obtain ⟨x_7, e_x_7, hp⟩ := bind_inv hp
     refine SL.sim tk 4 [(0, vi .u64 x_4), (1, vi .i64 size_2), (5, vs 0), (6, vi .i64 x_6), (12, vs 0), (15, vi .u8 (wu8 x_7))] [] [.bin .rem .u64 x_4 256 x_7 e_x_7] [x_4, 256] (by kernel_rfl) ?_
     refine SL.eff (e_lit (sz := 1) (E := 5) (R := R8) (by_ := 1) tk [[ci .u8 (wu8 x_7)]] [wu8 x_7] (by kernel_rfl) ⟨Clo.int, trivial⟩ rfl (by kernel_rfl) (by kernel_rfl)) rfl (by kernel_rfl) ?_
     obtain ⟨l_8, e_l_8, hp⟩ := bind_inv hp
     refine SL.eff (e_app (i := 0) (l := l_5) (sz := 1) (E := 5) (R := R8) (by_ := 1) (m := [wu8 x_7]) tk rfl (by kernel_rfl) rfl (.o 5 (by kernel_rfl)) e_l_8 (by kernel_rfl)) rfl (by kernel_rfl) ?_
     refine SL.sim tk 1 [(0, vi .u64 x_4), (1, vi .i64 size_2), (5, vs 2), (6, vi .i64 x_6)] [] [] [] (by kernel_rfl) ?_
     refine SL.nilThen ?_
     refine SC.reg ?_
     obtain ⟨x_9, e_x_9, hp⟩ := bind_inv hp
     refine SL.sim tk 3 [(0, vi .u64 x_9), (1, vi .i64 size_2), (5, vs 2), (6, vi .i64 x_6)] [] [.bin .quo .u64 x_4 256 x_9 e_x_9] [x_4, 256] (by kernel_rfl) ?_
     refine SL.nilThen ?_
     refine SC.reg ?_
     refine SL.sim tk 3 [(0, vi .u64 x_9), (1, vi .i64 size_2), (5, vs 2), (6, vi .i64 (w64 (x_6 + 1)))] [] [] [] (by kernel_rfl) ?_
     refine SL.nilJ fun a w h => ?_
     exact ⟨n1, Nat.lt_succ_self _, x_9, l_8, w64 (x_6 + 1), next_inv hp hs1, h.at (js := [.g 2]) (by kernel_rfl)⟩
   · refine SC.exitJ rfl fun a w h => ?_
     have ho := done_inv hp hs1
     replace hp := ho1
     try rw [ho] at hp
     exact ⟨l_5, hp, h.at (js := [.g 0]) (by kernel_rfl)⟩
 · rintro a w ⟨l_3, hp, h⟩
   refine h.go ?_
   refine SC.r tk [(4, vs 0)] [] [] [] (by kernel_rfl) ?_
   obtain rfl := some_inv' hp
   exact SC.re (js := [.g 0]) tk (by kernel_rfl)

theorem ok_wirelessref26_PutUpdate (F : Nat) (u_1 : T_api_Update) (r : (List Int)) (hp : wirelessref26_PutUpdate F u_1 = some r) : Spec Try.prog 47 [.g (C_api_Update u_1)] [] (vs 0) [.rd 1 R8 r] := by
 refine Spec.enter Try.func47 rfl Try.ntmps47 rfl rfl fun fx => ?_
 refine SC.seq ?_
 refine SC.reg ?_
 refine SL.eff (e_box (E := 24) (C_api_Update u_1) (by kernel_rfl)) rfl (by kernel_rfl) ?_
 refine SL.sim tk 1 [(1, vp 0 0)] [] [] [] (by kernel_rfl) ?_
 refine SL.nilThen ?_
 refine SC.seq ?_
 refine SC.reg ?_
 refine SL.sim tk 3 [(1, vp 0 0), (6, vi .u64 (wu64 u_1.WinSize))] [] [] [] (by kernel_rfl) ?_
 obtain ⟨x_2, e_x_2, hp⟩ := bind_inv hp
 refine SL.eff (e_c Try.call46 (ok_wirelessref23_Put F (wu64 u_1.WinSize) 1 _ e_x_2) [] [vi .u64 (wu64 u_1.WinSize), vi .i64 1] (vs 1) (by kernel_rfl) (.inl rfl)) rfl (by kernel_rfl) ?_
 refine SL.sim tk 1 [(1, vp 0 0), (3, vs 1)] [] [] [] (by kernel_rfl) ?_
 refine SL.nilThen ?_
 refine SC.seq ?_
 refine SC.reg ?_
 refine SL.sim tk 4 [(1, vp 0 0), (3, vs 1), (8, vs 1), (11, vi .u64 (wu64 u_1.WinOffset))] [] [] [] (by kernel_rfl) ?_
 obtain ⟨x_3, e_x_3, hp⟩ := bind_inv hp
 refine SL.eff (e_c Try.call46 (ok_wirelessref23_Put F (wu64 u_1.WinOffset) 2 _ e_x_3) [] [vi .u64 (wu64 u_1.WinOffset), vi .i64 2] (vs 2) (by kernel_rfl) (.inl rfl)) rfl (by kernel_rfl) ?_
 refine SL.norm (itsN := [.blk 24 (C_api_Update u_1), .own 1 5 R8 x_2, .own 1 5 R8 x_3]) (by kernel_rfl) ?_
 obtain ⟨l_4, e_l_4, hp⟩ := bind_inv hp
 refine SL.eff (e_app (i := 1) (l := x_2) (sz := 1) (E := 5) (R := R8) (by_ := 1) (m := x_3) tk rfl (by kernel_rfl) rfl (.o 5 (by kernel_rfl)) e_l_4 (by kernel_rfl)) rfl (by kernel_rfl) ?_
 refine SL.sim tk 1 [(1, vp 0 0), (3, vs 3)] [] [] [] (by kernel_rfl) ?_
 refine SL.nilThen ?_
 refine SC.seq ?_
 refine SC.reg ?_
 refine SL.sim tk 4 [(1, vp 0 0), (3, vs 3), (14, vs 3), (17, vi .u64 (wu64 u_1.Interval))] [] [] [] (by kernel_rfl) ?_
 obtain ⟨x_5, e_x_5, hp⟩ := bind_inv hp
 refine SL.eff (e_c Try.call46 (ok_wirelessref23_Put F (wu64 u_1.Interval) 2 _ e_x_5) [] [vi .u64 (wu64 u_1.Interval), vi .i64 2] (vs 4) (by kernel_rfl) (.inl rfl)) rfl (by kernel_rfl) ?_
 obtain ⟨l_6, e_l_6, hp⟩ := bind_inv hp
 refine SL.eff (e_app (i := 3) (l := l_4) (sz := 1) (E := 5) (R := R8) (by_ := 1) (m := x_5) tk rfl (by kernel_rfl) rfl (.o 5 (by kernel_rfl)) e_l_6 (by kernel_rfl)) rfl (by kernel_rfl) ?_
 refine SL.norm (itsN := [.blk 24 (C_api_Update u_1), .gone, .own 1 5 R8 x_3, .gone, .own 1 5 R8 x_5, .own 1 5 R8 l_6]) (by kernel_rfl) ?_
 refine SL.sim tk 1 [(1, vp 0 0), (3, vs 5)] [] [] [] (by kernel_rfl) ?_
 refine SL.nilThen ?_
 refine SC.seq ?_
 refine SC.reg ?_
 refine SL.sim tk 4 [(1, vp 0 0), (3, vs 5), (20, vs 5), (23, vi .u64 (wu64 u_1.Latency))] [] [] [] (by kernel_rfl) ?_
 obtain ⟨x_7, e_x_7, hp⟩ := bind_inv hp
 refine SL.eff (e_c Try.call46 (ok_wirelessref23_Put F (wu64 u_1.Latency) 2 _ e_x_7) [] [vi .u64 (wu64 u_1.Latency), vi .i64 2] (vs 6) (by kernel_rfl) (.inl rfl)) rfl (by kernel_rfl) ?_
 obtain ⟨l_8, e_l_8, hp⟩ := bind_inv hp
 refine SL.eff (e_app (i := 5) (l := l_6) (sz := 1) (E := 5) (R := R8) (by_ := 1) (m := x_7) tk rfl (by kernel_rfl) rfl (.o 5 (by kernel_rfl)) e_l_8 (by kernel_rfl)) rfl (by kernel_rfl) ?_
 refine SL.sim tk 1 [(1, vp 0 0), (3, vs 7)] [] [] [] (by kernel_rfl) ?_
 refine SL.nilThen ?_
 refine SC.seq ?_
 refine SC.reg ?_
 refine SL.sim tk 4 [(26, vs 7), (29, vi .u64 (wu64 u_1.Timeout))] [] [] [] (by kernel_rfl) ?_
 obtain ⟨x_9, e_x_9, hp⟩ := bind_inv hp
 refine SL.eff (e_c Try.call46 (ok_wirelessref23_Put F (wu64 u_1.Timeout) 2 _ e_x_9) [] [vi .u64 (wu64 u_1.Timeout), vi .i64 2] (vs 8) (by kernel_rfl) (.inl rfl)) rfl (by kernel_rfl) ?_
 refine SL.norm (itsN := [.blk 24 (C_api_Update u_1), .gone, .own 1 5 R8 x_3, .gone, .own 1 5 R8 x_5, .gone, .own 1 5 R8 x_7, .own 1 5 R8 l_8, .own 1 5 R8 x_9]) (by kernel_rfl) ?_
 obtain ⟨l_10, e_l_10, hp⟩ := bind_inv hp
 refine SL.eff (e_app (i := 7) (l := l_8) (sz := 1) (E := 5) (R := R8) (by_ := 1) (m := x_9) tk rfl (by kernel_rfl) rfl (.o 5 (by kernel_rfl)) e_l_10 (by kernel_rfl)) rfl (by kernel_rfl) ?_
 refine SL.sim tk 1 [(2, vs 9)] [] [] [] (by kernel_rfl) ?_
 refine SL.nilThen ?_
 obtain rfl := some_inv' hp
 exact SC.re (js := [.z 9]) tk (by kernel_rfl)

theorem ok_wirelessref34_body (F : Nat) (s_1 : T_api_Signal) (r : (List Int)) (hp : wirelessref34_body F s_1 = some r) : Spec Try.prog 34 [.g (C_api_Signal s_1)] [] (vs 0) [.rd 1 R8 r] := by
 refine Spec.enter Try.func34 rfl Try.ntmps34 rfl rfl fun fx => ?_
 refine SC.seq ?_
 refine SC.reg ?_
 refine SL.eff (e_box (E := 26) (C_api_Signal s_1) (by kernel_rfl)) rfl (by kernel_rfl) ?_
 refine SL.sim tk 1 [(1, vp 0 0)] [] [] [] (by kernel_rfl) ?_
 refine SL.nilThen ?_
 refine SC.seq ?_
 refine SC.reg ?_
 refine SL.sim tk 2 [(1, vp 0 0), (6, vi .i64 s_1.Kind)] [] [] [] (by kernel_rfl) ?_
 obtain ⟨x_2, e_x_2, hp⟩ := bind_inv hp
 refine SL.eff (e_c Try.call25 (ok_wirelessref34_Fields F s_1.Kind _ e_x_2) [] [vi .i64 s_1.Kind] (.g (C_wirelessref34_Uses x_2)) (by kernel_rfl) (.inl rfl)) rfl (by kernel_rfl) ?_
 refine SL.eff (e_alloc (E := 44) tk [cb false, cb false, cb false, cb false, cb false, cb false, cb false, cb false] (by kernel_rfl)) rfl (by kernel_rfl) ?_
 refine SL.norm (itsN := [.blk 26 (C_api_Signal s_1), .blk 44 [cb false, cb false, cb false, cb false, cb false, cb false, cb false, cb false]]) (by kernel_rfl) ?_
 refine SL.sim tk 1 [(1, vp 0 0), (3, vp 1 0)] [(1, 44, (C_wirelessref34_Uses x_2))] [] [] (by kernel_rfl) ?_
 refine SL.nilThen ?_
 refine SC.r tk [(1, vp 0 0), (3, vp 1 0), (4, vn)] [] [] [] (by kernel_rfl) ?_
 refine SC.cut (fun a w => ∃ (l_3 : (List Int)), wirelessref34_body_j1 F s_1 x_2 l_3 = some r ∧ A 70 0 fx [(1, vp 0 0), (3, vp 1 0), (4, vs 2)] [.blk 26 (C_api_Signal s_1), .blk 44 (C_wirelessref34_Uses x_2), .own 1 5 R8 l_3] a w) ?_ ?_
 · refine SC.r tk [(1, vp 0 0), (3, vp 1 0), (4, vn), (9, vb x_2.PSM)] [] [] [] (by kernel_rfl) ?_
   refine SC.if' rfl hp (fun hp => ?_) (fun hp => ?_)
   · refine SC.reg ?_
     refine SL.sim tk 4 [(1, vp 0 0), (3, vp 1 0), (4, vn), (10, vn), (13, vi .u64 (wu64 s_1.PSM))] [] [] [] (by kernel_rfl) ?_
     obtain ⟨x_24, e_x_24, hp⟩ := bind_inv hp
     refine SL.eff (e_c Try.call46 (ok_wirelessref23_Put F (wu64 s_1.PSM) 2 _ e_x_24) [] [vi .u64 (wu64 s_1.PSM), vi .i64 2] (vs 2) (by kernel_rfl) (.inl rfl)) rfl (by kernel_rfl) ?_
     obtain ⟨l_25, e_l_25, hp⟩ := bind_inv hp
     refine SL.eff (e_appn (sz := 1) (E := 5) (R := R8) (by_ := 1) (m := x_24) tk rfl rfl (.o 5 (by kernel_rfl)) e_l_25 (by kernel_rfl)) rfl (by kernel_rfl) ?_
     refine SL.norm (itsN := [.blk 26 (C_api_Signal s_1), .blk 44 (C_wirelessref34_Uses x_2), .own 1 5 R8 x_24, .own 1 5 R8 l_25]) (by kernel_rfl) ?_
     refine SL.sim tk 1 [(1, vp 0 0), (3, vp 1 0), (4, vs 3)] [] [] [] (by kernel_rfl) ?_
     refine SL.nilJ fun a w h => ?_
     exact ⟨l_25, hp, h.at (js := [.g 0, .g 1, .g 3]) (by kernel_rfl)⟩
   · refine SC.skipJ fun a w h => ?_
     exact ⟨[], hp, h.at (js := [.g 0, .g 1, .n]) (by kernel_rfl)⟩
 · rintro a w ⟨l_3, hp, h⟩
   refine h.go ?_
   refine SC.cut (fun a w => ∃ (l_4 : (List Int)), wirelessref34_body_j2 F s_1 x_2 l_4 = some r ∧ A 70 0 fx [(1, vp 0 0), (3, vp 1 0), (4, vs 2)] [.blk 26 (C_api_Signal s_1), .blk 44 (C_wirelessref34_Uses x_2), .own 1 5 R8 l_4] a w) ?_ ?_
   · refine SC.r tk [(1, vp 0 0), (3, vp 1 0), (4, vs 2), (17, vb x_2.Source)] [] [] [] (by kernel_rfl) ?_
     refine SC.if' rfl hp (fun hp => ?_) (fun hp => ?_)
     · refine SC.reg ?_
       refine SL.sim tk 4 [(1, vp 0 0), (3, vp 1 0), (4, vs 2), (18, vs 2), (21, vi .u64 (wu64 s_1.Source))] [] [] [] (by kernel_rfl) ?_
       obtain ⟨x_22, e_x_22, hp⟩ := bind_inv hp
       refine SL.eff (e_c Try.call46 (ok_wirelessref23_Put F (wu64 s_1.Source) 2 _ e_x_22) [] [vi .u64 (wu64 s_1.Source), vi .i64 2] (vs 3) (by kernel_rfl) (.inl rfl)) rfl (by kernel_rfl) ?_
       obtain ⟨l_23, e_l_23, hp⟩ := bind_inv hp
       refine SL.eff (e_app (i := 2) (l := l_3) (sz := 1) (E := 5) (R := R8) (by_ := 1) (m := x_22) tk rfl (by kernel_rfl) rfl (.o 5 (by kernel_rfl)) e_l_23 (by kernel_rfl)) rfl (by kernel_rfl) ?_
       refine SL.sim tk 1 [(1, vp 0 0), (3, vp 1 0), (4, vs 4)] [] [] [] (by kernel_rfl) ?_
       refine SL.nilJ fun a w h => ?_
       exact ⟨l_23, hp, h.at (js := [.g 0, .g 1, .g 4]) (by kernel_rfl)⟩
     · refine SC.skipJ fun a w h => ?_
       exact ⟨l_3, hp, h.at (js := [.g 0, .g 1, .g 2]) (by kernel_rfl)⟩
   · rintro a w ⟨l_4, hp, h⟩
     refine h.go ?_
     refine SC.cut (fun a w => ∃ (l_5 : (List Int)), wirelessref34_body_j3 F s_1 x_2 l_5 = some r ∧ A 70 0 fx [(1, vp 0 0), (3, vp 1 0), (4, vs 2)] [.blk 26 (C_api_Signal s_1), .blk 44 (C_wirelessref34_Uses x_2), .own 1 5 R8 l_5] a w) ?_ ?_
     · refine SC.r tk [(1, vp 0 0), (3, vp 1 0), (4, vs 2), (25, vb x_2.Dest)] [] [] [] (by kernel_rfl) ?_
       refine SC.if' rfl hp (fun hp => ?_) (fun hp => ?_)
       · refine SC.reg ?_
         refine SL.sim tk 4 [(1, vp 0 0), (3, vp 1 0), (4, vs 2), (26, vs 2), (29, vi .u64 (wu64 s_1.Dest))] [] [] [] (by kernel_rfl) ?_
         obtain ⟨x_20, e_x_20, hp⟩ := bind_inv hp
         refine SL.eff (e_c Try.call46 (ok_wirelessref23_Put F (wu64 s_1.Dest) 2 _ e_x_20) [] [vi .u64 (wu64 s_1.Dest), vi .i64 2] (vs 3) (by kernel_rfl) (.inl rfl)) rfl (by kernel_rfl) ?_
         obtain ⟨l_21, e_l_21, hp⟩ := bind_inv hp
         refine SL.eff (e_app (i := 2) (l := l_4) (sz := 1) (E := 5) (R := R8) (by_ := 1) (m := x_20) tk rfl (by kernel_rfl) rfl (.o 5 (by kernel_rfl)) e_l_21 (by kernel_rfl)) rfl (by kernel_rfl) ?_
         refine SL.sim tk 1 [(1, vp 0 0), (3, vp 1 0), (4, vs 4)] [] [] [] (by kernel_rfl) ?_
         refine SL.nilJ fun a w h => ?_
         exact ⟨l_21, hp, h.at (js := [.g 0, .g 1, .g 4]) (by kernel_rfl)⟩
       · refine SC.skipJ fun a w h => ?_
         exact ⟨l_4, hp, h.at (js := [.g 0, .g 1, .g 2]) (by kernel_rfl)⟩
     · rintro a w ⟨l_5, hp, h⟩
       refine h.go ?_
       refine SC.cut (fun a w => ∃ (l_6 : (List Int)), wirelessref34_body_j4 F s_1 x_2 l_6 = some r ∧ A 70 0 fx [(1, vp 0 0), (3, vp 1 0), (4, vs 2)] [.blk 26 (C_api_Signal s_1), .blk 44 (C_wirelessref34_Uses x_2), .own 1 5 R8 l_6] a w) ?_ ?_
       · refine SC.r tk [(1, vp 0 0), (3, vp 1 0), (4, vs 2), (33, vb x_2.Sizes)] [] [] [] (by kernel_rfl) ?_
         refine SC.if' rfl hp (fun hp => ?_) (fun hp => ?_)
         · refine SC.seq ?_
           refine SC.reg ?_
           refine SL.sim tk 4 [(1, vp 0 0), (3, vp 1 0), (4, vs 2), (34, vs 2), (37, vi .u64 (wu64 s_1.MTU))] [] [] [] (by kernel_rfl) ?_
           obtain ⟨x_16, e_x_16, hp⟩ := bind_inv hp
           refine SL.eff (e_c Try.call46 (ok_wirelessref23_Put F (wu64 s_1.MTU) 2 _ e_x_16) [] [vi .u64 (wu64 s_1.MTU), vi .i64 2] (vs 3) (by kernel_rfl) (.inl rfl)) rfl (by kernel_rfl) ?_
           obtain ⟨l_17, e_l_17, hp⟩ := bind_inv hp
           refine SL.eff (e_app (i := 2) (l := l_5) (sz := 1) (E := 5) (R := R8) (by_ := 1) (m := x_16) tk rfl (by kernel_rfl) rfl (.o 5 (by kernel_rfl)) e_l_17 (by kernel_rfl)) rfl (by kernel_rfl) ?_
           refine SL.sim tk 1 [(1, vp 0 0), (3, vp 1 0), (4, vs 4)] [] [] [] (by kernel_rfl) ?_
           refine SL.nilThen ?_
           refine SC.reg ?_
           refine SL.sim tk 4 [(1, vp 0 0), (3, vp 1 0), (4, vs 4), (40, vs 4), (43, vi .u64 (wu64 s_1.MPS))] [] [] [] (by kernel_rfl) ?_
           obtain ⟨x_18, e_x_18, hp⟩ := bind_inv hp
           refine SL.eff (e_c Try.call46 (ok_wirelessref23_Put F (wu64 s_1.MPS) 2 _ e_x_18) [] [vi .u64 (wu64 s_1.MPS), vi .i64 2] (vs 5) (by kernel_rfl) (.inl rfl)) rfl (by kernel_rfl) ?_
           refine SL.norm (itsN := [.blk 26 (C_api_Signal s_1), .blk 44 (C_wirelessref34_Uses x_2), .gone, .own 1 5 R8 x_16, .own 1 5 R8 l_17, .own 1 5 R8 x_18]) (by kernel_rfl) ?_
           obtain ⟨l_19, e_l_19, hp⟩ := bind_inv hp
           refine SL.eff (e_app (i := 4) (l := l_17) (sz := 1) (E := 5) (R := R8) (by_ := 1) (m := x_18) tk rfl (by kernel_rfl) rfl (.o 5 (by kernel_rfl)) e_l_19 (by kernel_rfl)) rfl (by kernel_rfl) ?_
           refine SL.sim tk 1 [(1, vp 0 0), (3, vp 1 0), (4, vs 6)] [] [] [] (by kernel_rfl) ?_
           refine SL.nilJ fun a w h => ?_
           exact ⟨l_19, hp, h.at (js := [.g 0, .g 1, .g 6]) (by kernel_rfl)⟩
         · refine SC.skipJ fun a w h => ?_
           exact ⟨l_5, hp, h.at (js := [.g 0, .g 1, .g 2]) (by kernel_rfl)⟩
       · rintro a w ⟨l_6, hp, h⟩
         refine h.go ?_
         refine SC.cut (fun a w => ∃ (l_7 : (List Int)), wirelessref34_body_j5 F s_1 x_2 l_7 = some r ∧ A 70 0 fx [(1, vp 0 0), (3, vp 1 0), (4, vs 2)] [.blk 26 (C_api_Signal s_1), .blk 44 (C_wirelessref34_Uses x_2), .own 1 5 R8 l_7] a w) ?_ ?_
         · refine SC.r tk [(1, vp 0 0), (3, vp 1 0), (4, vs 2), (47, vb x_2.Credits)] [] [] [] (by kernel_rfl) ?_
           refine SC.if' rfl hp (fun hp => ?_) (fun hp => ?_)
           · refine SC.reg ?_
             refine SL.sim tk 4 [(1, vp 0 0), (3, vp 1 0), (4, vs 2), (48, vs 2), (51, vi .u64 (wu64 s_1.Credits))] [] [] [] (by kernel_rfl) ?_
             obtain ⟨x_14, e_x_14, hp⟩ := bind_inv hp
             refine SL.eff (e_c Try.call46 (ok_wirelessref23_Put F (wu64 s_1.Credits) 2 _ e_x_14) [] [vi .u64 (wu64 s_1.Credits), vi .i64 2] (vs 3) (by kernel_rfl) (.inl rfl)) rfl (by kernel_rfl) ?_
             obtain ⟨l_15, e_l_15, hp⟩ := bind_inv hp
             refine SL.eff (e_app (i := 2) (l := l_6) (sz := 1) (E := 5) (R := R8) (by_ := 1) (m := x_14) tk rfl (by kernel_rfl) rfl (.o 5 (by kernel_rfl)) e_l_15 (by kernel_rfl)) rfl (by kernel_rfl) ?_
             refine SL.sim tk 1 [(1, vp 0 0), (3, vp 1 0), (4, vs 4)] [] [] [] (by kernel_rfl) ?_
             refine SL.nilJ fun a w h => ?_
             exact ⟨l_15, hp, h.at (js := [.g 0, .g 1, .g 4]) (by kernel_rfl)⟩
           · refine SC.skipJ fun a w h => ?_
             exact ⟨l_6, hp, h.at (js := [.g 0, .g 1, .g 2]) (by kernel_rfl)⟩
         · rintro a w ⟨l_7, hp, h⟩
           refine h.go ?_
           refine SC.cut (fun a w => ∃ (l_8 : (List Int)), wirelessref34_body_j6 F s_1 x_2 l_8 = some r ∧ A 70 0 fx [(1, vp 0 0), (3, vp 1 0), (4, vs 2)] [.blk 26 (C_api_Signal s_1), .blk 44 (C_wirelessref34_Uses x_2), .own 1 5 R8 l_8] a w) ?_ ?_
           · refine SC.r tk [(1, vp 0 0), (3, vp 1 0), (4, vs 2), (55, vb x_2.Result)] [] [] [] (by kernel_rfl) ?_
             refine SC.if' rfl hp (fun hp => ?_) (fun hp => ?_)
             · refine SC.reg ?_
               refine SL.sim tk 4 [(1, vp 0 0), (3, vp 1 0), (4, vs 2), (56, vs 2), (59, vi .u64 (wu64 s_1.Result))] [] [] [] (by kernel_rfl) ?_
               obtain ⟨x_12, e_x_12, hp⟩ := bind_inv hp
               refine SL.eff (e_c Try.call46 (ok_wirelessref23_Put F (wu64 s_1.Result) 2 _ e_x_12) [] [vi .u64 (wu64 s_1.Result), vi .i64 2] (vs 3) (by kernel_rfl) (.inl rfl)) rfl (by kernel_rfl) ?_
               obtain ⟨l_13, e_l_13, hp⟩ := bind_inv hp
               refine SL.eff (e_app (i := 2) (l := l_7) (sz := 1) (E := 5) (R := R8) (by_ := 1) (m := x_12) tk rfl (by kernel_rfl) rfl (.o 5 (by kernel_rfl)) e_l_13 (by kernel_rfl)) rfl (by kernel_rfl) ?_
               refine SL.sim tk 1 [(1, vp 0 0), (3, vp 1 0), (4, vs 4)] [] [] [] (by kernel_rfl) ?_
               refine SL.nilJ fun a w h => ?_
               exact ⟨l_13, hp, h.at (js := [.g 0, .g 1, .g 4]) (by kernel_rfl)⟩
             · refine SC.skipJ fun a w h => ?_
               exact ⟨l_7, hp, h.at (js := [.g 0, .g 1, .g 2]) (by kernel_rfl)⟩
           · rintro a w ⟨l_8, hp, h⟩
             refine h.go ?_
             refine SC.cut (fun a w => ∃ (l_9 : (List Int)), wirelessref34_body_j7 F l_9 = some r ∧ A 70 0 fx [(4, vs 0)] [.own 1 5 R8 l_9] a w) ?_ ?_
             · refine SC.r tk [(1, vp 0 0), (4, vs 2), (63, vb x_2.Update)] [] [] [] (by kernel_rfl) ?_
               refine SC.if' rfl hp (fun hp => ?_) (fun hp => ?_)
               · refine SC.reg ?_
                 refine SL.sim tk 3 [(4, vs 2), (64, vs 2), (66, .g (C_api_Update s_1.Update))] [] [] [] (by kernel_rfl) ?_
                 obtain ⟨x_10, e_x_10, hp⟩ := bind_inv hp
                 refine SL.eff (e_c Try.call47 (ok_wirelessref26_PutUpdate F s_1.Update _ e_x_10) [] [.g (C_api_Update s_1.Update)] (vs 3) (by kernel_rfl) (.inl rfl)) rfl (by kernel_rfl) ?_
                 obtain ⟨l_11, e_l_11, hp⟩ := bind_inv hp
                 refine SL.eff (e_app (i := 2) (l := l_8) (sz := 1) (E := 5) (R := R8) (by_ := 1) (m := x_10) tk rfl (by kernel_rfl) rfl (.r (by kernel_rfl)) e_l_11 (by kernel_rfl)) rfl (by kernel_rfl) ?_
                 refine SL.sim tk 1 [(4, vs 4)] [] [] [] (by kernel_rfl) ?_
                 refine SL.nilJ fun a w h => ?_
                 exact ⟨l_11, hp, h.at (js := [.g 4]) (by kernel_rfl)⟩
               · refine SC.skipJ fun a w h => ?_
                 exact ⟨l_8, hp, h.at (js := [.g 2]) (by kernel_rfl)⟩
             · rintro a w ⟨l_9, hp, h⟩
               refine h.go ?_
               refine SC.r tk [(2, vs 0)] [] [] [] (by kernel_rfl) ?_
               obtain rfl := some_inv' hp
               exact SC.re (js := [.z 0]) tk (by kernel_rfl)

theorem ok_wirelessref34_Encode (F : Nat) (s_1 : T_api_Signal) (r : (List Int) × Int) (hp : wirelessref34_Encode F s_1 = some r) : Spec Try.prog 14 [.g (C_api_Signal s_1)] [] (.u [.inl (.s 0), .inl (ci .i64 r.2)]) [.rd 1 R8 r.1] := by
 refine Spec.enter Try.func14 rfl Try.ntmps14 rfl rfl fun fx => ?_
 refine SC.seq ?_
 refine SC.reg ?_
 refine SL.eff (e_box (E := 26) (C_api_Signal s_1) (by kernel_rfl)) rfl (by kernel_rfl) ?_
 refine SL.sim tk 2 [(1, vp 0 0)] [] [] [] (by kernel_rfl) ?_
 refine SL.nilThen ?_
 refine SC.seq ?_
 refine SC.seq ?_
 refine SC.reg ?_
 refine SL.sim tk 1 [(1, vp 0 0), (6, .g (C_api_Signal s_1))] [] [] [] (by kernel_rfl) ?_
 obtain ⟨x_2, e_x_2, hp⟩ := bind_inv hp
 refine SL.eff (e_c Try.call11 (ok_wirelessref34_Check F s_1 _ e_x_2) [] [.g (C_api_Signal s_1)] (vi .i64 x_2) (by kernel_rfl) (.inl rfl)) rfl (by kernel_rfl) ?_
 refine SL.sim tk 1 [(1, vp 0 0), (4, vi .i64 x_2)] [] [] [] (by kernel_rfl) ?_
 refine SL.nilThen ?_
 refine SC.r tk [(1, vp 0 0), (4, vi .i64 x_2), (9, vb (x_2 != 0))] [] [] [] (by kernel_rfl) ?_
 refine SC.if' rfl hp (fun hp => ?_) (fun hp => ?_)
 · refine SC.r tk [(2, vn), (3, vi .i64 x_2)] [] [] [] (by kernel_rfl) ?_
   obtain rfl := some_inv' hp
   exact SC.re (js := [.n]) tk (by kernel_rfl)
 · refine SC.skipThen ?_
   refine SC.seq ?_
   refine SC.reg ?_
   refine SL.sim tk 1 [(1, vp 0 0), (11, .g (C_api_Signal s_1))] [] [] [] (by kernel_rfl) ?_
   obtain ⟨x_3, e_x_3, hp⟩ := bind_inv hp
   refine SL.eff (e_c Try.call34 (ok_wirelessref34_body F s_1 _ e_x_3) [] [.g (C_api_Signal s_1)] (vs 1) (by kernel_rfl) (.inl rfl)) rfl (by kernel_rfl) ?_
   refine SL.norm (itsN := [.blk 26 (C_api_Signal s_1), .rd 1 R8 x_3]) (by kernel_rfl) ?_
   refine SL.sim tk 1 [(1, vp 0 0), (5, vs 1)] [] [] [] (by kernel_rfl) ?_
   refine SL.nilThen ?_
   refine SC.seq ?_
   refine SC.reg ?_
   refine SL.sim tk 9 [(5, vs 1), (15, vi .u8 (wu8 s_1.Kind)), (18, vi .u8 (wu8 s_1.ID)), (21, vi .u8 (wu8 (len x_3)))] [] [] [] (by kernel_rfl) ?_
   refine SL.eff (e_lit (sz := 1) (E := 5) (R := R8) (by_ := 1) tk [[ci .u8 (wu8 s_1.Kind)], [ci .u8 (wu8 s_1.ID)], [ci .u8 (wu8 (len x_3))], [ci .u8 0]] [wu8 s_1.Kind, wu8 s_1.ID, wu8 (len x_3), 0] (by kernel_rfl) ⟨Clo.int, ⟨Clo.int, ⟨Clo.int, ⟨Clo.int, trivial⟩⟩⟩⟩ rfl (by kernel_rfl) (by kernel_rfl)) rfl (by kernel_rfl) ?_
   refine SL.sim tk 1 [(22, vs 2), (23, vs 1)] [] [] [] (by kernel_rfl) ?_
   obtain ⟨l_4, e_l_4, hp⟩ := bind_inv hp
   refine SL.eff (e_app (i := 2) (l := [wu8 s_1.Kind, wu8 s_1.ID, wu8 (len x_3), 0]) (sz := 1) (E := 5) (R := R8) (by_ := 1) (m := x_3) tk rfl (by kernel_rfl) rfl (.r (by kernel_rfl)) e_l_4 (by kernel_rfl)) rfl (by kernel_rfl) ?_
   refine SL.sim tk 2 [(2, vs 3), (3, vi .i64 0)] [] [] [] (by kernel_rfl) ?_
   refine SL.nilThen ?_
   obtain rfl := some_inv' hp
   exact SC.re (js := [.z 3]) tk (by kernel_rfl)

theorem ok_wirelesslaw34_SignalEncodes (F : Nat) (s_1 : T_api_Signal) (r : Bool) (hp : wirelesslaw34_SignalEncodes F s_1 = some r) : Spec Try.prog 4 [.g (C_api_Signal s_1)] [] (vb r) [] := by
 refine Spec.enter Try.func4 rfl Try.ntmps4 rfl rfl fun fx => ?_
 refine SC.seq ?_
 refine SC.reg ?_
 refine SL.eff (e_box (E := 26) (C_api_Signal s_1) (by kernel_rfl)) rfl (by kernel_rfl) ?_
 refine SL.sim tk 1 [(1, vp 0 0)] [] [] [] (by kernel_rfl) ?_
 refine SL.nilThen ?_
 refine SC.seq ?_
 refine SC.reg ?_
 refine SL.sim tk 1 [(1, vp 0 0), (8, .g (C_api_Signal s_1))] [] [] [] (by kernel_rfl) ?_
 obtain ⟨x_2, e_x_2, hp⟩ := bind_inv hp
 refine SL.eff (e_c Try.call13 (ok_signal_Encode F s_1 _ e_x_2) [] [.g (C_api_Signal s_1)] (.u [.inl (.s 1), .inl (ci .i64 x_2.2)]) (by kernel_rfl) (.inl rfl)) rfl (by kernel_rfl) ?_
 refine SL.sim tk 5 [(1, vp 0 0), (3, vs 1), (4, vi .i64 x_2.2)] [] [] [] (by kernel_rfl) ?_
 refine SL.nilThen ?_
 refine SC.seq ?_
 refine SC.reg ?_
 refine SL.sim tk 1 [(3, vs 1), (4, vi .i64 x_2.2), (13, .g (C_api_Signal s_1))] [] [] [] (by kernel_rfl) ?_
 obtain ⟨x_3, e_x_3, hp⟩ := bind_inv hp
 refine SL.eff (e_c Try.call14 (ok_wirelessref34_Encode F s_1 _ e_x_3) [] [.g (C_api_Signal s_1)] (.u [.inl (.s 2), .inl (ci .i64 x_3.2)]) (by kernel_rfl) (.inl rfl)) rfl (by kernel_rfl) ?_
 refine SL.norm (itsN := [.blk 26 (C_api_Signal s_1), .rd 1 R8 x_2.1, .rd 1 R8 x_3.1]) (by kernel_rfl) ?_
 refine SL.sim tk 5 [(3, vs 1), (4, vi .i64 x_2.2), (5, vs 2), (6, vi .i64 x_3.2)] [] [] [] (by kernel_rfl) ?_
 refine SL.nilThen ?_
 refine SC.seq ?_
 refine SC.reg ?_
 refine SL.sim tk 4 [(3, vs 1), (5, vs 2), (20, vb (x_2.2 == x_3.2))] [] [] [] (by kernel_rfl) ?_
 obtain ⟨z_5, hz, hpr⟩ := bind_inv hp
 clear hp
 refine SL.cutAt 4 (fun a w => A 28 0 fx [(24, vb z_5)] [] a w) ?_ ?_
 · have hp := hz
   rcases Bool.eq_false_or_eq_true ((x_2.2 == x_3.2)) with hg_4 | hg_4
   · replace hp := if_t hp hg_4
     refine SL.yes rfl rfl hg_4 ?_
     refine SL.sim tk 1 [(5, vs 2), (20, vb (x_2.2 == x_3.2)), (21, vs 1)] [] [] [] (by kernel_rfl) ?_
     refine SL.yes rfl rfl hg_4 ?_
     refine SL.sim tk 1 [(20, vb (x_2.2 == x_3.2)), (21, vs 1), (22, vs 2)] [] [] [] (by kernel_rfl) ?_
     refine SL.yes rfl rfl hg_4 ?_
     obtain ⟨x_11, e_x_11, hp⟩ := bind_inv hp
     refine SL.eff (e_c Try.call15 (ok_wirelessref23_Same F x_2.1 x_3.1 _ e_x_11) [.g 1, .g 2] [vs 1, vs 2] (vb x_11) (by kernel_rfl) (.inl rfl)) rfl (by kernel_rfl) ?_
     refine SL.pickt rfl hg_4 rfl rfl ?_
     refine SL.nilJ fun a w h => ?_
     obtain rfl := some_inv' hp
     exact h.at (js := []) (by kernel_rfl)
   · replace hp := if_f hp hg_4
     refine SL.no rfl rfl hg_4 rfl ?_
     refine SL.no rfl rfl hg_4 rfl ?_
     refine SL.no rfl rfl hg_4 rfl ?_
     refine SL.pickf rfl hg_4 rfl rfl ?_
     refine SL.nilJ fun a w h => ?_
     obtain rfl := some_inv' hp
     exact h.at (js := []) (by kernel_rfl)
 · intro a w h
   have hp := hpr; clear hpr hz
   refine h.goL ?_
   refine SL.sim tk 1 [(25, vb z_5)] [] [] [] (by kernel_rfl) ?_
   obtain ⟨z_7, hz, hpr⟩ := bind_inv hp
   clear hp
   refine SL.cutAt 2 (fun a w => A 28 0 fx [(27, vb z_7)] [] a w) ?_ ?_
   · have hp := hz
     rcases Bool.eq_false_or_eq_true (z_5) with hg_6 | hg_6
     · replace hp := if_t hp hg_6
       refine SL.yes rfl rfl hg_6 ?_
       obtain ⟨x_9, e_x_9, hp⟩ := bind_inv hp
       refine SL.eff (e_c Try.call12 (ok_wirelesslaw34_exampleHolds F  _ e_x_9) [] [] (vb x_9) (by kernel_rfl) (.inl rfl)) rfl (by kernel_rfl) ?_
       refine SL.pickt rfl hg_6 rfl rfl ?_
       refine SL.nilJ fun a w h => ?_
       obtain rfl := some_inv' hp
       exact h.at (js := []) (by kernel_rfl)
     · replace hp := if_f hp hg_6
       refine SL.no rfl rfl hg_6 rfl ?_
       refine SL.pickf rfl hg_6 rfl rfl ?_
       refine SL.nilJ fun a w h => ?_
       obtain rfl := some_inv' hp
       exact h.at (js := []) (by kernel_rfl)
   · intro a w h
     have hp := hpr; clear hpr hz
     refine h.goL ?_
     refine SL.sim tk 1 [(2, vb z_7)] [] [] [] (by kernel_rfl) ?_
     refine SL.nilThen ?_
     obtain rfl := some_inv' hp
     exact SC.re (js := []) tk (by kernel_rfl)
end V
end Go.Proofs.Ytndnilndhmalfaa
