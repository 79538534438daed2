/-
  Walks, written by program: each Go function returns what its pure twin says.
-/
import Derived.Test.YtphigebccfoppaaW0
namespace Go.Proofs.Ytphigebccfoppaa
namespace V
theorem ok_friend_Got (F : Nat) (l_1 : T_api_LowPower) (from_2 : Int) (more_3 : Bool) (now_4 : Int) (r : T_api_LowPower × Bool) (hp : friend_Got F l_1 from_2 more_3 now_4 = some r) : Spec Try.prog 34 [.g (C_api_LowPower l_1 (.s 0)), vi .u16 from_2, vb more_3, vi .i64 now_4] [.rd 1 (RInt .u16) l_1.Subs] (.u [.inr (C_api_LowPower (T_api_LowPower.mk r.1.Phase r.1.Friend r.1.Bit r.1.Counter r.1.Due r.1.Tries r.1.Subs r.1.Told r.1.More r.1.Last) (.s 1)), .inl (cb r.2)]) [.gone, .rd 1 (RInt .u16) r.1.Subs] := by
 refine Spec.enter Try.func34 rfl Try.ntmps34 rfl rfl fun fx => ?_
 refine SC.seq ?_
 refine SC.reg ?_
 refine SL.eff (e_box (E := 47) (C_api_LowPower l_1 (.s 0)) (by kernel_rfl)) rfl (by kernel_rfl) ?_
 refine SL.eff (e_alloc (E := 47) tk (C_api_LowPower (T_api_LowPower.mk 0 0 0 0 0 0 [] 0 false 0) nl) (by kernel_rfl)) rfl (by kernel_rfl) ?_
 refine SL.sim tk 1 [(1, vi .u16 from_2), (2, vb more_3), (3, vi .i64 now_4), (4, vp 1 0), (8, vp 2 0)] [] [] [] (by kernel_rfl) ?_
 refine SL.nilThen ?_
 refine SC.seq ?_
 refine SC.reg ?_
 refine SL.sim tk 2 [(1, vi .u16 from_2), (2, vb more_3), (3, vi .i64 now_4), (4, vp 1 0), (8, vp 2 0), (12, vs 0)] [] [] [] (by kernel_rfl) ?_
 obtain ⟨x_5, e_x_5, hp⟩ := bind_inv hp
 refine SL.eff (e_c Try.call33 (ok_slices_Clone_uint16_uint16 F l_1.Subs _ e_x_5) [.g 0] [vs 0] (vs 3) (by kernel_rfl) (.inl rfl)) rfl (by kernel_rfl) ?_
 refine SL.norm (itsN := [.rd 1 (RInt .u16) l_1.Subs, .blk 47 (C_api_LowPower l_1 (.s 0)), .blk 47 (C_api_LowPower (T_api_LowPower.mk 0 0 0 0 0 0 [] 0 false 0) nl), .rd 1 (RInt .u16) x_5]) (by kernel_rfl) ?_
 refine SL.sim tk 2 [(1, vi .u16 from_2), (2, vb more_3), (3, vi .i64 now_4), (4, vp 1 0), (8, vp 2 0)] [(1, 47, (C_api_LowPower ({ l_1 with Subs := x_5 }) (.s 3)))] [] [] (by kernel_rfl) ?_
 refine SL.nilThen ?_
 refine SC.r tk [(1, vi .u16 from_2), (2, vb more_3), (3, vi .i64 now_4), (4, vp 1 0), (8, vp 2 0), (10, vb ((decide (l_1.Tries ≥ 1)) && ((l_1.Phase == 2) || ((l_1.Phase == 3) && (l_1.Told == (len x_5))))))] [] [] [] (by kernel_rfl) ?_
 refine SC.seq ?_
 refine SC.r tk [(2, vb more_3), (3, vi .i64 now_4), (4, vp 1 0), (8, vp 2 0), (43, vb ((!((decide (l_1.Tries ≥ 1)) && ((l_1.Phase == 2) || ((l_1.Phase == 3) && (l_1.Told == (len x_5)))))) || (from_2 != l_1.Friend)))] [] [] [] (by kernel_rfl) ?_
 refine SC.if' rfl hp (fun hp => ?_) (fun hp => ?_)
 · refine SC.r tk [(8, vp 2 0), (9, vb false)] [(2, 47, (C_api_LowPower ({ l_1 with Subs := x_5 }) (.s 3)))] [] [] (by kernel_rfl) ?_
   obtain rfl := some_inv' hp
   exact SC.re (js := [.g 0, .g 3]) tk (by kernel_rfl)
 · refine SC.skipThen ?_
   refine SC.r tk [(2, vb more_3), (3, vi .i64 now_4), (4, vp 1 0), (8, vp 2 0)] [(1, 47, (C_api_LowPower ({ l_1 with Phase := 3, Bit := w64 (1 - l_1.Bit), Due := now_4, Tries := 0, Subs := x_5, More := more_3, Last := now_4 }) (.s 3)))] [] [] (by kernel_rfl) ?_
   refine SC.cut (fun a w => ∃ (x_6 : Int), friend_Got_j1 F l_1 more_3 now_4 x_5 x_6 = some r ∧ A 67 1 fx [(4, vp 1 0), (8, vp 3 0)] [.gone, .blk 47 (C_api_LowPower ({ l_1 with Phase := 3, Bit := w64 (1 - l_1.Bit), Due := x_6, Tries := 0, Subs := x_5, More := more_3, Last := now_4 }) (.s 2)), .rd 1 (RInt .u16) x_5, .blk 47 (C_api_LowPower (T_api_LowPower.mk 0 0 0 0 0 0 [] 0 false 0) nl)] a w) ?_ ?_
   · refine SC.seq ?_
     refine SC.reg ?_
     refine SL.sim tk 3 [(3, vi .i64 now_4), (4, vp 1 0), (8, vp 2 0), (59, vb (!more_3))] [] [] [] (by kernel_rfl) ?_
     obtain ⟨z_8, hz, hpr⟩ := bind_inv hp
     clear hp
     refine SL.cutAt 3 (fun a w => A 67 1 fx [(3, vi .i64 now_4), (4, vp 1 0), (8, vp 3 0), (62, vb z_8)] [.gone, .blk 47 (C_api_LowPower ({ l_1 with Phase := 3, Bit := w64 (1 - l_1.Bit), Due := now_4, Tries := 0, Subs := x_5, More := more_3, Last := now_4 }) (.s 2)), .rd 1 (RInt .u16) x_5, .blk 47 (C_api_LowPower (T_api_LowPower.mk 0 0 0 0 0 0 [] 0 false 0) nl)] a w) ?_ ?_
     · have hp := hz
       rcases Bool.eq_false_or_eq_true ((!more_3)) with hg_7 | hg_7
       · replace hp := if_t hp hg_7
         refine SL.yes rfl rfl hg_7 ?_
         refine SL.sim tk 1 [(3, vi .i64 now_4), (4, vp 1 0), (8, vp 2 0), (59, vb (!more_3)), (60, .g (C_api_LowPower ({ l_1 with Phase := 3, Bit := w64 (1 - l_1.Bit), Due := now_4, Tries := 0, Subs := x_5, More := more_3, Last := now_4 }) (.s 3)))] [] [] [] (by kernel_rfl) ?_
         refine SL.yes rfl rfl hg_7 ?_
         obtain ⟨x_10, e_x_10, hp⟩ := bind_inv hp
         refine SL.eff (e_c Try.call54 (ok_friend_known F ({ l_1 with Phase := 3, Bit := w64 (1 - l_1.Bit), Due := now_4, Tries := 0, Subs := x_5, More := more_3, Last := now_4 }) _ e_x_10) [.g 3] [.g (C_api_LowPower ({ l_1 with Phase := 3, Bit := w64 (1 - l_1.Bit), Due := now_4, Tries := 0, Subs := x_5, More := more_3, Last := now_4 }) (.s 3))] (vb x_10) (by kernel_rfl) (.inl rfl)) rfl (by kernel_rfl) ?_
         refine SL.norm (itsN := [.rd 1 (RInt .u16) l_1.Subs, .blk 47 (C_api_LowPower ({ l_1 with Phase := 3, Bit := w64 (1 - l_1.Bit), Due := now_4, Tries := 0, Subs := x_5, More := more_3, Last := now_4 }) (.s 3)), .blk 47 (C_api_LowPower (T_api_LowPower.mk 0 0 0 0 0 0 [] 0 false 0) nl), .rd 1 (RInt .u16) x_5]) (by kernel_rfl) ?_
         refine SL.pickt rfl hg_7 rfl rfl ?_
         refine SL.nilJ fun a w h => ?_
         obtain rfl := some_inv' hp
         exact h.at (js := [.g 0, .g 1, .g 3, .g 2]) (by kernel_rfl)
       · replace hp := if_f hp hg_7
         refine SL.no rfl rfl hg_7 rfl ?_
         refine SL.no rfl rfl hg_7 rfl ?_
         refine SL.pickf rfl hg_7 rfl rfl ?_
         refine SL.nilJ fun a w h => ?_
         obtain rfl := some_inv' hp
         exact h.at (js := [.g 0, .g 1, .g 3, .g 2]) (by kernel_rfl)
     · intro a w h
       have hp := hpr; clear hpr hz
       refine h.goL ?_
       refine SL.nilThen ?_
       refine SC.if' rfl hp (fun hp => ?_) (fun hp => ?_)
       · refine SC.reg ?_
         refine SL.sim tk 4 [(4, vp 1 0), (8, vp 3 0)] [(1, 47, (C_api_LowPower ({ l_1 with Phase := 3, Bit := w64 (1 - l_1.Bit), Due := w64 (now_4 + 50), Tries := 0, Subs := x_5, More := more_3, Last := now_4 }) (.s 2)))] [] [] (by kernel_rfl) ?_
         refine SL.nilJ fun a w h => ?_
         exact ⟨w64 (now_4 + 50), hp, h.at (js := [.g 0, .g 1, .g 2, .g 3]) (by kernel_rfl)⟩
       · refine SC.skipJ fun a w h => ?_
         exact ⟨now_4, hp, h.at (js := [.g 0, .g 1, .g 2, .g 3]) (by kernel_rfl)⟩
   · rintro a w ⟨x_6, hp, h⟩
     refine h.go ?_
     refine SC.r tk [(8, vp 3 0), (9, vb true)] [(3, 47, (C_api_LowPower ({ l_1 with Phase := 3, Bit := w64 (1 - l_1.Bit), Due := x_6, Tries := 0, Subs := x_5, More := more_3, Last := now_4 }) (.s 2)))] [] [] (by kernel_rfl) ?_
     obtain rfl := some_inv' hp
     exact SC.re (js := [.g 0, .g 2]) tk (by kernel_rfl)

theorem ok_wirelessref51_Got (F : Nat) (l_1 : T_api_LowPower) (from_2 : Int) (more_3 : Bool) (now_4 : Int) (r : T_api_LowPower × Bool) (hp : wirelessref51_Got F l_1 from_2 more_3 now_4 = some r) : Spec Try.prog 40 [.g (C_api_LowPower l_1 (.s 0)), vi .u16 from_2, vb more_3, vi .i64 now_4] [.rd 1 (RInt .u16) l_1.Subs] (.u [.inr (C_api_LowPower (T_api_LowPower.mk r.1.Phase r.1.Friend r.1.Bit r.1.Counter r.1.Due r.1.Tries r.1.Subs r.1.Told r.1.More r.1.Last) (.s 1)), .inl (cb r.2)]) [.gone, .rd 1 (RInt .u16) r.1.Subs] := by
 refine Spec.enter Try.func40 rfl Try.ntmps40 rfl rfl fun fx => ?_
 refine SC.seq ?_
 refine SC.reg ?_
 refine SL.eff (e_box (E := 47) (C_api_LowPower l_1 (.s 0)) (by kernel_rfl)) rfl (by kernel_rfl) ?_
 refine SL.eff (e_alloc (E := 47) tk (C_api_LowPower (T_api_LowPower.mk 0 0 0 0 0 0 [] 0 false 0) nl) (by kernel_rfl)) rfl (by kernel_rfl) ?_
 refine SL.sim tk 1 [(1, vi .u16 from_2), (2, vb more_3), (3, vi .i64 now_4), (4, vp 1 0), (8, vp 2 0)] [] [] [] (by kernel_rfl) ?_
 refine SL.nilThen ?_
 refine SC.r tk [(1, vi .u16 from_2), (2, vb more_3), (3, vi .i64 now_4), (4, vp 1 0), (8, vp 2 0), (10, vb ((decide (l_1.Tries ≥ 1)) && ((l_1.Phase == 2) || ((l_1.Phase == 3) && (l_1.Told == (len l_1.Subs))))))] [] [] [] (by kernel_rfl) ?_
 refine SC.seq ?_
 refine SC.r tk [(2, vb more_3), (3, vi .i64 now_4), (4, vp 1 0), (8, vp 2 0), (39, vb ((!((decide (l_1.Tries ≥ 1)) && ((l_1.Phase == 2) || ((l_1.Phase == 3) && (l_1.Told == (len l_1.Subs)))))) || (from_2 != l_1.Friend)))] [] [] [] (by kernel_rfl) ?_
 refine SC.if' rfl hp (fun hp => ?_) (fun hp => ?_)
 · refine SC.r tk [(8, vp 2 0), (9, vb false)] [(2, 47, (C_api_LowPower l_1 (.s 0)))] [] [] (by kernel_rfl) ?_
   obtain rfl := some_inv' hp
   exact SC.re (js := [.g 0, .g 0]) tk (by kernel_rfl)
 · refine SC.skipThen ?_
   refine SC.r tk [(2, vb more_3), (3, vi .i64 now_4), (4, vp 1 0), (8, vp 2 0)] [(1, 47, (C_api_LowPower ({ l_1 with Phase := 3 }) (.s 0)))] [] [] (by kernel_rfl) ?_
   refine SC.r tk [(2, vb more_3), (3, vi .i64 now_4), (4, vp 1 0), (8, vp 2 0)] [(1, 47, (C_api_LowPower ({ l_1 with Phase := 3, Bit := w64 (1 - l_1.Bit) }) (.s 0)))] [] [] (by kernel_rfl) ?_
   refine SC.r tk [(2, vb more_3), (3, vi .i64 now_4), (4, vp 1 0), (8, vp 2 0)] [(1, 47, (C_api_LowPower ({ l_1 with Phase := 3, Bit := w64 (1 - l_1.Bit), More := more_3 }) (.s 0)))] [] [] (by kernel_rfl) ?_
   refine SC.r tk [(2, vb more_3), (3, vi .i64 now_4), (4, vp 1 0), (8, vp 2 0)] [(1, 47, (C_api_LowPower ({ l_1 with Phase := 3, Bit := w64 (1 - l_1.Bit), More := more_3, Last := now_4 }) (.s 0)))] [] [] (by kernel_rfl) ?_
   refine SC.r tk [(2, vb more_3), (3, vi .i64 now_4), (4, vp 1 0), (8, vp 2 0)] [(1, 47, (C_api_LowPower ({ l_1 with Phase := 3, Bit := w64 (1 - l_1.Bit), Tries := 0, More := more_3, Last := now_4 }) (.s 0)))] [] [] (by kernel_rfl) ?_
   refine SC.r tk [(2, vb more_3), (3, vi .i64 now_4), (4, vp 1 0), (8, vp 2 0)] [(1, 47, (C_api_LowPower ({ l_1 with Phase := 3, Bit := w64 (1 - l_1.Bit), Due := w64 (now_4 + 50), Tries := 0, More := more_3, Last := now_4 }) (.s 0)))] [] [] (by kernel_rfl) ?_
   refine SC.cut (fun a w => ∃ (x_5 : Int), wirelessref51_Got_j1 F l_1 more_3 now_4 x_5 = some r ∧ A 66 1 fx [(4, vp 1 0), (8, vp 2 0)] [.rd 1 (RInt .u16) l_1.Subs, .blk 47 (C_api_LowPower ({ l_1 with Phase := 3, Bit := w64 (1 - l_1.Bit), Due := x_5, Tries := 0, More := more_3, Last := now_4 }) (.s 0)), .blk 47 (C_api_LowPower (T_api_LowPower.mk 0 0 0 0 0 0 [] 0 false 0) nl)] a w) ?_ ?_
   · refine SC.r tk [(3, vi .i64 now_4), (4, vp 1 0), (8, vp 2 0), (62, vb (more_3 || (decide (l_1.Told < (len l_1.Subs)))))] [] [] [] (by kernel_rfl) ?_
     refine SC.if' rfl hp (fun hp => ?_) (fun hp => ?_)
     · refine SC.reg ?_
       refine SL.sim tk 3 [(4, vp 1 0), (8, vp 2 0)] [(1, 47, (C_api_LowPower ({ l_1 with Phase := 3, Bit := w64 (1 - l_1.Bit), Due := now_4, Tries := 0, More := more_3, Last := now_4 }) (.s 0)))] [] [] (by kernel_rfl) ?_
       refine SL.nilJ fun a w h => ?_
       exact ⟨now_4, hp, h.at (js := [.g 0, .g 1, .g 2]) (by kernel_rfl)⟩
     · refine SC.skipJ fun a w h => ?_
       exact ⟨w64 (now_4 + 50), hp, h.at (js := [.g 0, .g 1, .g 2]) (by kernel_rfl)⟩
   · rintro a w ⟨x_5, hp, h⟩
     refine h.go ?_
     refine SC.r tk [(8, vp 2 0), (9, vb true)] [(2, 47, (C_api_LowPower ({ l_1 with Phase := 3, Bit := w64 (1 - l_1.Bit), Due := x_5, Tries := 0, More := more_3, Last := now_4 }) (.s 0)))] [] [] (by kernel_rfl) ?_
     obtain rfl := some_inv' hp
     exact SC.re (js := [.g 0, .g 0]) tk (by kernel_rfl)

theorem ok_friend_Told (F : Nat) (l_1 : T_api_LowPower) (from_2 : Int) (group_3 : Int) (now_4 : Int) (r : T_api_LowPower) (hp : friend_Told F l_1 from_2 group_3 now_4 = some r) : Spec Try.prog 41 [.g (C_api_LowPower l_1 (.s 0)), vi .u16 from_2, vi .u16 group_3, vi .i64 now_4] [.rd 1 (RInt .u16) l_1.Subs] (.g (C_api_LowPower (T_api_LowPower.mk r.Phase r.Friend r.Bit r.Counter r.Due r.Tries r.Subs r.Told r.More r.Last) (.s 1))) [.gone, .rd 1 (RInt .u16) r.Subs] := by
 refine Spec.enter Try.func41 rfl Try.ntmps41 rfl rfl fun fx => ?_
 refine SC.seq ?_
 refine SC.reg ?_
 refine SL.eff (e_box (E := 47) (C_api_LowPower l_1 (.s 0)) (by kernel_rfl)) rfl (by kernel_rfl) ?_
 refine SL.eff (e_alloc (E := 47) tk (C_api_LowPower (T_api_LowPower.mk 0 0 0 0 0 0 [] 0 false 0) nl) (by kernel_rfl)) rfl (by kernel_rfl) ?_
 refine SL.nilThen ?_
 refine SC.seq ?_
 refine SC.reg ?_
 refine SL.sim tk 2 [(1, vi .u16 from_2), (2, vi .u16 group_3), (3, vi .i64 now_4), (4, vp 1 0), (8, vp 2 0), (10, vs 0)] [] [] [] (by kernel_rfl) ?_
 obtain ⟨x_5, e_x_5, hp⟩ := bind_inv hp
 refine SL.eff (e_c Try.call33 (ok_slices_Clone_uint16_uint16 F l_1.Subs _ e_x_5) [.g 0] [vs 0] (vs 3) (by kernel_rfl) (.inl rfl)) rfl (by kernel_rfl) ?_
 refine SL.norm (itsN := [.rd 1 (RInt .u16) l_1.Subs, .blk 47 (C_api_LowPower l_1 (.s 0)), .blk 47 (C_api_LowPower (T_api_LowPower.mk 0 0 0 0 0 0 [] 0 false 0) nl), .rd 1 (RInt .u16) x_5]) (by kernel_rfl) ?_
 refine SL.sim tk 2 [(1, vi .u16 from_2), (2, vi .u16 group_3), (3, vi .i64 now_4), (4, vp 1 0), (8, vp 2 0)] [(1, 47, (C_api_LowPower ({ l_1 with Subs := x_5 }) (.s 3)))] [] [] (by kernel_rfl) ?_
 refine SL.nilThen ?_
 refine SC.seq ?_
 refine SC.seq ?_
 refine SC.reg ?_
 refine SL.sim tk 10 [(2, vi .u16 group_3), (3, vi .i64 now_4), (4, vp 1 0), (8, vp 2 0), (22, vb ((l_1.Phase != 3) || (from_2 != l_1.Friend)))] [] [] [] (by kernel_rfl) ?_
 obtain ⟨z_7, hz, hpr⟩ := bind_inv hp
 clear hp
 refine SL.cutAt 3 (fun a w => A 47 1 fx [(2, vi .u16 group_3), (3, vi .i64 now_4), (4, vp 1 0), (8, vp 3 0), (25, vb z_7)] [.gone, .blk 47 (C_api_LowPower ({ l_1 with Subs := x_5 }) (.s 2)), .rd 1 (RInt .u16) x_5, .blk 47 (C_api_LowPower (T_api_LowPower.mk 0 0 0 0 0 0 [] 0 false 0) nl)] a w) ?_ ?_
 · have hp := hz
   rcases Bool.eq_false_or_eq_true (((l_1.Phase != 3) || (from_2 != l_1.Friend))) with hg_6 | hg_6
   · replace hp := if_t hp hg_6
     refine SL.no rfl rfl hg_6 rfl ?_
     refine SL.no rfl rfl hg_6 rfl ?_
     refine SL.pickt rfl hg_6 rfl rfl ?_
     refine SL.nilJ fun a w h => ?_
     obtain rfl := some_inv' hp
     exact h.at (js := [.g 0, .g 1, .g 3, .g 2]) (by kernel_rfl)
   · replace hp := if_f hp hg_6
     refine SL.yes rfl rfl hg_6 ?_
     refine SL.sim tk 1 [(2, vi .u16 group_3), (3, vi .i64 now_4), (4, vp 1 0), (8, vp 2 0), (22, vb ((l_1.Phase != 3) || (from_2 != l_1.Friend))), (23, .g (C_api_LowPower ({ l_1 with Subs := x_5 }) (.s 3)))] [] [] [] (by kernel_rfl) ?_
     refine SL.yes rfl rfl hg_6 ?_
     obtain ⟨x_13, e_x_13, hp⟩ := bind_inv hp
     refine SL.eff (e_c Try.call54 (ok_friend_known F ({ l_1 with Subs := x_5 }) _ e_x_13) [.g 3] [.g (C_api_LowPower ({ l_1 with Subs := x_5 }) (.s 3))] (vb x_13) (by kernel_rfl) (.inl rfl)) rfl (by kernel_rfl) ?_
     refine SL.pickf rfl hg_6 rfl rfl ?_
     refine SL.nilJ fun a w h => ?_
     obtain rfl := some_inv' hp
     exact h.at (js := [.g 0, .g 1, .g 3, .g 2]) (by kernel_rfl)
 · intro a w h
   have hp := hpr; clear hpr hz
   refine h.goL ?_
   refine SL.sim tk 1 [(2, vi .u16 group_3), (3, vi .i64 now_4), (4, vp 1 0), (8, vp 3 0), (26, vb z_7)] [] [] [] (by kernel_rfl) ?_
   obtain ⟨z_9, hz, hpr⟩ := bind_inv hp
   clear hp
   refine SL.cutAt 9 (fun a w => A 47 1 fx [(3, vi .i64 now_4), (4, vp 1 0), (8, vp 3 0), (35, vb z_9)] [.gone, .blk 47 (C_api_LowPower ({ l_1 with Subs := x_5 }) (.s 2)), .rd 1 (RInt .u16) x_5, .blk 47 (C_api_LowPower (T_api_LowPower.mk 0 0 0 0 0 0 [] 0 false 0) nl)] a w) ?_ ?_
   · have hp := hz
     rcases Bool.eq_false_or_eq_true (z_7) with hg_8 | hg_8
     · replace hp := if_t hp hg_8
       refine SL.no rfl rfl hg_8 rfl ?_
       refine SL.no rfl rfl hg_8 rfl ?_
       refine SL.no rfl rfl hg_8 rfl ?_
       refine SL.no rfl rfl hg_8 rfl ?_
       refine SL.no rfl rfl hg_8 rfl ?_
       refine SL.no rfl rfl hg_8 rfl ?_
       refine SL.no rfl rfl hg_8 rfl ?_
       refine SL.no rfl rfl hg_8 rfl ?_
       refine SL.pickt rfl hg_8 rfl rfl ?_
       refine SL.nilJ fun a w h => ?_
       obtain rfl := some_inv' hp
       exact h.at (js := [.g 0, .g 1, .g 2, .g 3]) (by kernel_rfl)
     · replace hp := if_f hp hg_8
       refine SL.yes rfl rfl hg_8 ?_
       refine SL.sim tk 1 [(2, vi .u16 group_3), (3, vi .i64 now_4), (4, vp 1 0), (8, vp 3 0), (26, vb z_7), (27, vp 1 6)] [] [] [] (by kernel_rfl) ?_
       refine SL.yes rfl rfl hg_8 ?_
       refine SL.sim tk 1 [(2, vi .u16 group_3), (3, vi .i64 now_4), (4, vp 1 0), (8, vp 3 0), (26, vb z_7), (28, vs 2)] [] [] [] (by kernel_rfl) ?_
       refine SL.yes rfl rfl hg_8 ?_
       refine SL.sim tk 1 [(2, vi .u16 group_3), (3, vi .i64 now_4), (4, vp 1 0), (8, vp 3 0), (26, vb z_7), (28, vs 2), (29, vp 1 7)] [] [] [] (by kernel_rfl) ?_
       refine SL.yes rfl rfl hg_8 ?_
       refine SL.sim tk 1 [(2, vi .u16 group_3), (3, vi .i64 now_4), (4, vp 1 0), (8, vp 3 0), (26, vb z_7), (28, vs 2), (30, vi .i64 l_1.Told)] [] [] [] (by kernel_rfl) ?_
       refine SL.yes rfl rfl hg_8 ?_
       obtain ⟨x_11, e_x_11, hp⟩ := bind_inv hp
       refine SL.pre (pre_ix (i := 2) (iv := l_1.Told) (sz := 1) (R := (RInt .u16)) (l := x_5) (by kernel_rfl) rfl e_x_11) ?_
       refine SL.sim tk 1 [(2, vi .u16 group_3), (3, vi .i64 now_4), (4, vp 1 0), (8, vp 3 0), (26, vb z_7), (31, vp 4 0)] [] [.el 4] [l_1.Told] (by kernel_rfl) ?_
       refine SL.yes rfl rfl hg_8 ?_
       refine SL.sim tk 1 [(2, vi .u16 group_3), (3, vi .i64 now_4), (4, vp 1 0), (8, vp 3 0), (26, vb z_7), (32, vi .u16 x_11)] [] [] [] (by kernel_rfl) ?_
       refine SL.yes rfl rfl hg_8 ?_
       refine SL.sim tk 1 [(3, vi .i64 now_4), (4, vp 1 0), (8, vp 3 0), (26, vb z_7), (32, vi .u16 x_11), (33, vi .u16 group_3)] [] [] [] (by kernel_rfl) ?_
       refine SL.yes rfl rfl hg_8 ?_
       refine SL.sim tk 1 [(3, vi .i64 now_4), (4, vp 1 0), (8, vp 3 0), (26, vb z_7), (34, vb (x_11 != group_3))] [] [] [] (by kernel_rfl) ?_
       refine SL.pickf rfl hg_8 rfl rfl ?_
       refine SL.nilJ fun a w h => ?_
       obtain rfl := some_inv' hp
       exact h.at (js := [.g 0, .g 1, .g 2, .g 3]) (by kernel_rfl)
   · intro a w h
     have hp := hpr; clear hpr hz
     refine h.goL ?_
     refine SL.nilThen ?_
     refine SC.if' rfl hp (fun hp => ?_) (fun hp => ?_)
     · refine SC.r tk [(8, vp 3 0)] [(3, 47, (C_api_LowPower ({ l_1 with Subs := x_5 }) (.s 2)))] [] [] (by kernel_rfl) ?_
       obtain rfl := some_inv' hp
       exact SC.re (js := [.g 0, .g 2]) tk (by kernel_rfl)
     · refine SC.skipThen ?_
       refine SC.r tk [(3, vi .i64 now_4), (4, vp 1 0), (8, vp 3 0)] [(1, 47, (C_api_LowPower ({ l_1 with Subs := x_5, Told := w64 (l_1.Told + 1) }) (.s 2)))] [] [] (by kernel_rfl) ?_
       refine SC.r tk [(4, vp 1 0), (8, vp 3 0)] [(1, 47, (C_api_LowPower ({ l_1 with Due := now_4, Tries := 0, Subs := x_5, Told := w64 (l_1.Told + 1), Last := now_4 }) (.s 2)))] [] [] (by kernel_rfl) ?_
       refine SC.r tk [(8, vp 3 0)] [(3, 47, (C_api_LowPower ({ l_1 with Due := now_4, Tries := 0, Subs := x_5, Told := w64 (l_1.Told + 1), Last := now_4 }) (.s 2)))] [] [] (by kernel_rfl) ?_
       obtain rfl := some_inv' hp
       exact SC.re (js := [.g 0, .g 2]) tk (by kernel_rfl)

theorem ok_wirelessref51_Told (F : Nat) (l_1 : T_api_LowPower) (from_2 : Int) (group_3 : Int) (now_4 : Int) (r : T_api_LowPower) (hp : wirelessref51_Told F l_1 from_2 group_3 now_4 = some r) : Spec Try.prog 42 [.g (C_api_LowPower l_1 (.s 0)), vi .u16 from_2, vi .u16 group_3, vi .i64 now_4] [.rd 1 (RInt .u16) l_1.Subs] (.g (C_api_LowPower (T_api_LowPower.mk r.Phase r.Friend r.Bit r.Counter r.Due r.Tries r.Subs r.Told r.More r.Last) (.s 1))) [.gone, .rd 1 (RInt .u16) r.Subs] := by
 refine Spec.enter Try.func42 rfl Try.ntmps42 rfl rfl fun fx => ?_
 refine SC.seq ?_
 refine SC.reg ?_
 refine SL.eff (e_box (E := 47) (C_api_LowPower l_1 (.s 0)) (by kernel_rfl)) rfl (by kernel_rfl) ?_
 refine SL.eff (e_alloc (E := 47) tk (C_api_LowPower (T_api_LowPower.mk 0 0 0 0 0 0 [] 0 false 0) nl) (by kernel_rfl)) rfl (by kernel_rfl) ?_
 refine SL.nilThen ?_
 refine SC.seq ?_
 refine SC.seq ?_
 refine SC.reg ?_
 refine SL.sim tk 18 [(2, vi .u16 group_3), (3, vi .i64 now_4), (4, vp 1 0), (8, vp 2 0), (26, vb (((l_1.Phase != 3) || (from_2 != l_1.Friend)) || (decide (l_1.Told ≥ (len l_1.Subs)))))] [] [] [] (by kernel_rfl) ?_
 obtain ⟨z_6, hz, hpr⟩ := bind_inv hp
 clear hp
 refine SL.cutAt 9 (fun a w => A 47 1 fx [(3, vi .i64 now_4), (4, vp 1 0), (8, vp 2 0), (35, vb z_6)] [.rd 1 (RInt .u16) l_1.Subs, .blk 47 (C_api_LowPower l_1 (.s 0)), .blk 47 (C_api_LowPower (T_api_LowPower.mk 0 0 0 0 0 0 [] 0 false 0) nl)] a w) ?_ ?_
 · have hp := hz
   rcases Bool.eq_false_or_eq_true ((((l_1.Phase != 3) || (from_2 != l_1.Friend)) || (decide (l_1.Told ≥ (len l_1.Subs))))) with hg_5 | hg_5
   · replace hp := if_t hp hg_5
     refine SL.no rfl rfl hg_5 rfl ?_
     refine SL.no rfl rfl hg_5 rfl ?_
     refine SL.no rfl rfl hg_5 rfl ?_
     refine SL.no rfl rfl hg_5 rfl ?_
     refine SL.no rfl rfl hg_5 rfl ?_
     refine SL.no rfl rfl hg_5 rfl ?_
     refine SL.no rfl rfl hg_5 rfl ?_
     refine SL.no rfl rfl hg_5 rfl ?_
     refine SL.pickt rfl hg_5 rfl rfl ?_
     refine SL.nilJ fun a w h => ?_
     obtain rfl := some_inv' hp
     exact h.at (js := [.g 0, .g 1, .g 2]) (by kernel_rfl)
   · replace hp := if_f hp hg_5
     refine SL.yes rfl rfl hg_5 ?_
     refine SL.sim tk 1 [(2, vi .u16 group_3), (3, vi .i64 now_4), (4, vp 1 0), (8, vp 2 0), (26, vb (((l_1.Phase != 3) || (from_2 != l_1.Friend)) || (decide (l_1.Told ≥ (len l_1.Subs))))), (27, vp 1 6)] [] [] [] (by kernel_rfl) ?_
     refine SL.yes rfl rfl hg_5 ?_
     refine SL.sim tk 1 [(2, vi .u16 group_3), (3, vi .i64 now_4), (4, vp 1 0), (8, vp 2 0), (26, vb (((l_1.Phase != 3) || (from_2 != l_1.Friend)) || (decide (l_1.Told ≥ (len l_1.Subs))))), (28, vs 0)] [] [] [] (by kernel_rfl) ?_
     refine SL.yes rfl rfl hg_5 ?_
     refine SL.sim tk 1 [(2, vi .u16 group_3), (3, vi .i64 now_4), (4, vp 1 0), (8, vp 2 0), (26, vb (((l_1.Phase != 3) || (from_2 != l_1.Friend)) || (decide (l_1.Told ≥ (len l_1.Subs))))), (28, vs 0), (29, vp 1 7)] [] [] [] (by kernel_rfl) ?_
     refine SL.yes rfl rfl hg_5 ?_
     refine SL.sim tk 1 [(2, vi .u16 group_3), (3, vi .i64 now_4), (4, vp 1 0), (8, vp 2 0), (26, vb (((l_1.Phase != 3) || (from_2 != l_1.Friend)) || (decide (l_1.Told ≥ (len l_1.Subs))))), (28, vs 0), (30, vi .i64 l_1.Told)] [] [] [] (by kernel_rfl) ?_
     refine SL.yes rfl rfl hg_5 ?_
     obtain ⟨x_8, e_x_8, hp⟩ := bind_inv hp
     refine SL.pre (pre_ix (i := 0) (iv := l_1.Told) (sz := 1) (R := (RInt .u16)) (l := l_1.Subs) (by kernel_rfl) rfl e_x_8) ?_
     refine SL.sim tk 1 [(2, vi .u16 group_3), (3, vi .i64 now_4), (4, vp 1 0), (8, vp 2 0), (26, vb (((l_1.Phase != 3) || (from_2 != l_1.Friend)) || (decide (l_1.Told ≥ (len l_1.Subs))))), (31, vp 3 0)] [] [.el 3] [l_1.Told] (by kernel_rfl) ?_
     refine SL.yes rfl rfl hg_5 ?_
     refine SL.sim tk 1 [(2, vi .u16 group_3), (3, vi .i64 now_4), (4, vp 1 0), (8, vp 2 0), (26, vb (((l_1.Phase != 3) || (from_2 != l_1.Friend)) || (decide (l_1.Told ≥ (len l_1.Subs))))), (32, vi .u16 x_8)] [] [] [] (by kernel_rfl) ?_
     refine SL.yes rfl rfl hg_5 ?_
     refine SL.sim tk 1 [(3, vi .i64 now_4), (4, vp 1 0), (8, vp 2 0), (26, vb (((l_1.Phase != 3) || (from_2 != l_1.Friend)) || (decide (l_1.Told ≥ (len l_1.Subs))))), (32, vi .u16 x_8), (33, vi .u16 group_3)] [] [] [] (by kernel_rfl) ?_
     refine SL.yes rfl rfl hg_5 ?_
     refine SL.sim tk 1 [(3, vi .i64 now_4), (4, vp 1 0), (8, vp 2 0), (26, vb (((l_1.Phase != 3) || (from_2 != l_1.Friend)) || (decide (l_1.Told ≥ (len l_1.Subs))))), (34, vb (x_8 != group_3))] [] [] [] (by kernel_rfl) ?_
     refine SL.pickf rfl hg_5 rfl rfl ?_
     refine SL.nilJ fun a w h => ?_
     obtain rfl := some_inv' hp
     exact h.at (js := [.g 0, .g 1, .g 2]) (by kernel_rfl)
 · intro a w h
   have hp := hpr; clear hpr hz
   refine h.goL ?_
   refine SL.nilThen ?_
   refine SC.if' rfl hp (fun hp => ?_) (fun hp => ?_)
   · refine SC.r tk [(8, vp 2 0)] [(2, 47, (C_api_LowPower l_1 (.s 0)))] [] [] (by kernel_rfl) ?_
     obtain rfl := some_inv' hp
     exact SC.re (js := [.g 0, .g 0]) tk (by kernel_rfl)
   · refine SC.skipThen ?_
     refine SC.r tk [(3, vi .i64 now_4), (4, vp 1 0), (8, vp 2 0)] [(1, 47, (C_api_LowPower ({ l_1 with Told := w64 (l_1.Told + 1) }) (.s 0)))] [] [] (by kernel_rfl) ?_
     refine SC.r tk [(3, vi .i64 now_4), (4, vp 1 0), (8, vp 2 0)] [(1, 47, (C_api_LowPower ({ l_1 with Tries := 0, Told := w64 (l_1.Told + 1) }) (.s 0)))] [] [] (by kernel_rfl) ?_
     refine SC.r tk [(3, vi .i64 now_4), (4, vp 1 0), (8, vp 2 0)] [(1, 47, (C_api_LowPower ({ l_1 with Tries := 0, Told := w64 (l_1.Told + 1), Last := now_4 }) (.s 0)))] [] [] (by kernel_rfl) ?_
     refine SC.r tk [(4, vp 1 0), (8, vp 2 0)] [(1, 47, (C_api_LowPower ({ l_1 with Due := now_4, Tries := 0, Told := w64 (l_1.Told + 1), Last := now_4 }) (.s 0)))] [] [] (by kernel_rfl) ?_
     refine SC.r tk [(8, vp 2 0)] [(2, 47, (C_api_LowPower ({ l_1 with Due := now_4, Tries := 0, Told := w64 (l_1.Told + 1), Last := now_4 }) (.s 0)))] [] [] (by kernel_rfl) ?_
     obtain rfl := some_inv' hp
     exact SC.re (js := [.g 0, .g 0]) tk (by kernel_rfl)

theorem ok_wirelesslaw51_ask (F : Nat) (p_1 : T_api_LowPower) (o_2 : T_wirelesslaw51_Op) (r : T_api_LowPower × Bool) (hp : wirelesslaw51_ask F p_1 o_2 = some r) : Spec Try.prog 16 [.g (C_api_LowPower p_1 (.s 0)), .g (C_wirelesslaw51_Op o_2 (.s 1) (.s 2) (.s 3))] [.rd 1 (RInt .u16) p_1.Subs, .rd 1 R8 o_2.Q.PDU.Payload, .rd 1 R8 o_2.Q.Lower.Bytes, .rd 1 (RInt .u16) o_2.Subs] (.u [.inr (C_api_LowPower (T_api_LowPower.mk r.1.Phase r.1.Friend r.1.Bit r.1.Counter r.1.Due r.1.Tries r.1.Subs r.1.Told r.1.More r.1.Last) (.s 4)), .inl (cb r.2)]) [.gone, .gone, .gone, .gone, .rd 1 (RInt .u16) r.1.Subs] := by
 refine Spec.enter Try.func16 rfl Try.ntmps16 rfl rfl fun fx => ?_
 refine SC.seq ?_
 refine SC.reg ?_
 refine SL.eff (e_box (E := 47) (C_api_LowPower p_1 (.s 0)) (by kernel_rfl)) rfl (by kernel_rfl) ?_
 refine SL.eff (e_box (E := 40) (C_wirelesslaw51_Op o_2 (.s 1) (.s 2) (.s 3)) (by kernel_rfl)) rfl (by kernel_rfl) ?_
 refine SL.eff (e_alloc (E := 47) tk (C_api_LowPower (T_api_LowPower.mk 0 0 0 0 0 0 [] 0 false 0) nl) (by kernel_rfl)) rfl (by kernel_rfl) ?_
 refine SL.sim tk 1 [(2, vp 4 0), (3, vp 5 0), (4, vp 6 0)] [] [] [] (by kernel_rfl) ?_
 refine SL.nilThen ?_
 refine SC.cut (fun a w => wirelesslaw51_ask_j1 F p_1 o_2 = some r ∧ A 149 4 fx [(2, vp 4 0), (3, vp 5 0), (4, vp 6 0)] [.rd 1 (RInt .u16) p_1.Subs, .rd 1 R8 o_2.Q.PDU.Payload, .rd 1 R8 o_2.Q.Lower.Bytes, .rd 1 (RInt .u16) o_2.Subs, .blk 47 (C_api_LowPower p_1 (.s 0)), .blk 40 (C_wirelesslaw51_Op o_2 (.s 1) (.s 2) (.s 3)), .blk 47 (C_api_LowPower (T_api_LowPower.mk 0 0 0 0 0 0 [] 0 false 0) nl)] a w) ?_ ?_
 · refine SC.r tk [(2, vp 4 0), (3, vp 5 0), (4, vp 6 0), (19, vi .i64 o_2.Kind)] [] [] [] (by kernel_rfl) ?_
   refine SC.block ?_
   refine SC.r tk [(2, vp 4 0), (3, vp 5 0), (4, vp 6 0), (19, vi .i64 o_2.Kind), (20, vb (o_2.Kind == 0))] [] [] [] (by kernel_rfl) ?_
   refine SC.if' rfl hp (fun hp => ?_) (fun hp => ?_)
   · refine SC.seq ?_
     refine SC.reg ?_
     refine SL.sim tk 5 [(2, vp 4 0), (3, vp 5 0), (4, vp 6 0), (22, .g (C_api_LowPower p_1 (.s 0))), (24, vs 3), (26, vi .i64 o_2.Now)] [] [] [] (by kernel_rfl) ?_
     obtain ⟨x_9, e_x_9, hp⟩ := bind_inv hp
     refine SL.eff (e_c Try.call12 (ok_friend_Seek F p_1 o_2.Subs o_2.Now _ e_x_9) [.g 0, .g 3] [.g (C_api_LowPower p_1 (.s 0)), vs 3, vi .i64 o_2.Now] (.g (C_api_LowPower x_9 (.s 7))) (by kernel_rfl) (.inl rfl)) rfl (by kernel_rfl) ?_
     refine SL.norm (itsN := [.rd 1 (RInt .u16) p_1.Subs, .rd 1 R8 o_2.Q.PDU.Payload, .rd 1 R8 o_2.Q.Lower.Bytes, .rd 1 (RInt .u16) o_2.Subs, .blk 47 (C_api_LowPower p_1 (.s 0)), .blk 40 (C_wirelesslaw51_Op o_2 (.s 1) (.s 2) (.s 3)), .blk 47 (C_api_LowPower (T_api_LowPower.mk 0 0 0 0 0 0 [] 0 false 0) nl), .rd 1 (RInt .u16) x_9.Subs]) (by kernel_rfl) ?_
     refine SL.eff (e_alloc (E := 47) tk (C_api_LowPower (T_api_LowPower.mk 0 0 0 0 0 0 [] 0 false 0) nl) (by kernel_rfl)) rfl (by kernel_rfl) ?_
     refine SL.sim tk 1 [(2, vp 4 0), (3, vp 5 0), (4, vp 6 0), (6, vp 8 0)] [(8, 47, (C_api_LowPower x_9 (.s 7)))] [] [] (by kernel_rfl) ?_
     refine SL.nilThen ?_
     refine SC.cut (fun a w => ∃ (z_10 : Bool), wirelesslaw51_ask_j3 F x_9 z_10 = some r ∧ A 149 4 fx [(4, vp 4 0), (5, vb z_10)] [.gone, .gone, .gone, .gone, .blk 47 (C_api_LowPower x_9 (.s 5)), .rd 1 (RInt .u16) x_9.Subs] a w) ?_ ?_
     · refine SC.draw MO [I, I, I, I, I, I, O, I, I] (by kernel_rfl) fun kap_11 D_12 => ?_
       refine SD.takes tk D_12 [] kn0 [0, 1, 2, 3, 4, 5, 6] [] [] [I, I, I, I, I, I, I, O, O, O, O] [(4, vp 6 0), (28, .g (C_api_LowPower x_9 (.s 7))), (29, .g (C_api_LowPower x_9 (.s 7))), (30, .g (C_api_LowPower p_1 (.s 0))), (32, vs 3), (34, vi .i64 o_2.Now)] rfl (by kernel_rfl) (by kernel_rfl) (by kernel_rfl) ?_
       obtain ⟨x_13, e_x_13, hp⟩ := bind_inv hp
       refine SD.all1 (i := 7) (by kernel_rfl) ?_
       refine SW.eff D_12 (i := 7) (bs' := [I, I, I, I, I, I, I, I, O, O, O]) rfl (.inl rfl) rfl (e_c Try.call36 (ok_wirelessref51_Seek F p_1 o_2.Subs o_2.Now _ e_x_13) [.g 0, .g 3] [.g (C_api_LowPower p_1 (.s 0)), vs 3, vi .i64 o_2.Now] (.g (C_api_LowPower x_13 (.s 9))) (by kernel_rfl) (.inl rfl)) (by kernel_rfl) rfl (by kernel_rfl) ?_
       refine SD.norm (itsN := [.rd 1 (RInt .u16) p_1.Subs, .rd 1 R8 o_2.Q.PDU.Payload, .rd 1 R8 o_2.Q.Lower.Bytes, .rd 1 (RInt .u16) o_2.Subs, .blk 47 (C_api_LowPower p_1 (.s 0)), .blk 40 (C_wirelesslaw51_Op o_2 (.s 1) (.s 2) (.s 3)), .blk 47 (C_api_LowPower (T_api_LowPower.mk 0 0 0 0 0 0 [] 0 false 0) nl), .rd 1 (RInt .u16) x_9.Subs, .blk 47 (C_api_LowPower x_9 (.s 7)), .rd 1 (RInt .u16) x_13.Subs]) (by kernel_rfl) ?_
       obtain ⟨x_14, e_x_14, hp⟩ := bind_inv hp
       refine SD.all1 (i := 8) (by kernel_rfl) ?_
       refine SW.eff D_12 (i := 8) (bs' := [I, I, I, I, I, I, I, I, I, O, O]) rfl (.inl rfl) rfl (e_c Try.call35 (ok_wirelesslaw51_SameLow F x_9 x_13 _ e_x_14) [.g 7, .g 9] [.g (C_api_LowPower x_9 (.s 7)), .g (C_api_LowPower x_13 (.s 9))] (vb x_14) (by kernel_rfl) (.inl rfl)) (by kernel_rfl) rfl (by kernel_rfl) ?_
       refine SD.all1 (i := 9) (by kernel_rfl) ?_
       refine SW.store D_12 tk (i := 9) (q := 6) (T := 47) (cs := (C_api_LowPower x_9 (.s 7))) (bs' := [I, I, I, I, I, I, I, I, I, I, O]) rfl (by kernel_rfl) rfl rfl (by kernel_rfl) ?_
       refine SD.norm (itsN := [.rd 1 (RInt .u16) p_1.Subs, .rd 1 R8 o_2.Q.PDU.Payload, .rd 1 R8 o_2.Q.Lower.Bytes, .rd 1 (RInt .u16) o_2.Subs, .blk 47 (C_api_LowPower p_1 (.s 0)), .blk 40 (C_wirelesslaw51_Op o_2 (.s 1) (.s 2) (.s 3)), .blk 47 (C_api_LowPower x_9 (.s 7)), .rd 1 (RInt .u16) x_9.Subs, .blk 47 (C_api_LowPower x_9 (.s 7)), .rd 1 (RInt .u16) x_13.Subs]) (by kernel_rfl) ?_
       refine SD.takes tk D_12 [] kn0 [10] [] [] [I, I, I, I, I, I, I, I, I, I, I] [(4, vp 6 0), (5, vb x_14)] rfl (by kernel_rfl) (by kernel_rfl) (by kernel_rfl) ?_
       refine SD.done (by kernel_rfl) fun a w h => ?_
       exact ⟨x_14, hp, h.at (js := [.g 0, .g 1, .g 2, .g 3, .g 6, .g 7]) (by kernel_rfl)⟩
     · rintro a w ⟨z_10, hp, h⟩
       refine h.go ?_
       obtain rfl := some_inv' hp
       exact SC.re (js := [.g 0, .g 1, .g 2, .g 3, .g 5]) tk (by kernel_rfl)
   · refine SC.r tk [(2, vp 4 0), (3, vp 5 0), (4, vp 6 0), (19, vi .i64 o_2.Kind), (37, vb (o_2.Kind == 1))] [] [] [] (by kernel_rfl) ?_
     refine SC.if' rfl hp (fun hp => ?_) (fun hp => ?_)
     · refine SC.seq ?_
       refine SC.reg ?_
       refine SL.sim tk 3 [(2, vp 4 0), (3, vp 5 0), (4, vp 6 0), (40, .g (C_api_LowPower p_1 (.s 0))), (42, vi .i64 o_2.Now)] [] [] [] (by kernel_rfl) ?_
       obtain ⟨x_15, e_x_15, hp⟩ := bind_inv hp
       refine SL.eff (e_c Try.call23 (ok_friend_Tick F p_1 o_2.Now _ e_x_15) [.g 0] [.g (C_api_LowPower p_1 (.s 0)), vi .i64 o_2.Now] (.u [.inr (C_api_LowPower x_15.1 (.s 7)), .inl (.s 8)]) (by kernel_rfl) (.inl rfl)) rfl (by kernel_rfl) ?_
       refine SL.norm (itsN := [.rd 1 (RInt .u16) p_1.Subs, .rd 1 R8 o_2.Q.PDU.Payload, .rd 1 R8 o_2.Q.Lower.Bytes, .rd 1 (RInt .u16) o_2.Subs, .blk 47 (C_api_LowPower p_1 (.s 0)), .blk 40 (C_wirelesslaw51_Op o_2 (.s 1) (.s 2) (.s 3)), .blk 47 (C_api_LowPower (T_api_LowPower.mk 0 0 0 0 0 0 [] 0 false 0) nl), .rd 1 (RInt .u16) x_15.1.Subs, .rd 10 R_T_api_Lower x_15.2]) (by kernel_rfl) ?_
       refine SL.sim tk 3 [(2, vp 4 0), (3, vp 5 0), (4, vp 6 0), (44, .g (C_api_LowPower x_15.1 (.s 7))), (45, vs 8)] [] [] [] (by kernel_rfl) ?_
       refine SL.eff (e_alloc (E := 47) tk (C_api_LowPower (T_api_LowPower.mk 0 0 0 0 0 0 [] 0 false 0) nl) (by kernel_rfl)) rfl (by kernel_rfl) ?_
       refine SL.sim tk 2 [(2, vp 4 0), (3, vp 5 0), (4, vp 6 0), (7, vp 9 0), (8, vs 8)] [(9, 47, (C_api_LowPower x_15.1 (.s 7)))] [] [] (by kernel_rfl) ?_
       refine SL.nilThen ?_
       refine SC.seq ?_
       refine SC.reg ?_
       refine SL.sim tk 3 [(4, vp 6 0), (7, vp 9 0), (8, vs 8), (47, .g (C_api_LowPower p_1 (.s 0))), (49, vi .i64 o_2.Now)] [] [] [] (by kernel_rfl) ?_
       obtain ⟨x_16, e_x_16, hp⟩ := bind_inv hp
       refine SL.eff (e_c Try.call37 (ok_wirelessref51_Tick F p_1 o_2.Now _ e_x_16) [.g 0] [.g (C_api_LowPower p_1 (.s 0)), vi .i64 o_2.Now] (.u [.inr (C_api_LowPower x_16.1 (.s 10)), .inl (.s 11)]) (by kernel_rfl) (.inl rfl)) rfl (by kernel_rfl) ?_
       refine SL.norm (itsN := [.rd 1 (RInt .u16) p_1.Subs, .rd 1 R8 o_2.Q.PDU.Payload, .rd 1 R8 o_2.Q.Lower.Bytes, .rd 1 (RInt .u16) o_2.Subs, .blk 47 (C_api_LowPower p_1 (.s 0)), .blk 40 (C_wirelesslaw51_Op o_2 (.s 1) (.s 2) (.s 3)), .blk 47 (C_api_LowPower (T_api_LowPower.mk 0 0 0 0 0 0 [] 0 false 0) nl), .rd 1 (RInt .u16) x_15.1.Subs, .rd 10 R_T_api_Lower x_15.2, .blk 47 (C_api_LowPower x_15.1 (.s 7)), .rd 1 (RInt .u16) x_16.1.Subs, .rd 10 R_T_api_Lower x_16.2]) (by kernel_rfl) ?_
       refine SL.sim tk 3 [(4, vp 6 0), (7, vp 9 0), (8, vs 8), (51, .g (C_api_LowPower x_16.1 (.s 10))), (52, vs 11)] [] [] [] (by kernel_rfl) ?_
       refine SL.eff (e_alloc (E := 47) tk (C_api_LowPower (T_api_LowPower.mk 0 0 0 0 0 0 [] 0 false 0) nl) (by kernel_rfl)) rfl (by kernel_rfl) ?_
       refine SL.sim tk 2 [(4, vp 6 0), (7, vp 9 0), (8, vs 8), (9, vp 12 0), (10, vs 11)] [(12, 47, (C_api_LowPower x_16.1 (.s 10)))] [] [] (by kernel_rfl) ?_
       refine SL.nilThen ?_
       refine SC.seq ?_
       refine SC.r tk [(4, vp 6 0), (7, vp 9 0), (8, vs 8), (9, vp 12 0), (10, vs 11), (57, vb ((len x_15.2) != (len x_16.2)))] [] [] [] (by kernel_rfl) ?_
       refine SC.if' rfl hp (fun hp => ?_) (fun hp => ?_)
       · refine SC.r tk [(4, vp 6 0), (5, vb false)] [(6, 47, (C_api_LowPower x_15.1 (.s 7)))] [] [] (by kernel_rfl) ?_
         obtain rfl := some_inv' hp
         exact SC.re (js := [.g 0, .g 1, .g 2, .g 3, .g 7]) tk (by kernel_rfl)
       · refine SC.skipThen ?_
         refine SC.cut (fun a w => wirelesslaw51_ask_j4 F x_15 x_16 = some r ∧ A 149 4 fx [(4, vp 4 0), (7, vp 5 0), (9, vp 7 0)] [.gone, .gone, .gone, .gone, .blk 47 (C_api_LowPower (T_api_LowPower.mk 0 0 0 0 0 0 [] 0 false 0) nl), .blk 47 (C_api_LowPower x_15.1 (.s 6)), .rd 1 (RInt .u16) x_15.1.Subs, .blk 47 (C_api_LowPower x_16.1 (.s 8)), .rd 1 (RInt .u16) x_16.1.Subs] a w) ?_ ?_
         · refine SC.r tk [(4, vp 6 0), (7, vp 9 0), (8, vs 8), (9, vp 12 0), (10, vs 11), (11, vi .i64 0)] [] [] [] (by kernel_rfl) ?_
           refine SC.block ?_
           obtain ⟨o1, hi1, ho1⟩ := bind_inv hp
           clear hp
           refine SC.loop (fun n a w => ∃ (x_21 : Int), iter (fun s => wirelesslaw51_ask_l1 F x_15 x_16 s) n (x_21) = some o1 ∧ A 149 4 fx [(4, vp 4 0), (7, vp 5 0), (8, vs 7), (9, vp 8 0), (10, vs 10), (11, vi .i64 x_21)] [.gone, .gone, .gone, .gone, .blk 47 (C_api_LowPower (T_api_LowPower.mk 0 0 0 0 0 0 [] 0 false 0) nl), .blk 47 (C_api_LowPower x_15.1 (.s 6)), .rd 1 (RInt .u16) x_15.1.Subs, .rd 10 R_T_api_Lower x_15.2, .blk 47 (C_api_LowPower x_16.1 (.s 9)), .rd 1 (RInt .u16) x_16.1.Subs, .rd 10 R_T_api_Lower x_16.2] a w) F (fun a w h => ⟨0, hi1, h.at (js := [.g 0, .g 1, .g 2, .g 3, .g 6, .g 9, .g 7, .g 8, .g 12, .g 10, .g 11]) (by kernel_rfl)⟩) ?_
           rintro n1 a w ⟨x_21, hi1, h⟩
           obtain ⟨n1, q1, rfl, hp, hs1⟩ := iter_inv hi1
           replace hp : wirelesslaw51_ask_l1 F x_15 x_16 x_21 = some q1 := hp
           clear hi1
           refine h.go ?_
           refine SC.seq ?_
           refine SC.r tk [(4, vp 4 0), (7, vp 5 0), (8, vs 7), (9, vp 8 0), (10, vs 10), (11, vi .i64 x_21), (62, vb (decide (x_21 < (len x_15.2))))] [] [] [] (by kernel_rfl) ?_
           refine SC.if' rfl hp (fun hp => ?_) (fun hp => ?_)
           · refine SC.skipThen ?_
             refine SC.seq ?_
             refine SC.block ?_
             refine SC.cut (fun a w => ∃ (z_22 : Bool), wirelesslaw51_ask_j6 F x_15 x_21 z_22 = some q1 ∧ A 149 4 fx [(4, vp 4 0), (7, vp 5 0), (8, vs 7), (9, vp 8 0), (10, vs 10), (11, vi .i64 x_21), (74, vb z_22)] [.gone, .gone, .gone, .gone, .blk 47 (C_api_LowPower (T_api_LowPower.mk 0 0 0 0 0 0 [] 0 false 0) nl), .blk 47 (C_api_LowPower x_15.1 (.s 6)), .rd 1 (RInt .u16) x_15.1.Subs, .rd 10 R_T_api_Lower x_15.2, .blk 47 (C_api_LowPower x_16.1 (.s 9)), .rd 1 (RInt .u16) x_16.1.Subs, .rd 10 R_T_api_Lower x_16.2] a w) ?_ ?_
             · obtain ⟨x_23, e_x_23, hp⟩ := bind_inv hp
               obtain ⟨x_24, e_x_24, hp⟩ := bind_inv hp
               refine SC.pre (pre_ix (i := 7) (iv := x_21) (sz := 10) (R := R_T_api_Lower) (l := x_15.2) (by kernel_rfl) rfl e_x_23) ?_
               refine SC.pre (pre_ix (i := 10) (iv := x_21) (sz := 10) (R := R_T_api_Lower) (l := x_16.2) (by kernel_rfl) rfl e_x_24) ?_
               refine SC.draw MO [O, O, O, O, I, I, I, I, I, I, I, I, I, I, I] (by kernel_rfl) fun kap_25 D_26 => ?_
               refine SD.takes tk D_26 [] kn0 [0, 1, 2, 3, 4, 5, 6, 7] [.el 11, .el 13] [x_21, x_21] [I, I, I, I, I, I, I, I, O, O] [(4, vp 4 0), (7, vp 5 0), (8, vs 7), (9, vp 8 0), (10, vs 10), (11, vi .i64 x_21), (68, .g (C_api_Lower x_23 (.s 12))), (72, .g (C_api_Lower x_24 (.s 14)))] rfl (by kernel_rfl) (by kernel_rfl) (by kernel_rfl) ?_
               obtain ⟨x_27, e_x_27, hp⟩ := bind_inv hp
               refine SD.all1 (i := 8) (by kernel_rfl) ?_
               refine SW.eff D_26 (i := 8) (bs' := [I, I, I, I, I, I, I, I, I, O]) rfl (.inl rfl) rfl (e_c Try.call38 (ok_wirelessref50_SameLower F x_23 x_24 _ e_x_27) [.g 12, .g 14] [.g (C_api_Lower x_23 (.s 12)), .g (C_api_Lower x_24 (.s 14))] (vb x_27) (by kernel_rfl) (.inl rfl)) (by kernel_rfl) rfl (by kernel_rfl) ?_
               refine SD.takes tk D_26 [] kn0 [9] [] [] [I, I, I, I, I, I, I, I, I, I] [(4, vp 4 0), (7, vp 5 0), (8, vs 7), (9, vp 8 0), (10, vs 10), (11, vi .i64 x_21), (74, vb (!x_27))] rfl (by kernel_rfl) (by kernel_rfl) (by kernel_rfl) ?_
               refine SD.done (by kernel_rfl) fun a w h => ?_
               exact ⟨(!x_27), hp, h.at (js := [.g 0, .g 1, .g 2, .g 3, .g 4, .g 5, .g 6, .g 7, .g 8, .g 9, .g 10]) (by kernel_rfl)⟩
             · rintro a w ⟨z_22, hp, h⟩
               refine h.go ?_
               refine SC.if' rfl hp (fun hp => ?_) (fun hp => ?_)
               · refine SC.r tk [(4, vp 4 0), (5, vb false)] [(4, 47, (C_api_LowPower x_15.1 (.s 6)))] [] [] (by kernel_rfl) ?_
                 have ho := done_inv hp hs1
                 replace hp := ho1
                 try rw [ho] at hp
                 obtain rfl := some_inv' hp
                 exact SC.re (js := [.g 0, .g 1, .g 2, .g 3, .g 6]) tk (by kernel_rfl)
               · refine SC.skipThen ?_
                 refine SC.reg ?_
                 refine SL.sim tk 3 [(4, vp 4 0), (7, vp 5 0), (8, vs 7), (9, vp 8 0), (10, vs 10), (11, vi .i64 (w64 (x_21 + 1)))] [] [] [] (by kernel_rfl) ?_
                 refine SL.nilJ fun a w h => ?_
                 exact ⟨n1, Nat.lt_succ_self _, w64 (x_21 + 1), next_inv hp hs1, h.at (js := [.g 0, .g 1, .g 2, .g 3, .g 4, .g 5, .g 6, .g 7, .g 8, .g 9, .g 10]) (by kernel_rfl)⟩
           · refine SC.exitJ rfl fun a w h => ?_
             have ho := done_inv hp hs1
             replace hp := ho1
             try rw [ho] at hp
             exact ⟨hp, h.at (js := [.g 0, .g 1, .g 2, .g 3, .g 4, .g 5, .g 6, .g 8, .g 9]) (by kernel_rfl)⟩
         · rintro a w ⟨hp, h⟩
           refine h.go ?_
           refine SC.cut (fun a w => ∃ (z_17 : Bool), wirelesslaw51_ask_j5 F x_15 z_17 = some r ∧ A 149 4 fx [(4, vp 4 0), (5, vb z_17)] [.gone, .gone, .gone, .gone, .blk 47 (C_api_LowPower x_15.1 (.s 5)), .rd 1 (RInt .u16) x_15.1.Subs] a w) ?_ ?_
           · refine SC.draw MO [O, O, O, O, O, I, I, I, I] (by kernel_rfl) fun kap_18 D_19 => ?_
             refine SD.takes tk D_19 [] kn0 [0, 1, 2] [] [] [I, I, I, O, O, O] [(4, vp 4 0), (76, .g (C_api_LowPower x_15.1 (.s 6))), (77, .g (C_api_LowPower x_15.1 (.s 6))), (78, .g (C_api_LowPower x_16.1 (.s 8)))] rfl (by kernel_rfl) (by kernel_rfl) (by kernel_rfl) ?_
             obtain ⟨x_20, e_x_20, hp⟩ := bind_inv hp
             refine SD.all1 (i := 3) (by kernel_rfl) ?_
             refine SW.eff D_19 (i := 3) (bs' := [I, I, I, I, O, O]) rfl (.inl rfl) rfl (e_c Try.call35 (ok_wirelesslaw51_SameLow F x_15.1 x_16.1 _ e_x_20) [.g 6, .g 8] [.g (C_api_LowPower x_15.1 (.s 6)), .g (C_api_LowPower x_16.1 (.s 8))] (vb x_20) (by kernel_rfl) (.inl rfl)) (by kernel_rfl) rfl (by kernel_rfl) ?_
             refine SD.all1 (i := 4) (by kernel_rfl) ?_
             refine SW.store D_19 tk (i := 4) (q := 4) (T := 47) (cs := (C_api_LowPower x_15.1 (.s 6))) (bs' := [I, I, I, I, I, O]) rfl (by kernel_rfl) rfl rfl (by kernel_rfl) ?_
             refine SD.norm (itsN := [.gone, .gone, .gone, .gone, .blk 47 (C_api_LowPower x_15.1 (.s 6)), .blk 47 (C_api_LowPower x_15.1 (.s 6)), .rd 1 (RInt .u16) x_15.1.Subs, .blk 47 (C_api_LowPower x_16.1 (.s 8)), .rd 1 (RInt .u16) x_16.1.Subs]) (by kernel_rfl) ?_
             refine SD.takes tk D_19 [] kn0 [5] [] [] [I, I, I, I, I, I] [(4, vp 4 0), (5, vb x_20)] rfl (by kernel_rfl) (by kernel_rfl) (by kernel_rfl) ?_
             refine SD.done (by kernel_rfl) fun a w h => ?_
             exact ⟨x_20, hp, h.at (js := [.g 0, .g 1, .g 2, .g 3, .g 4, .g 6]) (by kernel_rfl)⟩
           · rintro a w ⟨z_17, hp, h⟩
             refine h.go ?_
             obtain rfl := some_inv' hp
             exact SC.re (js := [.g 0, .g 1, .g 2, .g 3, .g 5]) tk (by kernel_rfl)
     · refine SC.r tk [(2, vp 4 0), (3, vp 5 0), (4, vp 6 0), (19, vi .i64 o_2.Kind), (80, vb (o_2.Kind == 2))] [] [] [] (by kernel_rfl) ?_
       refine SC.if' rfl hp (fun hp => ?_) (fun hp => ?_)
       · refine SC.seq ?_
         refine SC.reg ?_
         refine SL.sim tk 5 [(2, vp 4 0), (3, vp 5 0), (4, vp 6 0), (82, .g (C_api_LowPower p_1 (.s 0))), (84, vi .u16 o_2.Address), (86, vi .i64 o_2.Now)] [] [] [] (by kernel_rfl) ?_
         obtain ⟨x_28, e_x_28, hp⟩ := bind_inv hp
         refine SL.eff (e_c Try.call11 (ok_friend_Offer F p_1 o_2.Address o_2.Now _ e_x_28) [.g 0] [.g (C_api_LowPower p_1 (.s 0)), vi .u16 o_2.Address, vi .i64 o_2.Now] (.g (C_api_LowPower x_28 (.s 7))) (by kernel_rfl) (.inl rfl)) rfl (by kernel_rfl) ?_
         refine SL.norm (itsN := [.rd 1 (RInt .u16) p_1.Subs, .rd 1 R8 o_2.Q.PDU.Payload, .rd 1 R8 o_2.Q.Lower.Bytes, .rd 1 (RInt .u16) o_2.Subs, .blk 47 (C_api_LowPower p_1 (.s 0)), .blk 40 (C_wirelesslaw51_Op o_2 (.s 1) (.s 2) (.s 3)), .blk 47 (C_api_LowPower (T_api_LowPower.mk 0 0 0 0 0 0 [] 0 false 0) nl), .rd 1 (RInt .u16) x_28.Subs]) (by kernel_rfl) ?_
         refine SL.eff (e_alloc (E := 47) tk (C_api_LowPower (T_api_LowPower.mk 0 0 0 0 0 0 [] 0 false 0) nl) (by kernel_rfl)) rfl (by kernel_rfl) ?_
         refine SL.sim tk 1 [(2, vp 4 0), (3, vp 5 0), (4, vp 6 0), (12, vp 8 0)] [(8, 47, (C_api_LowPower x_28 (.s 7)))] [] [] (by kernel_rfl) ?_
         refine SL.nilThen ?_
         refine SC.cut (fun a w => ∃ (z_29 : Bool), wirelesslaw51_ask_j7 F x_28 z_29 = some r ∧ A 149 4 fx [(4, vp 4 0), (5, vb z_29)] [.gone, .gone, .gone, .gone, .blk 47 (C_api_LowPower x_28 (.s 5)), .rd 1 (RInt .u16) x_28.Subs] a w) ?_ ?_
         · refine SC.draw MO [I, I, I, I, I, I, O, I, I] (by kernel_rfl) fun kap_30 D_31 => ?_
           refine SD.takes tk D_31 [] kn0 [0, 1, 2, 3, 4, 5, 6] [] [] [I, I, I, I, I, I, I, O, O, O, O] [(4, vp 6 0), (88, .g (C_api_LowPower x_28 (.s 7))), (89, .g (C_api_LowPower x_28 (.s 7))), (90, .g (C_api_LowPower p_1 (.s 0))), (92, vi .u16 o_2.Address), (94, vi .i64 o_2.Now)] rfl (by kernel_rfl) (by kernel_rfl) (by kernel_rfl) ?_
           obtain ⟨x_32, e_x_32, hp⟩ := bind_inv hp
           refine SD.all1 (i := 7) (by kernel_rfl) ?_
           refine SW.eff D_31 (i := 7) (bs' := [I, I, I, I, I, I, I, I, O, O, O]) rfl (.inl rfl) rfl (e_c Try.call39 (ok_wirelessref51_Offer F p_1 o_2.Address o_2.Now _ e_x_32) [.g 0] [.g (C_api_LowPower p_1 (.s 0)), vi .u16 o_2.Address, vi .i64 o_2.Now] (.g (C_api_LowPower x_32 (.s 9))) (by kernel_rfl) (.inl rfl)) (by kernel_rfl) rfl (by kernel_rfl) ?_
           refine SD.norm (itsN := [.rd 1 (RInt .u16) p_1.Subs, .rd 1 R8 o_2.Q.PDU.Payload, .rd 1 R8 o_2.Q.Lower.Bytes, .rd 1 (RInt .u16) o_2.Subs, .blk 47 (C_api_LowPower p_1 (.s 0)), .blk 40 (C_wirelesslaw51_Op o_2 (.s 1) (.s 2) (.s 3)), .blk 47 (C_api_LowPower (T_api_LowPower.mk 0 0 0 0 0 0 [] 0 false 0) nl), .rd 1 (RInt .u16) x_28.Subs, .blk 47 (C_api_LowPower x_28 (.s 7)), .rd 1 (RInt .u16) x_32.Subs]) (by kernel_rfl) ?_
           obtain ⟨x_33, e_x_33, hp⟩ := bind_inv hp
           refine SD.all1 (i := 8) (by kernel_rfl) ?_
           refine SW.eff D_31 (i := 8) (bs' := [I, I, I, I, I, I, I, I, I, O, O]) rfl (.inl rfl) rfl (e_c Try.call35 (ok_wirelesslaw51_SameLow F x_28 x_32 _ e_x_33) [.g 7, .g 9] [.g (C_api_LowPower x_28 (.s 7)), .g (C_api_LowPower x_32 (.s 9))] (vb x_33) (by kernel_rfl) (.inl rfl)) (by kernel_rfl) rfl (by kernel_rfl) ?_
           refine SD.all1 (i := 9) (by kernel_rfl) ?_
           refine SW.store D_31 tk (i := 9) (q := 6) (T := 47) (cs := (C_api_LowPower x_28 (.s 7))) (bs' := [I, I, I, I, I, I, I, I, I, I, O]) rfl (by kernel_rfl) rfl rfl (by kernel_rfl) ?_
           refine SD.norm (itsN := [.rd 1 (RInt .u16) p_1.Subs, .rd 1 R8 o_2.Q.PDU.Payload, .rd 1 R8 o_2.Q.Lower.Bytes, .rd 1 (RInt .u16) o_2.Subs, .blk 47 (C_api_LowPower p_1 (.s 0)), .blk 40 (C_wirelesslaw51_Op o_2 (.s 1) (.s 2) (.s 3)), .blk 47 (C_api_LowPower x_28 (.s 7)), .rd 1 (RInt .u16) x_28.Subs, .blk 47 (C_api_LowPower x_28 (.s 7)), .rd 1 (RInt .u16) x_32.Subs]) (by kernel_rfl) ?_
           refine SD.takes tk D_31 [] kn0 [10] [] [] [I, I, I, I, I, I, I, I, I, I, I] [(4, vp 6 0), (5, vb x_33)] rfl (by kernel_rfl) (by kernel_rfl) (by kernel_rfl) ?_
           refine SD.done (by kernel_rfl) fun a w h => ?_
           exact ⟨x_33, hp, h.at (js := [.g 0, .g 1, .g 2, .g 3, .g 6, .g 7]) (by kernel_rfl)⟩
         · rintro a w ⟨z_29, hp, h⟩
           refine h.go ?_
           obtain rfl := some_inv' hp
           exact SC.re (js := [.g 0, .g 1, .g 2, .g 3, .g 5]) tk (by kernel_rfl)
       · refine SC.r tk [(2, vp 4 0), (3, vp 5 0), (4, vp 6 0), (97, vb (o_2.Kind == 3))] [] [] [] (by kernel_rfl) ?_
         refine SC.if' rfl hp (fun hp => ?_) (fun hp => ?_)
         · refine SC.seq ?_
           refine SC.reg ?_
           refine SL.sim tk 7 [(2, vp 4 0), (3, vp 5 0), (4, vp 6 0), (100, .g (C_api_LowPower p_1 (.s 0))), (102, vi .u16 o_2.Address), (104, vb o_2.More), (106, vi .i64 o_2.Now)] [] [] [] (by kernel_rfl) ?_
           obtain ⟨x_34, e_x_34, hp⟩ := bind_inv hp
           refine SL.eff (e_c Try.call34 (ok_friend_Got F p_1 o_2.Address o_2.More o_2.Now _ e_x_34) [.g 0] [.g (C_api_LowPower p_1 (.s 0)), vi .u16 o_2.Address, vb o_2.More, vi .i64 o_2.Now] (.u [.inr (C_api_LowPower x_34.1 (.s 7)), .inl (cb x_34.2)]) (by kernel_rfl) (.inl rfl)) rfl (by kernel_rfl) ?_
           refine SL.norm (itsN := [.rd 1 (RInt .u16) p_1.Subs, .rd 1 R8 o_2.Q.PDU.Payload, .rd 1 R8 o_2.Q.Lower.Bytes, .rd 1 (RInt .u16) o_2.Subs, .blk 47 (C_api_LowPower p_1 (.s 0)), .blk 40 (C_wirelesslaw51_Op o_2 (.s 1) (.s 2) (.s 3)), .blk 47 (C_api_LowPower (T_api_LowPower.mk 0 0 0 0 0 0 [] 0 false 0) nl), .rd 1 (RInt .u16) x_34.1.Subs]) (by kernel_rfl) ?_
           refine SL.sim tk 3 [(2, vp 4 0), (3, vp 5 0), (4, vp 6 0), (108, .g (C_api_LowPower x_34.1 (.s 7))), (109, vb x_34.2)] [] [] [] (by kernel_rfl) ?_
           refine SL.eff (e_alloc (E := 47) tk (C_api_LowPower (T_api_LowPower.mk 0 0 0 0 0 0 [] 0 false 0) nl) (by kernel_rfl)) rfl (by kernel_rfl) ?_
           refine SL.sim tk 2 [(2, vp 4 0), (3, vp 5 0), (4, vp 6 0), (13, vp 8 0), (14, vb x_34.2)] [(8, 47, (C_api_LowPower x_34.1 (.s 7)))] [] [] (by kernel_rfl) ?_
           refine SL.nilThen ?_
           refine SC.seq ?_
           refine SC.reg ?_
           refine SL.sim tk 7 [(4, vp 6 0), (13, vp 8 0), (14, vb x_34.2), (111, .g (C_api_LowPower p_1 (.s 0))), (113, vi .u16 o_2.Address), (115, vb o_2.More), (117, vi .i64 o_2.Now)] [] [] [] (by kernel_rfl) ?_
           obtain ⟨x_35, e_x_35, hp⟩ := bind_inv hp
           refine SL.eff (e_c Try.call40 (ok_wirelessref51_Got F p_1 o_2.Address o_2.More o_2.Now _ e_x_35) [.g 0] [.g (C_api_LowPower p_1 (.s 0)), vi .u16 o_2.Address, vb o_2.More, vi .i64 o_2.Now] (.u [.inr (C_api_LowPower x_35.1 (.s 9)), .inl (cb x_35.2)]) (by kernel_rfl) (.inl rfl)) rfl (by kernel_rfl) ?_
           refine SL.norm (itsN := [.rd 1 (RInt .u16) p_1.Subs, .rd 1 R8 o_2.Q.PDU.Payload, .rd 1 R8 o_2.Q.Lower.Bytes, .rd 1 (RInt .u16) o_2.Subs, .blk 47 (C_api_LowPower p_1 (.s 0)), .blk 40 (C_wirelesslaw51_Op o_2 (.s 1) (.s 2) (.s 3)), .blk 47 (C_api_LowPower (T_api_LowPower.mk 0 0 0 0 0 0 [] 0 false 0) nl), .rd 1 (RInt .u16) x_34.1.Subs, .blk 47 (C_api_LowPower x_34.1 (.s 7)), .rd 1 (RInt .u16) x_35.1.Subs]) (by kernel_rfl) ?_
           refine SL.sim tk 3 [(4, vp 6 0), (13, vp 8 0), (14, vb x_34.2), (119, .g (C_api_LowPower x_35.1 (.s 9))), (120, vb x_35.2)] [] [] [] (by kernel_rfl) ?_
           refine SL.eff (e_alloc (E := 47) tk (C_api_LowPower (T_api_LowPower.mk 0 0 0 0 0 0 [] 0 false 0) nl) (by kernel_rfl)) rfl (by kernel_rfl) ?_
           refine SL.sim tk 2 [(4, vp 6 0), (13, vp 8 0), (14, vb x_34.2), (15, vp 10 0), (16, vb x_35.2)] [(10, 47, (C_api_LowPower x_35.1 (.s 9)))] [] [] (by kernel_rfl) ?_
           refine SL.nilThen ?_
           refine SC.cut (fun a w => ∃ (z_36 : Bool), wirelesslaw51_ask_j8 F x_34 z_36 = some r ∧ A 149 4 fx [(4, vp 4 0), (5, vb z_36)] [.gone, .gone, .gone, .gone, .blk 47 (C_api_LowPower x_34.1 (.s 5)), .rd 1 (RInt .u16) x_34.1.Subs] a w) ?_ ?_
           · refine SC.draw MO [I, I, I, I, I, I, O, I, I, I, I] (by kernel_rfl) fun kap_37 D_38 => ?_
             refine SD.takes tk D_38 [] kn0 [0, 1, 2] [] [] [I, I, I, O, O, O, O, O, O, O, O] [(4, vp 6 0), (14, vb x_34.2), (16, vb x_35.2), (121, .g (C_api_LowPower x_34.1 (.s 7))), (122, .g (C_api_LowPower x_34.1 (.s 7))), (123, .g (C_api_LowPower x_35.1 (.s 9)))] rfl (by kernel_rfl) (by kernel_rfl) (by kernel_rfl) ?_
             obtain ⟨x_39, e_x_39, hp⟩ := bind_inv hp
             refine SD.all1 (i := 3) (by kernel_rfl) ?_
             refine SW.eff D_38 (i := 3) (bs' := [I, I, I, I, O, O, O, O, O, O, O]) rfl (.inl rfl) rfl (e_c Try.call35 (ok_wirelesslaw51_SameLow F x_34.1 x_35.1 _ e_x_39) [.g 7, .g 9] [.g (C_api_LowPower x_34.1 (.s 7)), .g (C_api_LowPower x_35.1 (.s 9))] (vb x_39) (by kernel_rfl) (.inl rfl)) (by kernel_rfl) rfl (by kernel_rfl) ?_
             refine SD.norm (itsN := [.rd 1 (RInt .u16) p_1.Subs, .rd 1 R8 o_2.Q.PDU.Payload, .rd 1 R8 o_2.Q.Lower.Bytes, .rd 1 (RInt .u16) o_2.Subs, .blk 47 (C_api_LowPower p_1 (.s 0)), .blk 40 (C_wirelesslaw51_Op o_2 (.s 1) (.s 2) (.s 3)), .blk 47 (C_api_LowPower (T_api_LowPower.mk 0 0 0 0 0 0 [] 0 false 0) nl), .rd 1 (RInt .u16) x_34.1.Subs, .blk 47 (C_api_LowPower x_34.1 (.s 7)), .rd 1 (RInt .u16) x_35.1.Subs, .blk 47 (C_api_LowPower x_35.1 (.s 9))]) (by kernel_rfl) ?_
             refine SD.takes tk D_38 [] kn0 [4, 5, 6, 7, 8] [] [] [I, I, I, I, I, I, I, I, I, O, O] [(4, vp 6 0), (121, .g (C_api_LowPower x_34.1 (.s 7))), (129, vb (x_39 && (x_34.2 == x_35.2)))] rfl (by kernel_rfl) (by kernel_rfl) (by kernel_rfl) ?_
             refine SD.all1 (i := 9) (by kernel_rfl) ?_
             refine SW.store D_38 tk (i := 9) (q := 6) (T := 47) (cs := (C_api_LowPower x_34.1 (.s 7))) (bs' := [I, I, I, I, I, I, I, I, I, I, O]) rfl (by kernel_rfl) rfl rfl (by kernel_rfl) ?_
             refine SD.takes tk D_38 [] kn0 [10] [] [] [I, I, I, I, I, I, I, I, I, I, I] [(4, vp 6 0), (5, vb (x_39 && (x_34.2 == x_35.2)))] rfl (by kernel_rfl) (by kernel_rfl) (by kernel_rfl) ?_
             refine SD.done (by kernel_rfl) fun a w h => ?_
             exact ⟨(x_39 && (x_34.2 == x_35.2)), hp, h.at (js := [.g 0, .g 1, .g 2, .g 3, .g 6, .g 7]) (by kernel_rfl)⟩
           · rintro a w ⟨z_36, hp, h⟩
             refine h.go ?_
             obtain rfl := some_inv' hp
             exact SC.re (js := [.g 0, .g 1, .g 2, .g 3, .g 5]) tk (by kernel_rfl)
         · refine SC.skipJ fun a w h => ?_
           exact ⟨hp, h.at (js := [.g 0, .g 1, .g 2, .g 3, .g 4, .g 5, .g 6]) (by kernel_rfl)⟩
 · rintro a w ⟨hp, h⟩
   refine h.go ?_
   refine SC.seq ?_
   refine SC.reg ?_
   refine SL.sim tk 7 [(2, vp 4 0), (3, vp 5 0), (4, vp 6 0), (130, .g (C_api_LowPower p_1 (.s 0))), (132, vi .u16 o_2.Address), (134, vi .u16 o_2.Group), (136, vi .i64 o_2.Now)] [] [] [] (by kernel_rfl) ?_
   obtain ⟨x_3, e_x_3, hp⟩ := bind_inv hp
   refine SL.eff (e_c Try.call41 (ok_friend_Told F p_1 o_2.Address o_2.Group o_2.Now _ e_x_3) [.g 0] [.g (C_api_LowPower p_1 (.s 0)), vi .u16 o_2.Address, vi .u16 o_2.Group, vi .i64 o_2.Now] (.g (C_api_LowPower x_3 (.s 7))) (by kernel_rfl) (.inl rfl)) rfl (by kernel_rfl) ?_
   refine SL.eff (e_alloc (E := 47) tk (C_api_LowPower (T_api_LowPower.mk 0 0 0 0 0 0 [] 0 false 0) nl) (by kernel_rfl)) rfl (by kernel_rfl) ?_
   refine SL.sim tk 1 [(2, vp 4 0), (3, vp 5 0), (4, vp 6 0), (17, vp 8 0)] [(8, 47, (C_api_LowPower x_3 (.s 7)))] [] [] (by kernel_rfl) ?_
   refine SL.nilThen ?_
   refine SC.cut (fun a w => ∃ (z_4 : Bool), wirelesslaw51_ask_j2 F x_3 z_4 = some r ∧ A 149 4 fx [(4, vp 4 0), (5, vb z_4)] [.gone, .gone, .gone, .gone, .blk 47 (C_api_LowPower x_3 (.s 5)), .rd 1 (RInt .u16) x_3.Subs] a w) ?_ ?_
   · refine SC.draw MO [I, I, I, I, I, I, O, I, I] (by kernel_rfl) fun kap_5 D_6 => ?_
     refine SD.takes tk D_6 [] kn0 [0, 1, 2, 3, 4, 5, 6, 7, 8] [] [] [I, I, I, I, I, I, I, I, I, O, O, O, O] [(4, vp 6 0), (138, .g (C_api_LowPower x_3 (.s 7))), (139, .g (C_api_LowPower x_3 (.s 7))), (140, .g (C_api_LowPower p_1 (.s 0))), (142, vi .u16 o_2.Address), (144, vi .u16 o_2.Group), (146, vi .i64 o_2.Now)] rfl (by kernel_rfl) (by kernel_rfl) (by kernel_rfl) ?_
     obtain ⟨x_7, e_x_7, hp⟩ := bind_inv hp
     refine SD.all1 (i := 9) (by kernel_rfl) ?_
     refine SW.eff D_6 (i := 9) (bs' := [I, I, I, I, I, I, I, I, I, I, O, O, O]) rfl (.inl rfl) rfl (e_c Try.call42 (ok_wirelessref51_Told F p_1 o_2.Address o_2.Group o_2.Now _ e_x_7) [.g 0] [.g (C_api_LowPower p_1 (.s 0)), vi .u16 o_2.Address, vi .u16 o_2.Group, vi .i64 o_2.Now] (.g (C_api_LowPower x_7 (.s 9))) (by kernel_rfl) (.inl rfl)) (by kernel_rfl) rfl (by kernel_rfl) ?_
     refine SD.norm (itsN := [.rd 1 (RInt .u16) p_1.Subs, .rd 1 R8 o_2.Q.PDU.Payload, .rd 1 R8 o_2.Q.Lower.Bytes, .rd 1 (RInt .u16) o_2.Subs, .blk 47 (C_api_LowPower p_1 (.s 0)), .blk 40 (C_wirelesslaw51_Op o_2 (.s 1) (.s 2) (.s 3)), .blk 47 (C_api_LowPower (T_api_LowPower.mk 0 0 0 0 0 0 [] 0 false 0) nl), .rd 1 (RInt .u16) x_3.Subs, .blk 47 (C_api_LowPower x_3 (.s 7)), .rd 1 (RInt .u16) x_7.Subs]) (by kernel_rfl) ?_
     obtain ⟨x_8, e_x_8, hp⟩ := bind_inv hp
     refine SD.all1 (i := 10) (by kernel_rfl) ?_
     refine SW.eff D_6 (i := 10) (bs' := [I, I, I, I, I, I, I, I, I, I, I, O, O]) rfl (.inl rfl) rfl (e_c Try.call35 (ok_wirelesslaw51_SameLow F x_3 x_7 _ e_x_8) [.g 7, .g 9] [.g (C_api_LowPower x_3 (.s 7)), .g (C_api_LowPower x_7 (.s 9))] (vb x_8) (by kernel_rfl) (.inl rfl)) (by kernel_rfl) rfl (by kernel_rfl) ?_
     refine SD.all1 (i := 11) (by kernel_rfl) ?_
     refine SW.store D_6 tk (i := 11) (q := 6) (T := 47) (cs := (C_api_LowPower x_3 (.s 7))) (bs' := [I, I, I, I, I, I, I, I, I, I, I, I, O]) rfl (by kernel_rfl) rfl rfl (by kernel_rfl) ?_
     refine SD.norm (itsN := [.rd 1 (RInt .u16) p_1.Subs, .rd 1 R8 o_2.Q.PDU.Payload, .rd 1 R8 o_2.Q.Lower.Bytes, .rd 1 (RInt .u16) o_2.Subs, .blk 47 (C_api_LowPower p_1 (.s 0)), .blk 40 (C_wirelesslaw51_Op o_2 (.s 1) (.s 2) (.s 3)), .blk 47 (C_api_LowPower x_3 (.s 7)), .rd 1 (RInt .u16) x_3.Subs, .blk 47 (C_api_LowPower x_3 (.s 7)), .rd 1 (RInt .u16) x_7.Subs]) (by kernel_rfl) ?_
     refine SD.takes tk D_6 [] kn0 [12] [] [] [I, I, I, I, I, I, I, I, I, I, I, I, I] [(4, vp 6 0), (5, vb x_8)] rfl (by kernel_rfl) (by kernel_rfl) (by kernel_rfl) ?_
     refine SD.done (by kernel_rfl) fun a w h => ?_
     exact ⟨x_8, hp, h.at (js := [.g 0, .g 1, .g 2, .g 3, .g 6, .g 7]) (by kernel_rfl)⟩
   · rintro a w ⟨z_4, hp, h⟩
     refine h.go ?_
     obtain rfl := some_inv' hp
     exact SC.re (js := [.g 0, .g 1, .g 2, .g 3, .g 5]) tk (by kernel_rfl)

theorem ok_wirelesslaw51_FriendAsks (F : Nat) (l_1 : (List T_wirelesslaw51_Op)) (r : Bool) (hp : wirelesslaw51_FriendAsks F l_1 = some r) : Spec Try.prog 5 [vs 0] [.rd 25 R_T_wirelesslaw51_Op l_1] (vb r) [.gone] := by
 refine Spec.enter Try.func5 rfl Try.ntmps5 rfl rfl fun fx => ?_
 refine SC.r tk [(0, vs 0)] [] [] [] (by kernel_rfl) ?_
 refine SC.seq ?_
 refine SC.r tk [(0, vs 0), (10, vb (decide ((len l_1) > 200)))] [] [] [] (by kernel_rfl) ?_
 refine SC.if' rfl hp (fun hp => ?_) (fun hp => ?_)
 · refine SC.seq ?_
   refine SC.reg ?_
   obtain ⟨x_2, e_x_2, hp⟩ := bind_inv hp
   refine SL.eff (e_c Try.call7 (ok_wirelesslaw51_lives F  _ e_x_2) [] [] (vb x_2) (by kernel_rfl) (.inl rfl)) rfl (by kernel_rfl) ?_
   refine SL.sim tk 1 [(2, vb x_2)] [] [] [] (by kernel_rfl) ?_
   refine SL.nilThen ?_
   obtain rfl := some_inv' hp
   exact SC.re (js := [.g 0]) tk (by kernel_rfl)
 · refine SC.skipThen ?_
   refine SC.seq ?_
   refine SC.reg ?_
   refine SL.eff (e_alloc (E := 47) tk (C_api_LowPower (T_api_LowPower.mk 0 0 0 0 0 0 [] 0 false 0) nl) (by kernel_rfl)) rfl (by kernel_rfl) ?_
   refine SL.nilThen ?_
   refine SC.r tk [(0, vs 0), (3, vp 1 0), (4, vi .i64 0)] [] [] [] (by kernel_rfl) ?_
   refine SC.cut (fun a w => wirelesslaw51_FriendAsks_j1 F = some r ∧ A 43 1 fx [] [.gone] a w) ?_ ?_
   · refine SC.r tk [(0, vs 0), (3, vp 1 0), (4, vi .i64 0), (5, vi .i64 0)] [] [] [] (by kernel_rfl) ?_
     refine SC.block ?_
     obtain ⟨o1, hi1, ho1⟩ := bind_inv hp
     clear hp
     refine SC.loop (fun n a w => ∃ (c_14 : T_api_LowPower) (x_15 : Int) (x_16 : Int), iter (fun s => wirelesslaw51_FriendAsks_l1 F l_1 s.1 s.2.1 s.2.2) n (c_14, x_15, x_16) = some o1 ∧ A 43 1 fx [(0, vs 0), (3, vp 1 0), (4, vi .i64 x_15), (5, vi .i64 x_16)] [.rd 25 R_T_wirelesslaw51_Op l_1, .blk 47 (C_api_LowPower c_14 (.s 2)), .rd 1 (RInt .u16) c_14.Subs] a w) F (fun a w h => ⟨(T_api_LowPower.mk 0 0 0 0 0 0 [] 0 false 0), 0, 0, hi1, h.at (js := [.g 0, .g 1, .n]) (by kernel_rfl)⟩) ?_
     rintro n1 a w ⟨c_14, x_15, x_16, hi1, h⟩
     obtain ⟨n1, q1, rfl, hp, hs1⟩ := iter_inv hi1
     replace hp : wirelesslaw51_FriendAsks_l1 F l_1 c_14 x_15 x_16 = some q1 := hp
     clear hi1
     refine h.go ?_
     refine SC.seq ?_
     refine SC.r tk [(0, vs 0), (3, vp 1 0), (4, vi .i64 x_15), (5, vi .i64 x_16), (15, vb (decide (x_16 < (len l_1))))] [] [] [] (by kernel_rfl) ?_
     refine SC.if' rfl hp (fun hp => ?_) (fun hp => ?_)
     · refine SC.skipThen ?_
       refine SC.cut (fun a w => ∃ (c_27 : T_api_LowPower) (x_28 : Int), wirelesslaw51_FriendAsks_j2 F x_16 c_27 x_28 = some q1 ∧ A 43 1 fx [(0, vs 0), (3, vp 1 0), (4, vi .i64 x_28), (5, vi .i64 x_16)] [.rd 25 R_T_wirelesslaw51_Op l_1, .blk 47 (C_api_LowPower c_27 (.s 2)), .rd 1 (RInt .u16) c_27.Subs] a w) ?_ ?_
       · refine SC.block ?_
         refine SC.seq ?_
         refine SC.seq ?_
         refine SC.reg ?_
         obtain ⟨x_29, e_x_29, hp⟩ := bind_inv hp
         refine SL.pre (pre_ix (i := 0) (iv := x_16) (sz := 25) (R := R_T_wirelesslaw51_Op) (l := l_1) (by kernel_rfl) rfl e_x_29) ?_
         refine SL.sim tk 5 [(0, vs 0), (3, vp 1 0), (4, vi .i64 x_15), (5, vi .i64 x_16), (21, .g (C_wirelesslaw51_Op x_29 (.s 4) (.s 5) (.s 6))), (22, vi .i64 x_15)] [] [.el 3] [x_16] (by kernel_rfl) ?_
         obtain ⟨x_30, e_x_30, hp⟩ := bind_inv hp
         refine SL.eff (e_c Try.call15 (ok_wirelesslaw51_fits F x_29 x_15 _ e_x_30) [.g 4, .g 5, .g 6] [.g (C_wirelesslaw51_Op x_29 (.s 4) (.s 5) (.s 6)), vi .i64 x_15] (vb x_30) (by kernel_rfl) (.inl rfl)) rfl (by kernel_rfl) ?_
         refine SL.sim tk 1 [(0, vs 0), (3, vp 1 0), (4, vi .i64 x_15), (5, vi .i64 x_16), (24, vb (!x_30))] [] [] [] (by kernel_rfl) ?_
         refine SL.nilThen ?_
         refine SC.if' rfl hp (fun hp => ?_) (fun hp => ?_)
         · refine SC.exitJ rfl fun a w h => ?_
           exact ⟨c_14, x_15, hp, h.at (js := [.g 0, .g 1, .g 2]) (by kernel_rfl)⟩
         · refine SC.skipThen ?_
           obtain ⟨x_31, e_x_31, hp⟩ := bind_inv hp
           refine SC.pre (pre_ix (i := 0) (iv := x_16) (sz := 25) (R := R_T_wirelesslaw51_Op) (l := l_1) (by kernel_rfl) rfl e_x_31) ?_
           refine SC.r tk [(0, vs 0), (3, vp 1 0), (4, vi .i64 x_31.Now), (5, vi .i64 x_16)] [] [.el 7] [x_16] (by kernel_rfl) ?_
           refine SC.cut (fun a w => ∃ (c_42 : T_api_LowPower) (z_43 : Bool), wirelesslaw51_FriendAsks_j3 F x_16 x_31 c_42 z_43 = some q1 ∧ A 43 1 fx [(0, vs 0), (3, vp 1 0), (4, vi .i64 x_31.Now), (5, vi .i64 x_16), (6, vp 3 0), (7, vb z_43)] [.rd 25 R_T_wirelesslaw51_Op l_1, .blk 47 (C_api_LowPower c_14 (.s 2)), .rd 1 (RInt .u16) c_14.Subs, .blk 47 (C_api_LowPower c_42 (.s 4)), .rd 1 (RInt .u16) c_42.Subs] a w) ?_ ?_
           · obtain ⟨x_44, e_x_44, hp⟩ := bind_inv hp
             refine SC.pre (pre_ix (i := 0) (iv := x_16) (sz := 25) (R := R_T_wirelesslaw51_Op) (l := l_1) (by kernel_rfl) rfl e_x_44) ?_
             refine SC.draw MO [I, I, I, I, I, I, I, I, I, I, I, I, I, I, I] (by kernel_rfl) fun kap_45 D_46 => ?_
             refine SD.takes tk D_46 [] kn0 [0, 1, 2, 3, 4] [.el 11] [x_16] [I, I, I, I, I, O, O, O, O, O, O, O] [(0, vs 0), (3, vp 1 0), (4, vi .i64 x_31.Now), (5, vi .i64 x_16), (31, .g (C_api_LowPower c_14 (.s 2))), (35, .g (C_wirelesslaw51_Op x_44 (.s 12) (.s 13) (.s 14)))] rfl (by kernel_rfl) (by kernel_rfl) (by kernel_rfl) ?_
             obtain ⟨x_447, e_x_447, hp⟩ := bind_inv hp
             refine SD.lay 0 [I, I, I, I, I, I, I, I, I, I, I, I] [(0, vs 0), (3, vp 1 0), (4, vi .i64 x_31.Now), (5, vi .i64 x_16), (6, vp 16 0), (7, vb x_447.2)] [.rd 25 R_T_wirelesslaw51_Op l_1, .blk 47 (C_api_LowPower c_14 (.s 2)), .rd 1 (RInt .u16) c_14.Subs, .elt (some (0, x_16)) false (C_wirelesslaw51_Op x_29 (.s 4) (.s 5) (.s 6)), .rd 1 R8 x_29.Q.PDU.Payload, .rd 1 R8 x_29.Q.Lower.Bytes, .rd 1 (RInt .u16) x_29.Subs, .elt (some (0, x_16)) false (C_wirelesslaw51_Op x_31 (.s 8) (.s 9) (.s 10)), .rd 1 R8 x_31.Q.PDU.Payload, .rd 1 R8 x_31.Q.Lower.Bytes, .rd 1 (RInt .u16) x_31.Subs, .elt (some (0, x_16)) false (C_wirelesslaw51_Op x_44 (.s 12) (.s 13) (.s 14)), .rd 1 R8 x_44.Q.PDU.Payload, .rd 1 R8 x_44.Q.Lower.Bytes, .rd 1 (RInt .u16) x_44.Subs, .rd 1 (RInt .u16) x_447.1.Subs, .blk 47 (C_api_LowPower x_447.1 (.s 15))] ?_ (fun c_46_0 => ?_)
             · refine SD.done (by kernel_rfl) fun a w h => ?_
               exact ⟨x_447.1, x_447.2, hp, h.at (js := [.g 0, .g 1, .g 2, .g 16, .g 15]) (by kernel_rfl)⟩
             · refine SD.lay 2 [I, I, I, I, I, I, I, I, I, I, O, O] [(0, vs 0), (3, vp 1 0), (4, vi .i64 x_31.Now), (5, vi .i64 x_16), (6, vp 16 0), (37, .g (C_api_LowPower x_447.1 (.s 15))), (38, vb x_447.2)] [.rd 25 R_T_wirelesslaw51_Op l_1, .blk 47 (C_api_LowPower c_14 (.s 2)), .rd 1 (RInt .u16) c_14.Subs, .elt (some (0, x_16)) false (C_wirelesslaw51_Op x_29 (.s 4) (.s 5) (.s 6)), .rd 1 R8 x_29.Q.PDU.Payload, .rd 1 R8 x_29.Q.Lower.Bytes, .rd 1 (RInt .u16) x_29.Subs, .elt (some (0, x_16)) false (C_wirelesslaw51_Op x_31 (.s 8) (.s 9) (.s 10)), .rd 1 R8 x_31.Q.PDU.Payload, .rd 1 R8 x_31.Q.Lower.Bytes, .rd 1 (RInt .u16) x_31.Subs, .elt (some (0, x_16)) false (C_wirelesslaw51_Op x_44 (.s 12) (.s 13) (.s 14)), .rd 1 R8 x_44.Q.PDU.Payload, .rd 1 R8 x_44.Q.Lower.Bytes, .rd 1 (RInt .u16) x_44.Subs, .rd 1 (RInt .u16) x_447.1.Subs, .blk 47 (C_api_LowPower (T_api_LowPower.mk 0 0 0 0 0 0 [] 0 false 0) nl)] ?_ (fun c_46_1 => ?_)
               · refine SD.all1 (i := 10) (by kernel_rfl) ?_
                 refine SW.store D_46 tk (i := 10) (q := 16) (T := 47) (cs := (C_api_LowPower x_447.1 (.s 15))) (bs' := [I, I, I, I, I, I, I, I, I, I, I, O]) rfl (by kernel_rfl) rfl rfl (by kernel_rfl) ?_
                 refine SD.takes tk D_46 [] kn0 [11] [] [] [I, I, I, I, I, I, I, I, I, I, I, I] [(0, vs 0), (3, vp 1 0), (4, vi .i64 x_31.Now), (5, vi .i64 x_16), (6, vp 16 0), (7, vb x_447.2)] rfl (by kernel_rfl) (by kernel_rfl) (by kernel_rfl) ?_
                 exact SD.vie D_46 [.g 0, .g 1, .g 2, .g 3, .g 4, .g 5, .g 6, .g 7, .g 8, .g 9, .g 10, .g 11, .g 12, .g 13, .g 14, .g 15, .g 16] c_46_0 (by kernel_rfl)
               · refine SD.lay 3 [I, I, I, I, I, I, I, I, I, O, O, O] [(0, vs 0), (3, vp 1 0), (4, vi .i64 x_31.Now), (5, vi .i64 x_16), (37, .g (C_api_LowPower x_447.1 (.s 15))), (38, vb x_447.2)] [.rd 25 R_T_wirelesslaw51_Op l_1, .blk 47 (C_api_LowPower c_14 (.s 2)), .rd 1 (RInt .u16) c_14.Subs, .elt (some (0, x_16)) false (C_wirelesslaw51_Op x_29 (.s 4) (.s 5) (.s 6)), .rd 1 R8 x_29.Q.PDU.Payload, .rd 1 R8 x_29.Q.Lower.Bytes, .rd 1 (RInt .u16) x_29.Subs, .elt (some (0, x_16)) false (C_wirelesslaw51_Op x_31 (.s 8) (.s 9) (.s 10)), .rd 1 R8 x_31.Q.PDU.Payload, .rd 1 R8 x_31.Q.Lower.Bytes, .rd 1 (RInt .u16) x_31.Subs, .elt (some (0, x_16)) false (C_wirelesslaw51_Op x_44 (.s 12) (.s 13) (.s 14)), .rd 1 R8 x_44.Q.PDU.Payload, .rd 1 R8 x_44.Q.Lower.Bytes, .rd 1 (RInt .u16) x_44.Subs, .rd 1 (RInt .u16) x_447.1.Subs] ?_ (fun c_46_2 => ?_)
                 · refine SD.all1 (i := 9) (by kernel_rfl) ?_
                   refine SW.eff D_46 (i := 9) (bs' := [I, I, I, I, I, I, I, I, I, I, O, O]) rfl (.inl rfl) rfl (e_alloc (E := 47) tk (C_api_LowPower (T_api_LowPower.mk 0 0 0 0 0 0 [] 0 false 0) nl) (by kernel_rfl)) (by kernel_rfl) rfl (by kernel_rfl) ?_
                   exact SD.vie D_46 [.g 0, .g 1, .g 2, .g 3, .g 4, .g 5, .g 6, .g 7, .g 8, .g 9, .g 10, .g 11, .g 12, .g 13, .g 14, .g 15, .g 16] c_46_1 (by kernel_rfl)
                 · refine SD.lay 6 [I, I, I, I, I, O, O, O, O, I, O, O] [(0, vs 0), (3, vp 1 0), (4, vi .i64 x_31.Now), (5, vi .i64 x_16), (6, vp 15 0), (31, .g (C_api_LowPower c_14 (.s 2))), (35, .g (C_wirelesslaw51_Op x_44 (.s 12) (.s 13) (.s 14)))] [.rd 25 R_T_wirelesslaw51_Op l_1, .blk 47 (C_api_LowPower c_14 (.s 2)), .rd 1 (RInt .u16) c_14.Subs, .elt (some (0, x_16)) false (C_wirelesslaw51_Op x_29 (.s 4) (.s 5) (.s 6)), .rd 1 R8 x_29.Q.PDU.Payload, .rd 1 R8 x_29.Q.Lower.Bytes, .rd 1 (RInt .u16) x_29.Subs, .elt (some (0, x_16)) false (C_wirelesslaw51_Op x_31 (.s 8) (.s 9) (.s 10)), .rd 1 R8 x_31.Q.PDU.Payload, .rd 1 R8 x_31.Q.Lower.Bytes, .rd 1 (RInt .u16) x_31.Subs, .elt (some (0, x_16)) false (C_wirelesslaw51_Op x_44 (.s 12) (.s 13) (.s 14)), .rd 1 R8 x_44.Q.PDU.Payload, .rd 1 R8 x_44.Q.Lower.Bytes, .rd 1 (RInt .u16) x_44.Subs, .blk 47 (C_api_LowPower (T_api_LowPower.mk 0 0 0 0 0 0 [] 0 false 0) nl)] ?_ (fun c_46_3 => ?_)
                   · refine SD.all1 (i := 5) (by kernel_rfl) ?_
                     refine SW.eff D_46 (i := 5) (bs' := [I, I, I, I, I, I, O, O, O, I, O, O]) rfl (.inl rfl) rfl (e_c Try.call16 (ok_wirelesslaw51_ask F c_14 x_44 _ e_x_447) [.g 2, .g 12, .g 13, .g 14] [.g (C_api_LowPower c_14 (.s 2)), .g (C_wirelesslaw51_Op x_44 (.s 12) (.s 13) (.s 14))] (.u [.inr (C_api_LowPower x_447.1 (.s 16)), .inl (cb x_447.2)]) (by kernel_rfl) (.inl rfl)) (by kernel_rfl) rfl (by kernel_rfl) ?_
                     refine SD.takes tk D_46 [] kn0 [6, 7, 8] [] [] [I, I, I, I, I, I, I, I, I, I, O, O] [(0, vs 0), (3, vp 1 0), (4, vi .i64 x_31.Now), (5, vi .i64 x_16), (6, vp 15 0), (37, .g (C_api_LowPower x_447.1 (.s 16))), (38, vb x_447.2)] rfl (by kernel_rfl) (by kernel_rfl) (by kernel_rfl) ?_
                     exact SD.vie D_46 [.g 0, .g 1, .g 2, .g 3, .g 4, .g 5, .g 6, .g 7, .g 8, .g 9, .g 10, .g 11, .g 12, .g 13, .g 14, .g 16, .g 15] c_46_1 (by kernel_rfl)
                   · refine SD.all2 (i := 5) (j := 9) (by kernel_rfl) ?_ ?_
                     · refine SW.eff D_46 (i := 5) (bs' := [I, I, I, I, I, I, O, O, O, O, O, O]) rfl (.inl rfl) rfl (e_c Try.call16 (ok_wirelesslaw51_ask F c_14 x_44 _ e_x_447) [.g 2, .g 12, .g 13, .g 14] [.g (C_api_LowPower c_14 (.s 2)), .g (C_wirelesslaw51_Op x_44 (.s 12) (.s 13) (.s 14))] (.u [.inr (C_api_LowPower x_447.1 (.s 15)), .inl (cb x_447.2)]) (by kernel_rfl) (.inl rfl)) (by kernel_rfl) rfl (by kernel_rfl) ?_
                       refine SD.norm (itsN := [.rd 25 R_T_wirelesslaw51_Op l_1, .blk 47 (C_api_LowPower c_14 (.s 2)), .rd 1 (RInt .u16) c_14.Subs, .elt (some (0, x_16)) false (C_wirelesslaw51_Op x_29 (.s 4) (.s 5) (.s 6)), .rd 1 R8 x_29.Q.PDU.Payload, .rd 1 R8 x_29.Q.Lower.Bytes, .rd 1 (RInt .u16) x_29.Subs, .elt (some (0, x_16)) false (C_wirelesslaw51_Op x_31 (.s 8) (.s 9) (.s 10)), .rd 1 R8 x_31.Q.PDU.Payload, .rd 1 R8 x_31.Q.Lower.Bytes, .rd 1 (RInt .u16) x_31.Subs, .elt (some (0, x_16)) false (C_wirelesslaw51_Op x_44 (.s 12) (.s 13) (.s 14)), .rd 1 R8 x_44.Q.PDU.Payload, .rd 1 R8 x_44.Q.Lower.Bytes, .rd 1 (RInt .u16) x_44.Subs, .rd 1 (RInt .u16) x_447.1.Subs]) (by kernel_rfl) ?_
                       refine SD.takes tk D_46 [] kn0 [6, 7, 8] [] [] [I, I, I, I, I, I, I, I, I, O, O, O] [(0, vs 0), (3, vp 1 0), (4, vi .i64 x_31.Now), (5, vi .i64 x_16), (37, .g (C_api_LowPower x_447.1 (.s 15))), (38, vb x_447.2)] rfl (by kernel_rfl) (by kernel_rfl) (by kernel_rfl) ?_
                       exact SD.vie D_46 [.g 0, .g 1, .g 2, .g 3, .g 4, .g 5, .g 6, .g 7, .g 8, .g 9, .g 10, .g 11, .g 12, .g 13, .g 14, .g 15] c_46_2 (by kernel_rfl)
                     · refine SW.eff D_46 (i := 9) (bs' := [I, I, I, I, I, O, O, O, O, I, O, O]) rfl (.inl rfl) rfl (e_alloc (E := 47) tk (C_api_LowPower (T_api_LowPower.mk 0 0 0 0 0 0 [] 0 false 0) nl) (by kernel_rfl)) (by kernel_rfl) rfl (by kernel_rfl) ?_
                       refine SD.norm (itsN := [.rd 25 R_T_wirelesslaw51_Op l_1, .blk 47 (C_api_LowPower c_14 (.s 2)), .rd 1 (RInt .u16) c_14.Subs, .elt (some (0, x_16)) false (C_wirelesslaw51_Op x_29 (.s 4) (.s 5) (.s 6)), .rd 1 R8 x_29.Q.PDU.Payload, .rd 1 R8 x_29.Q.Lower.Bytes, .rd 1 (RInt .u16) x_29.Subs, .elt (some (0, x_16)) false (C_wirelesslaw51_Op x_31 (.s 8) (.s 9) (.s 10)), .rd 1 R8 x_31.Q.PDU.Payload, .rd 1 R8 x_31.Q.Lower.Bytes, .rd 1 (RInt .u16) x_31.Subs, .elt (some (0, x_16)) false (C_wirelesslaw51_Op x_44 (.s 12) (.s 13) (.s 14)), .rd 1 R8 x_44.Q.PDU.Payload, .rd 1 R8 x_44.Q.Lower.Bytes, .rd 1 (RInt .u16) x_44.Subs, .blk 47 (C_api_LowPower (T_api_LowPower.mk 0 0 0 0 0 0 [] 0 false 0) nl)]) (by kernel_rfl) ?_
                       exact SD.vie D_46 [.g 0, .g 1, .g 2, .g 3, .g 4, .g 5, .g 6, .g 7, .g 8, .g 9, .g 10, .g 11, .g 12, .g 13, .g 14, .g 15] c_46_3 (by kernel_rfl)
           · rintro a w ⟨c_42, z_43, hp, h⟩
             refine h.go ?_
             refine SC.seq ?_
             refine SC.r tk [(0, vs 0), (3, vp 1 0), (4, vi .i64 x_31.Now), (5, vi .i64 x_16), (6, vp 3 0), (40, vb (!z_43))] [] [] [] (by kernel_rfl) ?_
             refine SC.if' rfl hp (fun hp => ?_) (fun hp => ?_)
             · refine SC.r tk [(2, vb false)] [] [] [] (by kernel_rfl) ?_
               have ho := done_inv hp hs1
               replace hp := ho1
               try rw [ho] at hp
               obtain rfl := some_inv' hp
               exact SC.re (js := [.g 0]) tk (by kernel_rfl)
             · refine SC.skipThen ?_
               refine SC.reg ?_
               refine SL.sim tk 2 [(0, vs 0), (3, vp 1 0), (4, vi .i64 x_31.Now), (5, vi .i64 x_16)] [(1, 47, (C_api_LowPower c_42 (.s 4)))] [] [] (by kernel_rfl) ?_
               refine SL.nilJ fun a w h => ?_
               exact ⟨c_42, x_31.Now, hp, h.at (js := [.g 0, .g 1, .g 4]) (by kernel_rfl)⟩
       · rintro a w ⟨c_27, x_28, hp, h⟩
         refine h.go ?_
         refine SC.reg ?_
         refine SL.sim tk 3 [(0, vs 0), (3, vp 1 0), (4, vi .i64 x_28), (5, vi .i64 (w64 (x_16 + 1)))] [] [] [] (by kernel_rfl) ?_
         refine SL.nilJ fun a w h => ?_
         exact ⟨n1, Nat.lt_succ_self _, c_27, x_28, w64 (x_16 + 1), next_inv hp hs1, h.at (js := [.g 0, .g 1, .g 2]) (by kernel_rfl)⟩
     · refine SC.exitJ rfl fun a w h => ?_
       have ho := done_inv hp hs1
       replace hp := ho1
       try rw [ho] at hp
       exact ⟨hp, h.at (js := [.g 0]) (by kernel_rfl)⟩
   · rintro a w ⟨hp, h⟩
     refine h.go ?_
     refine SC.seq ?_
     refine SC.reg ?_
     obtain ⟨x_3, e_x_3, hp⟩ := bind_inv hp
     refine SL.eff (e_c Try.call7 (ok_wirelesslaw51_lives F  _ e_x_3) [] [] (vb x_3) (by kernel_rfl) (.inl rfl)) rfl (by kernel_rfl) ?_
     refine SL.sim tk 1 [(2, vb x_3)] [] [] [] (by kernel_rfl) ?_
     refine SL.nilThen ?_
     obtain rfl := some_inv' hp
     exact SC.re (js := [.g 0]) tk (by kernel_rfl)
end V
end Go.Proofs.Ytphigebccfoppaa
