/-
  Walks, written by program: each Go function returns what its pure twin says.
-/
import Derived.Test.YtfdiabglpgkbeaaRep
namespace Go.Proofs.Ytfdiabglpgkbeaa
namespace V
theorem ok_wirelesslaw33_end (F : Nat) (mtu_1 : Int) (mps_2 : Int) (credits_3 : Int) (r : T_api_Channel) (hp : wirelesslaw33_end F mtu_1 mps_2 credits_3 = some r) : Spec Try.prog 19 [vi .i64 mtu_1, vi .i64 mps_2, vi .i64 credits_3] [] (.g (C_api_Channel (T_api_Channel.mk r.Local r.Remote r.PSM r.MTU r.MPS r.PeerMTU r.PeerMPS r.TxCredits r.RxCredits r.Given r.Out r.Sent r.In r.Want r.Failed) (.s 0) (.s 1))) [.rd 1 (RSl 1 R8) r.Out, .rd 1 R8 r.In] := by
 refine Spec.enter Try.func19 rfl Try.ntmps19 rfl rfl fun fx => ?_
 refine SC.seq ?_
 refine SC.reg ?_
 refine SL.eff (e_alloc (E := 26) tk (C_api_Channel (T_api_Channel.mk 0 0 0 0 0 0 0 0 0 0 [] 0 [] 0 false) nl nl) (by kernel_rfl)) rfl (by kernel_rfl) ?_
 refine SL.nilThen ?_
 refine SC.r tk [(6, vp 0 0)] [(0, 26, (C_api_Channel (T_api_Channel.mk 64 65 1 mtu_1 mps_2 mtu_1 mps_2 credits_3 credits_3 0 [] 0 [] (-1) false) nl nl))] [] [] (by kernel_rfl) ?_
 obtain rfl := some_inv' hp
 exact SC.re (js := [.n, .n]) tk (by kernel_rfl)

theorem ok_octets_Join (F : Nat) (parts_1 : (List (List Int))) (r : (List Int)) (hp : octets_Join F parts_1 = some r) : Spec Try.prog 37 [vs 0] [.rd 1 (RSl 1 R8) parts_1] (vs 1) [.gone, .rd 1 R8 r] := by
 refine Spec.enter Try.func37 rfl Try.ntmps37 rfl rfl fun fx => ?_
 refine SC.r tk [(0, vs 0)] [] [] [] (by kernel_rfl) ?_
 refine SC.r tk [(0, vs 0), (3, vn)] [] [] [] (by kernel_rfl) ?_
 refine SC.cut (fun a w => ∃ (l_2 : (List Int)), octets_Join_j1 F l_2 = some r ∧ A 17 1 fx [(3, vs 1)] [.gone, .own 1 5 R8 l_2] a w) ?_ ?_
 · refine SC.r tk [(3, vn), (6, vs 0), (7, vi .i64 (len parts_1)), (8, vi .i64 0)] [] [] [] (by kernel_rfl) ?_
   refine SC.block ?_
   obtain ⟨o1, hi1, ho1⟩ := bind_inv hp
   clear hp
   refine SC.loop (fun n a w => ∃ (l_3 : (List Int)) (x_4 : Int), iter (fun s => octets_Join_l1 F parts_1 s.1 s.2) n (l_3, x_4) = some o1 ∧ A 17 1 fx [(3, vs 1), (6, vs 0), (7, vi .i64 (len parts_1)), (8, vi .i64 x_4)] [.rd 1 (RSl 1 R8) parts_1, .own 1 5 R8 l_3] a w) F (fun a w h => ⟨[], 0, hi1, h.at (js := [.g 0, .n]) (by kernel_rfl)⟩) ?_
   rintro n1 a w ⟨l_3, x_4, hi1, h⟩
   obtain ⟨n1, q1, rfl, hp, hs1⟩ := iter_inv hi1
   replace hp : octets_Join_l1 F parts_1 l_3 x_4 = some q1 := hp
   clear hi1
   refine h.go ?_
   refine SC.r tk [(3, vs 1), (6, vs 0), (7, vi .i64 (len parts_1)), (8, vi .i64 x_4), (9, vb (decide (x_4 < (len parts_1))))] [] [] [] (by kernel_rfl) ?_
   refine SC.seq ?_
   refine SC.if' rfl hp (fun hp => ?_) (fun hp => ?_)
   · refine SC.skipThen ?_
     refine SC.seq ?_
     refine SC.block ?_
     obtain ⟨x_5, e_x_5, hp⟩ := bind_inv hp
     refine SC.pre (pre_ix (i := 0) (iv := x_4) (sz := 1) (R := (RSl 1 R8)) (l := parts_1) (by kernel_rfl) rfl e_x_5) ?_
     refine SC.r tk [(3, vs 1), (5, vs 3), (6, vs 0), (7, vi .i64 (len parts_1)), (8, vi .i64 x_4)] [] [.el 2] [x_4] (by kernel_rfl) ?_
     refine SC.reg ?_
     refine SL.sim tk 2 [(3, vs 1), (6, vs 0), (7, vi .i64 (len parts_1)), (8, vi .i64 x_4), (12, vs 1), (13, vs 3)] [] [] [] (by kernel_rfl) ?_
     obtain ⟨l_6, e_l_6, hp⟩ := bind_inv hp
     refine SL.eff (e_app (i := 1) (l := l_3) (sz := 1) (E := 5) (R := R8) (by_ := 1) (m := x_5) tk rfl (by kernel_rfl) rfl (.r (by kernel_rfl)) e_l_6 (by kernel_rfl)) rfl (by kernel_rfl) ?_
     refine SL.sim tk 1 [(3, vs 4), (6, vs 0), (7, vi .i64 (len parts_1)), (8, vi .i64 x_4)] [] [] [] (by kernel_rfl) ?_
     refine SL.nilThen ?_
     refine SC.reg ?_
     refine SL.sim tk 2 [(3, vs 4), (6, vs 0), (7, vi .i64 (len parts_1)), (8, vi .i64 (w64 (x_4 + 1)))] [] [] [] (by kernel_rfl) ?_
     refine SL.nilJ fun a w h => ?_
     exact ⟨n1, Nat.lt_succ_self _, l_6, w64 (x_4 + 1), next_inv hp hs1, h.at (js := [.g 0, .g 4]) (by kernel_rfl)⟩
   · refine SC.exitJ rfl fun a w h => ?_
     have ho := done_inv hp hs1
     replace hp := ho1
     try rw [ho] at hp
     exact ⟨l_3, hp, h.at (js := [.g 0, .g 1]) (by kernel_rfl)⟩
 · rintro a w ⟨l_2, hp, h⟩
   refine h.go ?_
   refine SC.r tk [(2, vs 1)] [] [] [] (by kernel_rfl) ?_
   obtain rfl := some_inv' hp
   exact SC.re (js := [.g 0, .z 1]) tk (by kernel_rfl)

theorem ok_sdu_copied (F : Nat) (c_1 : T_api_Channel) (r : T_api_Channel) (hp : sdu_copied F c_1 = some r) : Spec Try.prog 32 [.g (C_api_Channel c_1 (.s 0) (.s 1))] [.rd 1 (RSl 1 R8) c_1.Out, .rd 1 R8 c_1.In] (.g (C_api_Channel (T_api_Channel.mk r.Local r.Remote r.PSM r.MTU r.MPS r.PeerMTU r.PeerMPS r.TxCredits r.RxCredits r.Given r.Out r.Sent r.In r.Want r.Failed) (.s 2) (.s 3))) [.gone, .gone, .own 1 24 (RSl 1 R8) r.Out, .rd 1 R8 r.In] := by
 refine Spec.enter Try.func32 rfl Try.ntmps32 rfl rfl fun fx => ?_
 refine SC.seq ?_
 refine SC.reg ?_
 refine SL.eff (e_box (E := 26) (C_api_Channel c_1 (.s 0) (.s 1)) (by kernel_rfl)) rfl (by kernel_rfl) ?_
 refine SL.eff (e_alloc (E := 26) tk (C_api_Channel (T_api_Channel.mk 0 0 0 0 0 0 0 0 0 0 [] 0 [] 0 false) nl nl) (by kernel_rfl)) rfl (by kernel_rfl) ?_
 refine SL.nilThen ?_
 refine SC.r tk [(1, vp 2 0), (2, vp 3 0), (3, vn)] [] [] [] (by kernel_rfl) ?_
 refine SC.cut (fun a w => ∃ (l_2 : (List (List Int))), sdu_copied_j1 F c_1 l_2 = some r ∧ A 33 2 fx [(1, vp 2 0), (2, vp 3 0), (3, vs 4)] [.rd 1 (RSl 1 R8) c_1.Out, .rd 1 R8 c_1.In, .blk 26 (C_api_Channel c_1 (.s 0) (.s 1)), .blk 26 (C_api_Channel (T_api_Channel.mk 0 0 0 0 0 0 0 0 0 0 [] 0 [] 0 false) nl nl), .own 1 24 (RSl 1 R8) l_2] a w) ?_ ?_
 · refine SC.r tk [(1, vp 2 0), (2, vp 3 0), (3, vn), (8, vs 0), (9, vi .i64 (len c_1.Out)), (10, vi .i64 0)] [] [] [] (by kernel_rfl) ?_
   refine SC.block ?_
   obtain ⟨o1, hi1, ho1⟩ := bind_inv hp
   clear hp
   refine SC.loop (fun n a w => ∃ (l_4 : (List (List Int))) (x_5 : Int), iter (fun s => sdu_copied_l1 F c_1 s.1 s.2) n (l_4, x_5) = some o1 ∧ A 33 2 fx [(1, vp 2 0), (2, vp 3 0), (3, vs 4), (8, vs 0), (9, vi .i64 (len c_1.Out)), (10, vi .i64 x_5)] [.rd 1 (RSl 1 R8) c_1.Out, .rd 1 R8 c_1.In, .blk 26 (C_api_Channel c_1 (.s 0) (.s 1)), .blk 26 (C_api_Channel (T_api_Channel.mk 0 0 0 0 0 0 0 0 0 0 [] 0 [] 0 false) nl nl), .own 1 24 (RSl 1 R8) l_4] a w) F (fun a w h => ⟨[], 0, hi1, h.at (js := [.g 0, .g 1, .g 2, .g 3, .n]) (by kernel_rfl)⟩) ?_
   rintro n1 a w ⟨l_4, x_5, hi1, h⟩
   obtain ⟨n1, q1, rfl, hp, hs1⟩ := iter_inv hi1
   replace hp : sdu_copied_l1 F c_1 l_4 x_5 = some q1 := hp
   clear hi1
   refine h.go ?_
   refine SC.r tk [(1, vp 2 0), (2, vp 3 0), (3, vs 4), (8, vs 0), (9, vi .i64 (len c_1.Out)), (10, vi .i64 x_5), (11, vb (decide (x_5 < (len c_1.Out))))] [] [] [] (by kernel_rfl) ?_
   refine SC.seq ?_
   refine SC.if' rfl hp (fun hp => ?_) (fun hp => ?_)
   · refine SC.skipThen ?_
     refine SC.seq ?_
     refine SC.block ?_
     obtain ⟨x_6, e_x_6, hp⟩ := bind_inv hp
     refine SC.pre (pre_ix (i := 0) (iv := x_5) (sz := 1) (R := (RSl 1 R8)) (l := c_1.Out) (by kernel_rfl) rfl e_x_6) ?_
     refine SC.r tk [(1, vp 2 0), (2, vp 3 0), (3, vs 4), (5, vs 6), (8, vs 0), (9, vi .i64 (len c_1.Out)), (10, vi .i64 x_5)] [] [.el 5] [x_5] (by kernel_rfl) ?_
     refine SC.seq ?_
     refine SC.reg ?_
     refine SL.sim tk 2 [(1, vp 2 0), (2, vp 3 0), (3, vs 4), (5, vs 6), (8, vs 0), (9, vi .i64 (len c_1.Out)), (10, vi .i64 x_5), (15, vi .i64 (len x_6))] [] [] [] (by kernel_rfl) ?_
     obtain ⟨l_7, e_l_7, hp⟩ := bind_inv hp
     refine SL.eff (e_make (sz := 1) (E := 5) (R := R8) tk rfl rfl rfl (fun _ _ => rfl) e_l_7 (by kernel_rfl)) rfl (by kernel_rfl) ?_
     refine SL.sim tk 1 [(1, vp 2 0), (2, vp 3 0), (3, vs 4), (5, vs 6), (6, vs 7), (8, vs 0), (9, vi .i64 (len c_1.Out)), (10, vi .i64 x_5)] [] [] [] (by kernel_rfl) ?_
     refine SL.nilThen ?_
     refine SC.seq ?_
     refine SC.reg ?_
     refine SL.sim tk 2 [(1, vp 2 0), (2, vp 3 0), (3, vs 4), (6, vs 7), (8, vs 0), (9, vi .i64 (len c_1.Out)), (10, vi .i64 x_5), (17, vs 7), (18, vs 6)] [] [] [] (by kernel_rfl) ?_
     refine SL.eff (e_copy (i := 7) (l := l_7) (E := 5) (R := R8) (by_ := 1) (m := x_6) tk rfl (by kernel_rfl) rfl (.r (by kernel_rfl)) (by kernel_rfl)) rfl (by kernel_rfl) ?_
     refine SL.nilThen ?_
     refine SC.reg ?_
     refine SL.sim tk 2 [(1, vp 2 0), (2, vp 3 0), (3, vs 4), (8, vs 0), (9, vi .i64 (len c_1.Out)), (10, vi .i64 x_5), (20, vs 4), (21, vs 7)] [] [] [] (by kernel_rfl) ?_
     refine SL.pre (pre_frz (i := 7) (sz := 1) (E := 5) (R := R8) (l := cpy l_7 x_6) (by kernel_rfl)) ?_
     refine SL.eff (e_lit (sz := 1) (E := 24) (R := (RSl 1 R8)) (by_ := 24) tk [[.s 7]] [cpy l_7 x_6] (by kernel_rfl) ⟨(Clo.sl (by kernel_rfl)), trivial⟩ rfl (by kernel_rfl) (by kernel_rfl)) rfl (by kernel_rfl) ?_
     refine SL.norm (itsN := [.rd 1 (RSl 1 R8) c_1.Out, .rd 1 R8 c_1.In, .blk 26 (C_api_Channel c_1 (.s 0) (.s 1)), .blk 26 (C_api_Channel (T_api_Channel.mk 0 0 0 0 0 0 0 0 0 0 [] 0 [] 0 false) nl nl), .own 1 24 (RSl 1 R8) l_4, .elt (some (0, x_5)) false [.s 6], .rd 1 R8 x_6, .rd 1 R8 (cpy l_7 x_6), .own 1 24 (RSl 1 R8) [cpy l_7 x_6]]) (by kernel_rfl) ?_
     obtain ⟨l_8, e_l_8, hp⟩ := bind_inv hp
     refine SL.eff (e_app (i := 4) (l := l_4) (sz := 1) (E := 24) (R := (RSl 1 R8)) (by_ := 24) (m := [cpy l_7 x_6]) tk rfl (by kernel_rfl) rfl (.o 24 (by kernel_rfl)) e_l_8 (by kernel_rfl)) rfl (by kernel_rfl) ?_
     refine SL.sim tk 1 [(1, vp 2 0), (2, vp 3 0), (3, vs 9), (8, vs 0), (9, vi .i64 (len c_1.Out)), (10, vi .i64 x_5)] [] [] [] (by kernel_rfl) ?_
     refine SL.nilThen ?_
     refine SC.reg ?_
     refine SL.sim tk 2 [(1, vp 2 0), (2, vp 3 0), (3, vs 9), (8, vs 0), (9, vi .i64 (len c_1.Out)), (10, vi .i64 (w64 (x_5 + 1)))] [] [] [] (by kernel_rfl) ?_
     refine SL.nilJ fun a w h => ?_
     exact ⟨n1, Nat.lt_succ_self _, l_8, w64 (x_5 + 1), next_inv hp hs1, h.at (js := [.g 0, .g 1, .g 2, .g 3, .g 9]) (by kernel_rfl)⟩
   · refine SC.exitJ rfl fun a w h => ?_
     have ho := done_inv hp hs1
     replace hp := ho1
     try rw [ho] at hp
     exact ⟨l_4, hp, h.at (js := [.g 0, .g 1, .g 2, .g 3, .g 4]) (by kernel_rfl)⟩
 · rintro a w ⟨l_2, hp, h⟩
   refine h.go ?_
   refine SC.r tk [(1, vp 2 0), (2, vp 3 0)] [(2, 26, (C_api_Channel ({ c_1 with Out := l_2 }) (.s 4) (.s 1)))] [] [] (by kernel_rfl) ?_
   refine SC.seq ?_
   refine SC.reg ?_
   refine SL.sim tk 2 [(1, vp 2 0), (2, vp 3 0), (28, vs 1)] [] [] [] (by kernel_rfl) ?_
   refine SL.eff (e_lit (sz := 1) (E := 24) (R := (RSl 1 R8)) (by_ := 24) tk [[.s 1]] [c_1.In] (by kernel_rfl) ⟨(Clo.sl (by kernel_rfl)), trivial⟩ rfl (by kernel_rfl) (by kernel_rfl)) rfl (by kernel_rfl) ?_
   obtain ⟨x_3, e_x_3, hp⟩ := bind_inv hp
   refine SL.pre (pre_frz (i := 5) (sz := 1) (E := 24) (R := (RSl 1 R8)) (l := [c_1.In]) (by kernel_rfl)) ?_
   refine SL.eff (e_c Try.call37 (ok_octets_Join F [c_1.In] _ e_x_3) [.g 5] [vs 5] (vs 6) (by kernel_rfl) (.inl rfl)) rfl (by kernel_rfl) ?_
   refine SL.norm (itsN := [.rd 1 (RSl 1 R8) c_1.Out, .rd 1 R8 c_1.In, .blk 26 (C_api_Channel ({ c_1 with Out := l_2 }) (.s 4) (.s 1)), .blk 26 (C_api_Channel (T_api_Channel.mk 0 0 0 0 0 0 0 0 0 0 [] 0 [] 0 false) nl nl), .own 1 24 (RSl 1 R8) l_2, .rd 1 (RSl 1 R8) [c_1.In], .rd 1 R8 x_3]) (by kernel_rfl) ?_
   refine SL.sim tk 2 [(1, vp 2 0), (2, vp 3 0)] [(2, 26, (C_api_Channel ({ c_1 with Out := l_2, In := x_3 }) (.s 4) (.s 6)))] [] [] (by kernel_rfl) ?_
   refine SL.nilThen ?_
   refine SC.r tk [(2, vp 3 0)] [(3, 26, (C_api_Channel ({ c_1 with Out := l_2, In := x_3 }) (.s 4) (.s 6)))] [] [] (by kernel_rfl) ?_
   obtain rfl := some_inv' hp
   exact SC.re (js := [.g 0, .g 1, .g 4, .g 6]) tk (by kernel_rfl)

theorem ok_sdu_Queue (F : Nat) (c_1 : T_api_Channel) (sdu_2 : (List Int)) (r : T_api_Channel × Int) (hp : sdu_Queue F c_1 sdu_2 = some r) : Spec Try.prog 18 [.g (C_api_Channel c_1 (.s 0) (.s 1)), vs 2] [.rd 1 (RSl 1 R8) c_1.Out, .rd 1 R8 c_1.In, .rd 1 R8 sdu_2] (.u [.inr (C_api_Channel (T_api_Channel.mk r.1.Local r.1.Remote r.1.PSM r.1.MTU r.1.MPS r.1.PeerMTU r.1.PeerMPS r.1.TxCredits r.1.RxCredits r.1.Given r.1.Out r.1.Sent r.1.In r.1.Want r.1.Failed) (.s 3) (.s 4)), .inl (ci .i64 r.2)]) [.gone, .gone, .gone, .rd 1 (RSl 1 R8) r.1.Out, .rd 1 R8 r.1.In] := by
 refine Spec.enter Try.func18 rfl Try.ntmps18 rfl rfl fun fx => ?_
 refine SC.seq ?_
 refine SC.reg ?_
 refine SL.eff (e_box (E := 26) (C_api_Channel c_1 (.s 0) (.s 1)) (by kernel_rfl)) rfl (by kernel_rfl) ?_
 refine SL.eff (e_alloc (E := 26) tk (C_api_Channel (T_api_Channel.mk 0 0 0 0 0 0 0 0 0 0 [] 0 [] 0 false) nl nl) (by kernel_rfl)) rfl (by kernel_rfl) ?_
 refine SL.sim tk 1 [(1, vs 2), (2, vp 3 0), (4, vp 4 0)] [] [] [] (by kernel_rfl) ?_
 refine SL.nilThen ?_
 refine SC.seq ?_
 refine SC.reg ?_
 refine SL.sim tk 1 [(1, vs 2), (2, vp 3 0), (4, vp 4 0), (6, .g (C_api_Channel c_1 (.s 0) (.s 1)))] [] [] [] (by kernel_rfl) ?_
 obtain ⟨x_3, e_x_3, hp⟩ := bind_inv hp
 refine SL.eff (e_c Try.call32 (ok_sdu_copied F c_1 _ e_x_3) [.g 0, .g 1] [.g (C_api_Channel c_1 (.s 0) (.s 1))] (.g (C_api_Channel x_3 (.s 5) (.s 6))) (by kernel_rfl) (.inl rfl)) rfl (by kernel_rfl) ?_
 refine SL.norm (itsN := [.rd 1 (RSl 1 R8) c_1.Out, .rd 1 R8 c_1.In, .rd 1 R8 sdu_2, .blk 26 (C_api_Channel c_1 (.s 0) (.s 1)), .blk 26 (C_api_Channel (T_api_Channel.mk 0 0 0 0 0 0 0 0 0 0 [] 0 [] 0 false) nl nl), .own 1 24 (RSl 1 R8) x_3.Out, .rd 1 R8 x_3.In]) (by kernel_rfl) ?_
 refine SL.sim tk 1 [(1, vs 2), (2, vp 3 0), (4, vp 4 0)] [(3, 26, (C_api_Channel x_3 (.s 5) (.s 6)))] [] [] (by kernel_rfl) ?_
 refine SL.nilThen ?_
 refine SC.seq ?_
 refine SC.block ?_
 refine SC.r tk [(1, vs 2), (2, vp 3 0), (4, vp 4 0), (8, vb x_3.Failed)] [] [] [] (by kernel_rfl) ?_
 refine SC.if' rfl hp (fun hp => ?_) (fun hp => ?_)
 · refine SC.r tk [(4, vp 4 0), (5, vi .i64 9)] [(4, 26, (C_api_Channel x_3 (.s 5) (.s 6)))] [] [] (by kernel_rfl) ?_
   obtain rfl := some_inv' hp
   exact SC.re (js := [.g 0, .g 1, .g 2, .z 5, .g 6]) tk (by kernel_rfl)
 · refine SC.r tk [(1, vs 2), (2, vp 3 0), (4, vp 4 0), (12, vb (decide ((len sdu_2) > x_3.PeerMTU)))] [] [] [] (by kernel_rfl) ?_
   refine SC.if' rfl hp (fun hp => ?_) (fun hp => ?_)
   · refine SC.r tk [(4, vp 4 0), (5, vi .i64 4)] [(4, 26, (C_api_Channel x_3 (.s 5) (.s 6)))] [] [] (by kernel_rfl) ?_
     obtain rfl := some_inv' hp
     exact SC.re (js := [.g 0, .g 1, .g 2, .z 5, .g 6]) tk (by kernel_rfl)
   · refine SC.r tk [(1, vs 2), (2, vp 3 0), (4, vp 4 0), (19, vb (decide ((len x_3.Out) ≥ 64)))] [] [] [] (by kernel_rfl) ?_
     refine SC.if' rfl hp (fun hp => ?_) (fun hp => ?_)
     · refine SC.r tk [(4, vp 4 0), (5, vi .i64 8)] [(4, 26, (C_api_Channel x_3 (.s 5) (.s 6)))] [] [] (by kernel_rfl) ?_
       obtain rfl := some_inv' hp
       exact SC.re (js := [.g 0, .g 1, .g 2, .z 5, .g 6]) tk (by kernel_rfl)
     · refine SC.skipThen ?_
       refine SC.cut (fun a w => ∃ (l_4 : (List (List Int))), sdu_Queue_j1 F x_3 l_4 = some r ∧ A 34 3 fx [(2, vp 3 0), (4, vp 6 0)] [.gone, .gone, .gone, .blk 26 (C_api_Channel ({ x_3 with Out := l_4 }) (.s 4) (.s 5)), .own 1 24 (RSl 1 R8) l_4, .rd 1 R8 x_3.In, .blk 26 (C_api_Channel (T_api_Channel.mk 0 0 0 0 0 0 0 0 0 0 [] 0 [] 0 false) nl nl)] a w) ?_ ?_
       · refine SC.draw MO [I, I, I, O, I, O, I] (by kernel_rfl) fun kap_5 D_6 => ?_
         refine SD.takes tk D_6 [] kn0 [2] [] [] [O, O, I, O, O, O, O, O, O] [(2, vp 3 0), (4, vp 4 0), (27, vs 2)] rfl (by kernel_rfl) (by kernel_rfl) (by kernel_rfl) ?_
         obtain ⟨x_327, e_x_327, hp⟩ := bind_inv hp
         obtain ⟨l_487, e_l_487, hp⟩ := bind_inv hp
         refine SD.lay 0 [I, I, I, I, I, I, I, I, I] [(2, vp 3 0), (4, vp 4 0)] [.rd 1 (RSl 1 R8) c_1.Out, .rd 1 R8 c_1.In, .rd 1 R8 sdu_2, .blk 26 (C_api_Channel ({ x_3 with Out := l_487 }) (.s 10) (.s 6)), .blk 26 (C_api_Channel (T_api_Channel.mk 0 0 0 0 0 0 0 0 0 0 [] 0 [] 0 false) nl nl), .gone, .rd 1 R8 x_3.In, .gone, .gone, .gone, .own 1 24 (RSl 1 R8) l_487] ?_ (fun c_6_0 => ?_)
         · refine SD.done (by kernel_rfl) fun a w h => ?_
           exact ⟨l_487, hp, h.at (js := [.g 0, .g 1, .g 2, .g 3, .g 10, .g 6, .g 4]) (by kernel_rfl)⟩
         · refine SD.lay 1 [I, I, I, I, I, I, I, I, O] [(2, vp 3 0), (4, vp 4 0), (31, vs 10), (32, vp 3 10)] [.rd 1 (RSl 1 R8) c_1.Out, .rd 1 R8 c_1.In, .rd 1 R8 sdu_2, .blk 26 [ci .u16 x_3.Local, ci .u16 x_3.Remote, ci .u16 x_3.PSM, ci .i64 x_3.MTU, ci .i64 x_3.MPS, ci .i64 x_3.PeerMTU, ci .i64 x_3.PeerMPS, ci .i64 x_3.TxCredits, ci .i64 x_3.RxCredits, ci .i64 x_3.Given, .s 5, ci .i64 x_3.Sent, .s 6, ci .i64 x_3.Want, cb x_3.Failed], .blk 26 (C_api_Channel (T_api_Channel.mk 0 0 0 0 0 0 0 0 0 0 [] 0 [] 0 false) nl nl), .gone, .rd 1 R8 x_3.In, .gone, .gone, .gone, .own 1 24 (RSl 1 R8) l_487] ?_ (fun c_6_1 => ?_)
           · refine SD.all1 (i := 8) (by kernel_rfl) ?_
             refine SW.store D_6 tk (i := 8) (q := 3) (T := 26) (cs := (C_api_Channel ({ x_3 with Out := l_487 }) (.s 10) (.s 6))) (bs' := [I, I, I, I, I, I, I, I, I]) rfl (by kernel_rfl) rfl rfl (by kernel_rfl) ?_
             exact SD.vie D_6 [.g 0, .g 1, .g 2, .g 3, .g 4, .g 5, .g 6, .n, .n, .n, .g 10] c_6_0 (by kernel_rfl)
           · refine SD.lay 2 [I, I, I, I, I, I, I, O, O] [(2, vp 3 0), (4, vp 4 0), (31, vs 10)] [.rd 1 (RSl 1 R8) c_1.Out, .rd 1 R8 c_1.In, .rd 1 R8 sdu_2, .blk 26 [ci .u16 x_3.Local, ci .u16 x_3.Remote, ci .u16 x_3.PSM, ci .i64 x_3.MTU, ci .i64 x_3.MPS, ci .i64 x_3.PeerMTU, ci .i64 x_3.PeerMPS, ci .i64 x_3.TxCredits, ci .i64 x_3.RxCredits, ci .i64 x_3.Given, .s 5, ci .i64 x_3.Sent, .s 6, ci .i64 x_3.Want, cb x_3.Failed], .blk 26 (C_api_Channel (T_api_Channel.mk 0 0 0 0 0 0 0 0 0 0 [] 0 [] 0 false) nl nl), .gone, .rd 1 R8 x_3.In, .gone, .gone, .gone, .own 1 24 (RSl 1 R8) l_487] ?_ (fun c_6_2 => ?_)
             · refine SD.all1 (i := 7) (by kernel_rfl) ?_
               refine SW.eff D_6 (i := 7) (v := vp 3 10) (bs' := [I, I, I, I, I, I, I, I, O]) rfl (.inl rfl) rfl (e_val tk (by kernel_rfl)) (by kernel_rfl) rfl (by kernel_rfl) ?_
               exact SD.vie D_6 [.g 0, .g 1, .g 2, .g 3, .g 4, .g 5, .g 6, .n, .n, .n, .g 10] c_6_1 (by kernel_rfl)
             · refine SD.lay 3 [I, I, I, I, I, I, O, O, O] [(2, vp 3 0), (4, vp 4 0), (26, vs 5), (30, vs 9)] [.rd 1 (RSl 1 R8) c_1.Out, .rd 1 R8 c_1.In, .rd 1 R8 sdu_2, .blk 26 (C_api_Channel x_3 (.s 5) (.s 6)), .blk 26 (C_api_Channel (T_api_Channel.mk 0 0 0 0 0 0 0 0 0 0 [] 0 [] 0 false) nl nl), .own 1 24 (RSl 1 R8) x_3.Out, .rd 1 R8 x_3.In, .gone, .gone, .own 1 24 (RSl 1 R8) [x_327]] ?_ (fun c_6_3 => ?_)
               · refine SD.all1 (i := 6) (by kernel_rfl) ?_
                 refine SW.eff D_6 (i := 6) (bs' := [I, I, I, I, I, I, I, O, O]) rfl (.inl rfl) rfl (e_app (i := 5) (l := x_3.Out) (sz := 1) (E := 24) (R := (RSl 1 R8)) (by_ := 24) (m := [x_327]) tk rfl (by kernel_rfl) rfl (.o 24 (by kernel_rfl)) e_l_487 (by kernel_rfl)) (by kernel_rfl) rfl (by kernel_rfl) ?_
                 exact SD.vie D_6 [.g 0, .g 1, .g 2, .g 3, .g 4, .g 5, .g 6, .n, .n, .n, .g 10] c_6_2 (by kernel_rfl)
               · refine SD.lay 4 [I, I, I, I, I, O, O, O, O] [(2, vp 3 0), (4, vp 4 0), (26, vs 5), (29, vs 8)] [.rd 1 (RSl 1 R8) c_1.Out, .rd 1 R8 c_1.In, .rd 1 R8 sdu_2, .blk 26 (C_api_Channel x_3 (.s 5) (.s 6)), .blk 26 (C_api_Channel (T_api_Channel.mk 0 0 0 0 0 0 0 0 0 0 [] 0 [] 0 false) nl nl), .own 1 24 (RSl 1 R8) x_3.Out, .rd 1 R8 x_3.In, .gone, .rd 1 R8 x_327] ?_ (fun c_6_4 => ?_)
                 · refine SD.all1 (i := 5) (by kernel_rfl) ?_
                   refine SW.eff D_6 (i := 5) (bs' := [I, I, I, I, I, I, O, O, O]) rfl (.inl rfl) rfl (e_lit (sz := 1) (E := 24) (R := (RSl 1 R8)) (by_ := 24) tk [[.s 8]] [x_327] (by kernel_rfl) ⟨(Clo.sl (by kernel_rfl)), trivial⟩ rfl (by kernel_rfl) (by kernel_rfl)) (by kernel_rfl) rfl (by kernel_rfl) ?_
                   exact SD.vie D_6 [.g 0, .g 1, .g 2, .g 3, .g 4, .g 5, .g 6, .n, .n, .g 9] c_6_3 (by kernel_rfl)
                 · refine SD.lay 5 [I, I, I, I, O, O, O, O, O] [(2, vp 3 0), (4, vp 4 0), (26, vs 5), (28, vs 7)] [.rd 1 (RSl 1 R8) c_1.Out, .rd 1 R8 c_1.In, .rd 1 R8 sdu_2, .blk 26 (C_api_Channel x_3 (.s 5) (.s 6)), .blk 26 (C_api_Channel (T_api_Channel.mk 0 0 0 0 0 0 0 0 0 0 [] 0 [] 0 false) nl nl), .own 1 24 (RSl 1 R8) x_3.Out, .rd 1 R8 x_3.In, .own 1 24 (RSl 1 R8) [sdu_2]] ?_ (fun c_6_5 => ?_)
                   · refine SD.pre (pre_frz (i := 7) (sz := 1) (E := 24) (R := (RSl 1 R8)) (l := [sdu_2]) (by kernel_rfl)) ?_
                     refine SD.all1 (i := 4) (by kernel_rfl) ?_
                     refine SW.eff D_6 (i := 4) (bs' := [I, I, I, I, I, O, O, O, O]) rfl (.inl rfl) rfl (e_c Try.call37 (ok_octets_Join F [sdu_2] _ e_x_327) [.g 7] [vs 7] (vs 8) (by kernel_rfl) (.inl rfl)) (by kernel_rfl) rfl (by kernel_rfl) ?_
                     exact SD.vie D_6 [.g 0, .g 1, .g 2, .g 3, .g 4, .g 5, .g 6, .n, .g 8] c_6_4 (by kernel_rfl)
                   · refine SD.lay 6 [I, I, I, O, O, O, O, O, O] [(2, vp 3 0), (4, vp 4 0), (26, vs 5), (27, vs 2)] [.rd 1 (RSl 1 R8) c_1.Out, .rd 1 R8 c_1.In, .rd 1 R8 sdu_2, .blk 26 (C_api_Channel x_3 (.s 5) (.s 6)), .blk 26 (C_api_Channel (T_api_Channel.mk 0 0 0 0 0 0 0 0 0 0 [] 0 [] 0 false) nl nl), .own 1 24 (RSl 1 R8) x_3.Out, .rd 1 R8 x_3.In] ?_ (fun c_6_6 => ?_)
                     · refine SD.all1 (i := 3) (by kernel_rfl) ?_
                       refine SW.eff D_6 (i := 3) (bs' := [I, I, I, I, O, O, O, O, O]) rfl (.inl rfl) rfl (e_lit (sz := 1) (E := 24) (R := (RSl 1 R8)) (by_ := 24) tk [[.s 2]] [sdu_2] (by kernel_rfl) ⟨(Clo.sl (by kernel_rfl)), trivial⟩ rfl (by kernel_rfl) (by kernel_rfl)) (by kernel_rfl) rfl (by kernel_rfl) ?_
                       exact SD.vie D_6 [.g 0, .g 1, .g 2, .g 3, .g 4, .g 5, .g 6, .g 7] c_6_5 (by kernel_rfl)
                     · refine SD.lay 4 [I, O, I, I, I, I, O, O, O] [(2, vp 3 0), (4, vp 4 0), (25, vp 3 10), (30, vs 9)] [.rd 1 (RSl 1 R8) c_1.Out, .rd 1 R8 c_1.In, .rd 1 R8 sdu_2, .blk 26 (C_api_Channel x_3 (.s 5) (.s 6)), .blk 26 (C_api_Channel (T_api_Channel.mk 0 0 0 0 0 0 0 0 0 0 [] 0 [] 0 false) nl nl), .own 1 24 (RSl 1 R8) x_3.Out, .rd 1 R8 x_3.In, .gone, .gone, .own 1 24 (RSl 1 R8) [x_327]] ?_ (fun c_6_7 => ?_)
                       · refine SD.all1 (i := 1) (by kernel_rfl) ?_
                         refine SW.eff D_6 (i := 1) (v := vs 5) (bs' := [I, I, I, I, I, I, O, O, O]) rfl (.inl rfl) rfl (e_val tk (by kernel_rfl)) (by kernel_rfl) rfl (by kernel_rfl) ?_
                         exact SD.vie D_6 [.g 0, .g 1, .g 2, .g 3, .g 4, .g 5, .g 6, .n, .n, .g 9] c_6_3 (by kernel_rfl)
                       · refine SD.lay 5 [I, O, I, I, I, O, O, O, O] [(2, vp 3 0), (4, vp 4 0), (25, vp 3 10), (29, vs 8)] [.rd 1 (RSl 1 R8) c_1.Out, .rd 1 R8 c_1.In, .rd 1 R8 sdu_2, .blk 26 (C_api_Channel x_3 (.s 5) (.s 6)), .blk 26 (C_api_Channel (T_api_Channel.mk 0 0 0 0 0 0 0 0 0 0 [] 0 [] 0 false) nl nl), .own 1 24 (RSl 1 R8) x_3.Out, .rd 1 R8 x_3.In, .gone, .rd 1 R8 x_327] ?_ (fun c_6_8 => ?_)
                         · refine SD.all2 (i := 1) (j := 5) (by kernel_rfl) ?_ ?_
                           · refine SW.eff D_6 (i := 1) (v := vs 5) (bs' := [I, I, I, I, I, O, O, O, O]) rfl (.inl rfl) rfl (e_val tk (by kernel_rfl)) (by kernel_rfl) rfl (by kernel_rfl) ?_
                             exact SD.vie D_6 [.g 0, .g 1, .g 2, .g 3, .g 4, .g 5, .g 6, .n, .g 8] c_6_4 (by kernel_rfl)
                           · refine SW.eff D_6 (i := 5) (bs' := [I, O, I, I, I, I, O, O, O]) rfl (.inl rfl) rfl (e_lit (sz := 1) (E := 24) (R := (RSl 1 R8)) (by_ := 24) tk [[.s 8]] [x_327] (by kernel_rfl) ⟨(Clo.sl (by kernel_rfl)), trivial⟩ rfl (by kernel_rfl) (by kernel_rfl)) (by kernel_rfl) rfl (by kernel_rfl) ?_
                             exact SD.vie D_6 [.g 0, .g 1, .g 2, .g 3, .g 4, .g 5, .g 6, .n, .n, .g 9] c_6_7 (by kernel_rfl)
                         · refine SD.lay 6 [I, O, I, I, O, O, O, O, O] [(2, vp 3 0), (4, vp 4 0), (25, vp 3 10), (28, vs 7)] [.rd 1 (RSl 1 R8) c_1.Out, .rd 1 R8 c_1.In, .rd 1 R8 sdu_2, .blk 26 (C_api_Channel x_3 (.s 5) (.s 6)), .blk 26 (C_api_Channel (T_api_Channel.mk 0 0 0 0 0 0 0 0 0 0 [] 0 [] 0 false) nl nl), .own 1 24 (RSl 1 R8) x_3.Out, .rd 1 R8 x_3.In, .own 1 24 (RSl 1 R8) [sdu_2]] ?_ (fun c_6_9 => ?_)
                           · refine SD.all2 (i := 1) (j := 4) (by kernel_rfl) ?_ ?_
                             · refine SW.eff D_6 (i := 1) (v := vs 5) (bs' := [I, I, I, I, O, O, O, O, O]) rfl (.inl rfl) rfl (e_val tk (by kernel_rfl)) (by kernel_rfl) rfl (by kernel_rfl) ?_
                               exact SD.vie D_6 [.g 0, .g 1, .g 2, .g 3, .g 4, .g 5, .g 6, .g 7] c_6_5 (by kernel_rfl)
                             · refine SW.pre (pre_frz (i := 7) (sz := 1) (E := 24) (R := (RSl 1 R8)) (l := [sdu_2]) (by kernel_rfl)) ?_
                               refine SW.eff D_6 (i := 4) (bs' := [I, O, I, I, I, O, O, O, O]) rfl (.inl rfl) rfl (e_c Try.call37 (ok_octets_Join F [sdu_2] _ e_x_327) [.g 7] [vs 7] (vs 8) (by kernel_rfl) (.inl rfl)) (by kernel_rfl) rfl (by kernel_rfl) ?_
                               exact SD.vie D_6 [.g 0, .g 1, .g 2, .g 3, .g 4, .g 5, .g 6, .n, .g 8] c_6_8 (by kernel_rfl)
                           · refine SD.lay 7 [I, O, I, O, O, O, O, O, O] [(2, vp 3 0), (4, vp 4 0), (25, vp 3 10), (27, vs 2)] [.rd 1 (RSl 1 R8) c_1.Out, .rd 1 R8 c_1.In, .rd 1 R8 sdu_2, .blk 26 (C_api_Channel x_3 (.s 5) (.s 6)), .blk 26 (C_api_Channel (T_api_Channel.mk 0 0 0 0 0 0 0 0 0 0 [] 0 [] 0 false) nl nl), .own 1 24 (RSl 1 R8) x_3.Out, .rd 1 R8 x_3.In] ?_ (fun c_6_10 => ?_)
                             · refine SD.all2 (i := 1) (j := 3) (by kernel_rfl) ?_ ?_
                               · refine SW.eff D_6 (i := 1) (v := vs 5) (bs' := [I, I, I, O, O, O, O, O, O]) rfl (.inl rfl) rfl (e_val tk (by kernel_rfl)) (by kernel_rfl) rfl (by kernel_rfl) ?_
                                 exact SD.vie D_6 [.g 0, .g 1, .g 2, .g 3, .g 4, .g 5, .g 6] c_6_6 (by kernel_rfl)
                               · refine SW.eff D_6 (i := 3) (bs' := [I, O, I, I, O, O, O, O, O]) rfl (.inl rfl) rfl (e_lit (sz := 1) (E := 24) (R := (RSl 1 R8)) (by_ := 24) tk [[.s 2]] [sdu_2] (by kernel_rfl) ⟨(Clo.sl (by kernel_rfl)), trivial⟩ rfl (by kernel_rfl) (by kernel_rfl)) (by kernel_rfl) rfl (by kernel_rfl) ?_
                                 exact SD.vie D_6 [.g 0, .g 1, .g 2, .g 3, .g 4, .g 5, .g 6, .g 7] c_6_9 (by kernel_rfl)
                             · refine SD.lay 5 [O, O, I, I, I, I, O, O, O] [(2, vp 3 0), (4, vp 4 0), (30, vs 9)] [.rd 1 (RSl 1 R8) c_1.Out, .rd 1 R8 c_1.In, .rd 1 R8 sdu_2, .blk 26 (C_api_Channel x_3 (.s 5) (.s 6)), .blk 26 (C_api_Channel (T_api_Channel.mk 0 0 0 0 0 0 0 0 0 0 [] 0 [] 0 false) nl nl), .own 1 24 (RSl 1 R8) x_3.Out, .rd 1 R8 x_3.In, .gone, .gone, .own 1 24 (RSl 1 R8) [x_327]] ?_ (fun c_6_11 => ?_)
                               · refine SD.all1 (i := 0) (by kernel_rfl) ?_
                                 refine SW.eff D_6 (i := 0) (v := vp 3 10) (bs' := [I, O, I, I, I, I, O, O, O]) rfl (.inl rfl) rfl (e_val tk (by kernel_rfl)) (by kernel_rfl) rfl (by kernel_rfl) ?_
                                 exact SD.vie D_6 [.g 0, .g 1, .g 2, .g 3, .g 4, .g 5, .g 6, .n, .n, .g 9] c_6_7 (by kernel_rfl)
                               · refine SD.lay 6 [O, O, I, I, I, O, O, O, O] [(2, vp 3 0), (4, vp 4 0), (29, vs 8)] [.rd 1 (RSl 1 R8) c_1.Out, .rd 1 R8 c_1.In, .rd 1 R8 sdu_2, .blk 26 (C_api_Channel x_3 (.s 5) (.s 6)), .blk 26 (C_api_Channel (T_api_Channel.mk 0 0 0 0 0 0 0 0 0 0 [] 0 [] 0 false) nl nl), .own 1 24 (RSl 1 R8) x_3.Out, .rd 1 R8 x_3.In, .gone, .rd 1 R8 x_327] ?_ (fun c_6_12 => ?_)
                                 · refine SD.all2 (i := 0) (j := 5) (by kernel_rfl) ?_ ?_
                                   · refine SW.eff D_6 (i := 0) (v := vp 3 10) (bs' := [I, O, I, I, I, O, O, O, O]) rfl (.inl rfl) rfl (e_val tk (by kernel_rfl)) (by kernel_rfl) rfl (by kernel_rfl) ?_
                                     exact SD.vie D_6 [.g 0, .g 1, .g 2, .g 3, .g 4, .g 5, .g 6, .n, .g 8] c_6_8 (by kernel_rfl)
                                   · refine SW.eff D_6 (i := 5) (bs' := [O, O, I, I, I, I, O, O, O]) rfl (.inl rfl) rfl (e_lit (sz := 1) (E := 24) (R := (RSl 1 R8)) (by_ := 24) tk [[.s 8]] [x_327] (by kernel_rfl) ⟨(Clo.sl (by kernel_rfl)), trivial⟩ rfl (by kernel_rfl) (by kernel_rfl)) (by kernel_rfl) rfl (by kernel_rfl) ?_
                                     exact SD.vie D_6 [.g 0, .g 1, .g 2, .g 3, .g 4, .g 5, .g 6, .n, .n, .g 9] c_6_11 (by kernel_rfl)
                                 · refine SD.lay 7 [O, O, I, I, O, O, O, O, O] [(2, vp 3 0), (4, vp 4 0), (28, vs 7)] [.rd 1 (RSl 1 R8) c_1.Out, .rd 1 R8 c_1.In, .rd 1 R8 sdu_2, .blk 26 (C_api_Channel x_3 (.s 5) (.s 6)), .blk 26 (C_api_Channel (T_api_Channel.mk 0 0 0 0 0 0 0 0 0 0 [] 0 [] 0 false) nl nl), .own 1 24 (RSl 1 R8) x_3.Out, .rd 1 R8 x_3.In, .own 1 24 (RSl 1 R8) [sdu_2]] ?_ (fun c_6_13 => ?_)
                                   · refine SD.all2 (i := 0) (j := 4) (by kernel_rfl) ?_ ?_
                                     · refine SW.eff D_6 (i := 0) (v := vp 3 10) (bs' := [I, O, I, I, O, O, O, O, O]) rfl (.inl rfl) rfl (e_val tk (by kernel_rfl)) (by kernel_rfl) rfl (by kernel_rfl) ?_
                                       exact SD.vie D_6 [.g 0, .g 1, .g 2, .g 3, .g 4, .g 5, .g 6, .g 7] c_6_9 (by kernel_rfl)
                                     · refine SW.pre (pre_frz (i := 7) (sz := 1) (E := 24) (R := (RSl 1 R8)) (l := [sdu_2]) (by kernel_rfl)) ?_
                                       refine SW.eff D_6 (i := 4) (bs' := [O, O, I, I, I, O, O, O, O]) rfl (.inl rfl) rfl (e_c Try.call37 (ok_octets_Join F [sdu_2] _ e_x_327) [.g 7] [vs 7] (vs 8) (by kernel_rfl) (.inl rfl)) (by kernel_rfl) rfl (by kernel_rfl) ?_
                                       exact SD.vie D_6 [.g 0, .g 1, .g 2, .g 3, .g 4, .g 5, .g 6, .n, .g 8] c_6_12 (by kernel_rfl)
                                   · refine SD.all2 (i := 0) (j := 3) (by kernel_rfl) ?_ ?_
                                     · refine SW.eff D_6 (i := 0) (v := vp 3 10) (bs' := [I, O, I, O, O, O, O, O, O]) rfl (.inl rfl) rfl (e_val tk (by kernel_rfl)) (by kernel_rfl) rfl (by kernel_rfl) ?_
                                       exact SD.vie D_6 [.g 0, .g 1, .g 2, .g 3, .g 4, .g 5, .g 6] c_6_10 (by kernel_rfl)
                                     · refine SW.eff D_6 (i := 3) (bs' := [O, O, I, I, O, O, O, O, O]) rfl (.inl rfl) rfl (e_lit (sz := 1) (E := 24) (R := (RSl 1 R8)) (by_ := 24) tk [[.s 2]] [sdu_2] (by kernel_rfl) ⟨(Clo.sl (by kernel_rfl)), trivial⟩ rfl (by kernel_rfl) (by kernel_rfl)) (by kernel_rfl) rfl (by kernel_rfl) ?_
                                       exact SD.vie D_6 [.g 0, .g 1, .g 2, .g 3, .g 4, .g 5, .g 6, .g 7] c_6_13 (by kernel_rfl)
       · rintro a w ⟨l_4, hp, h⟩
         refine h.go ?_
         refine SC.r tk [(4, vp 6 0), (5, vi .i64 0)] [(6, 26, (C_api_Channel ({ x_3 with Out := l_4 }) (.s 4) (.s 5)))] [] [] (by kernel_rfl) ?_
         obtain rfl := some_inv' hp
         exact SC.re (js := [.g 0, .g 1, .g 2, .z 4, .g 5]) tk (by kernel_rfl)

theorem ok_sdu_form (F : Nat) (sdu_1 : (List Int)) (r : (List Int)) (hp : sdu_form F sdu_1 = some r) : Spec Try.prog 34 [vs 0] [.rd 1 R8 sdu_1] (vs 1) [.gone, .rd 1 R8 r] := by
 refine Spec.enter Try.func34 rfl Try.ntmps34 rfl rfl fun fx => ?_
 refine SC.r tk [(0, vs 0)] [] [] [] (by kernel_rfl) ?_
 refine SC.seq ?_
 refine SC.reg ?_
 refine SL.sim tk 7 [(0, vs 0), (5, vi .u8 (wu8 (len sdu_1))), (9, vi .u8 (wu8 (shrp (len sdu_1) 8)))] [] [.bin .shr .i64 (len sdu_1) 8 (shrp (len sdu_1) 8) (by kernel_rfl)] [len sdu_1, 8] (by kernel_rfl) ?_
 refine SL.eff (e_lit (sz := 1) (E := 5) (R := R8) (by_ := 1) tk [[ci .u8 (wu8 (len sdu_1))], [ci .u8 (wu8 (shrp (len sdu_1) 8))]] [wu8 (len sdu_1), wu8 (shrp (len sdu_1) 8)] (by kernel_rfl) ⟨Clo.int, ⟨Clo.int, trivial⟩⟩ rfl (by kernel_rfl) (by kernel_rfl)) rfl (by kernel_rfl) ?_
 refine SL.sim tk 1 [(10, vs 1), (11, vs 0)] [] [] [] (by kernel_rfl) ?_
 refine SL.pre (pre_frz (i := 1) (sz := 1) (E := 5) (R := R8) (l := [wu8 (len sdu_1), wu8 (shrp (len sdu_1) 8)]) (by kernel_rfl)) ?_
 refine SL.eff (e_lit (sz := 1) (E := 24) (R := (RSl 1 R8)) (by_ := 24) tk [[.s 1], [.s 0]] [[wu8 (len sdu_1), wu8 (shrp (len sdu_1) 8)], sdu_1] (by kernel_rfl) ⟨(Clo.sl (by kernel_rfl)), ⟨(Clo.sl (by kernel_rfl)), trivial⟩⟩ rfl (by kernel_rfl) (by kernel_rfl)) rfl (by kernel_rfl) ?_
 obtain ⟨x_2, e_x_2, hp⟩ := bind_inv hp
 refine SL.pre (pre_frz (i := 2) (sz := 1) (E := 24) (R := (RSl 1 R8)) (l := [[wu8 (len sdu_1), wu8 (shrp (len sdu_1) 8)], sdu_1]) (by kernel_rfl)) ?_
 refine SL.eff (e_c Try.call37 (ok_octets_Join F [[wu8 (len sdu_1), wu8 (shrp (len sdu_1) 8)], sdu_1] _ e_x_2) [.g 2] [vs 2] (vs 3) (by kernel_rfl) (.inl rfl)) rfl (by kernel_rfl) ?_
 refine SL.norm (itsN := [.rd 1 R8 sdu_1, .rd 1 R8 [wu8 (len sdu_1), wu8 (shrp (len sdu_1) 8)], .rd 1 (RSl 1 R8) [[wu8 (len sdu_1), wu8 (shrp (len sdu_1) 8)], sdu_1], .rd 1 R8 x_2]) (by kernel_rfl) ?_
 refine SL.sim tk 1 [(2, vs 3)] [] [] [] (by kernel_rfl) ?_
 refine SL.nilThen ?_
 obtain rfl := some_inv' hp
 exact SC.re (js := [.g 0, .g 3]) tk (by kernel_rfl)

theorem ok_sdu_Output_1 (F : Nat) (p_1 : T_api_Channel) (p_2 : (List (List Int))) (r : T_api_Channel × (List (List Int))) (hp : sdu_Output_1 F p_1 p_2 = some r) : Spec Try.prog 33 [vp 0 0, vp 3 0] [.blk 26 (C_api_Channel p_1 (.s 1) (.s 2)), .rd 1 (RSl 1 R8) p_1.Out, .rd 1 R8 p_1.In, .blk 23 [.s 4], .own 1 24 (RSl 1 R8) p_2] (.u []) [.blk 26 (C_api_Channel (T_api_Channel.mk r.1.Local r.1.Remote r.1.PSM r.1.MTU r.1.MPS r.1.PeerMTU r.1.PeerMPS r.1.TxCredits r.1.RxCredits r.1.Given r.1.Out r.1.Sent r.1.In r.1.Want r.1.Failed) (.s 5) (.s 6)), .gone, .gone, .blk 23 [.s 7], .gone, .rd 1 (RSl 1 R8) r.1.Out, .rd 1 R8 r.1.In, .own 1 24 (RSl 1 R8) r.2] := by
 refine Spec.enter Try.func33 rfl Try.ntmps33 rfl rfl fun fx => ?_
 refine SC.seq ?_
 refine SC.reg ?_
 obtain ⟨x_3, e_x_3, hp⟩ := bind_inv hp
 refine SL.pre (pre_ix (i := 1) (iv := 0) (sz := 1) (R := (RSl 1 R8)) (l := p_1.Out) (by kernel_rfl) rfl e_x_3) ?_
 refine SL.sim tk 4 [(0, vp 0 0), (1, vp 3 0), (9, vs 6)] [] [.el 5] [0] (by kernel_rfl) ?_
 obtain ⟨x_4, e_x_4, hp⟩ := bind_inv hp
 refine SL.eff (e_c Try.call34 (ok_sdu_form F x_3 _ e_x_4) [.g 6] [vs 6] (vs 7) (by kernel_rfl) (.inl rfl)) rfl (by kernel_rfl) ?_
 refine SL.sim tk 1 [(0, vp 0 0), (1, vp 3 0), (2, vs 7)] [] [] [] (by kernel_rfl) ?_
 refine SL.nilThen ?_
 refine SC.r tk [(0, vp 0 0), (1, vp 3 0), (2, vs 7), (3, vi .i64 (imax 0 (imin p_1.Sent (len x_4))))] [] [] [] (by kernel_rfl) ?_
 refine SC.r tk [(0, vp 0 0), (1, vp 3 0), (2, vs 7), (3, vi .i64 (imax 0 (imin p_1.Sent (len x_4)))), (4, vi .i64 (imax 1 (imin p_1.PeerMPS (w64 ((len x_4) - (imax 0 (imin p_1.Sent (len x_4))))))))] [] [] [] (by kernel_rfl) ?_
 refine SC.seq ?_
 refine SC.reg ?_
 refine SL.sim tk 6 [(0, vp 0 0), (1, vp 3 0), (2, vs 7), (3, vi .i64 (imax 0 (imin p_1.Sent (len x_4)))), (4, vi .i64 (imax 1 (imin p_1.PeerMPS (w64 ((len x_4) - (imax 0 (imin p_1.Sent (len x_4)))))))), (30, vi .i64 (imin (imax 1 (imin p_1.PeerMPS (w64 ((len x_4) - (imax 0 (imin p_1.Sent (len x_4))))))) (w64 ((len x_4) - (imax 0 (imin p_1.Sent (len x_4)))))))] [] [] [] (by kernel_rfl) ?_
 obtain ⟨l_5, e_l_5, hp⟩ := bind_inv hp
 refine SL.eff (e_make (sz := 1) (E := 5) (R := R8) tk rfl rfl rfl (fun _ _ => rfl) e_l_5 (by kernel_rfl)) rfl (by kernel_rfl) ?_
 refine SL.norm (itsN := [.blk 26 (C_api_Channel p_1 (.s 1) (.s 2)), .rd 1 (RSl 1 R8) p_1.Out, .rd 1 R8 p_1.In, .blk 23 [.s 4], .own 1 24 (RSl 1 R8) p_2, .elt (some (1, 0)) false [.s 6], .rd 1 R8 x_3, .rd 1 R8 x_4, .own 1 5 R8 l_5]) (by kernel_rfl) ?_
 refine SL.sim tk 1 [(0, vp 0 0), (1, vp 3 0), (2, vs 7), (3, vi .i64 (imax 0 (imin p_1.Sent (len x_4)))), (4, vi .i64 (imax 1 (imin p_1.PeerMPS (w64 ((len x_4) - (imax 0 (imin p_1.Sent (len x_4)))))))), (5, vs 8)] [] [] [] (by kernel_rfl) ?_
 refine SL.nilThen ?_
 refine SC.seq ?_
 refine SC.reg ?_
 refine SL.sim tk 3 [(0, vp 0 0), (1, vp 3 0), (2, vs 7), (3, vi .i64 (imax 0 (imin p_1.Sent (len x_4)))), (4, vi .i64 (imax 1 (imin p_1.PeerMPS (w64 ((len x_4) - (imax 0 (imin p_1.Sent (len x_4)))))))), (5, vs 8), (32, vs 8), (33, vs 7), (34, vi .i64 (imax 0 (imin p_1.Sent (len x_4))))] [] [] [] (by kernel_rfl) ?_
 obtain ⟨l_6, e_l_6, hp⟩ := bind_inv hp
 refine SL.eff (e_sub (sz := 1) (E := 5) (R := R8) (by_ := 1) (l := x_4) tk rfl (.inl ⟨7, rfl, (by kernel_rfl)⟩) rfl rfl e_l_6 (by kernel_rfl)) rfl (by kernel_rfl) ?_
 refine SL.eff (e_copy (i := 8) (l := l_5) (E := 5) (R := R8) (by_ := 1) (m := l_6) tk rfl (by kernel_rfl) rfl (.r (by kernel_rfl)) (by kernel_rfl)) rfl (by kernel_rfl) ?_
 refine SL.nilThen ?_
 refine SC.seq ?_
 refine SC.reg ?_
 refine SL.sim tk 2 [(0, vp 0 0), (1, vp 3 0), (2, vs 7), (3, vi .i64 (imax 0 (imin p_1.Sent (len x_4)))), (4, vi .i64 (imax 1 (imin p_1.PeerMPS (w64 ((len x_4) - (imax 0 (imin p_1.Sent (len x_4)))))))), (37, vs 4), (38, vs 8)] [] [] [] (by kernel_rfl) ?_
 refine SL.pre (pre_frz (i := 8) (sz := 1) (E := 5) (R := R8) (l := cpy l_5 l_6) (by kernel_rfl)) ?_
 refine SL.eff (e_lit (sz := 1) (E := 24) (R := (RSl 1 R8)) (by_ := 24) tk [[.s 8]] [cpy l_5 l_6] (by kernel_rfl) ⟨(Clo.sl (by kernel_rfl)), trivial⟩ rfl (by kernel_rfl) (by kernel_rfl)) rfl (by kernel_rfl) ?_
 obtain ⟨l_7, e_l_7, hp⟩ := bind_inv hp
 refine SL.eff (e_app (i := 4) (l := p_2) (sz := 1) (E := 24) (R := (RSl 1 R8)) (by_ := 24) (m := [cpy l_5 l_6]) tk rfl (by kernel_rfl) rfl (.o 24 (by kernel_rfl)) e_l_7 (by kernel_rfl)) rfl (by kernel_rfl) ?_
 refine SL.norm (itsN := [.blk 26 (C_api_Channel p_1 (.s 1) (.s 2)), .rd 1 (RSl 1 R8) p_1.Out, .rd 1 R8 p_1.In, .blk 23 [.s 4], .gone, .elt (some (1, 0)) false [.s 6], .rd 1 R8 x_3, .rd 1 R8 x_4, .rd 1 R8 (cpy l_5 l_6), .rd 1 R8 l_6, .own 1 24 (RSl 1 R8) [cpy l_5 l_6], .own 1 24 (RSl 1 R8) l_7]) (by kernel_rfl) ?_
 refine SL.sim tk 1 [(0, vp 0 0), (2, vs 7), (3, vi .i64 (imax 0 (imin p_1.Sent (len x_4)))), (4, vi .i64 (imax 1 (imin p_1.PeerMPS (w64 ((len x_4) - (imax 0 (imin p_1.Sent (len x_4))))))))] [(3, 23, [.s 11])] [] [] (by kernel_rfl) ?_
 refine SL.nilThen ?_
 refine SC.r tk [(0, vp 0 0), (2, vs 7), (3, vi .i64 (imax 0 (imin p_1.Sent (len x_4)))), (4, vi .i64 (imax 1 (imin p_1.PeerMPS (w64 ((len x_4) - (imax 0 (imin p_1.Sent (len x_4))))))))] [(0, 26, (C_api_Channel ({ p_1 with TxCredits := w64 (p_1.TxCredits - 1) }) (.s 1) (.s 2)))] [] [] (by kernel_rfl) ?_
 refine SC.r tk [(0, vp 0 0), (2, vs 7)] [(0, 26, (C_api_Channel ({ p_1 with TxCredits := w64 (p_1.TxCredits - 1), Sent := w64 ((imax 0 (imin p_1.Sent (len x_4))) + (imax 1 (imin p_1.PeerMPS (w64 ((len x_4) - (imax 0 (imin p_1.Sent (len x_4)))))))) }) (.s 1) (.s 2)))] [] [] (by kernel_rfl) ?_
 refine SC.r tk [(0, vp 0 0), (53, vb (decide ((w64 ((imax 0 (imin p_1.Sent (len x_4))) + (imax 1 (imin p_1.PeerMPS (w64 ((len x_4) - (imax 0 (imin p_1.Sent (len x_4))))))))) ≥ (len x_4))))] [] [] [] (by kernel_rfl) ?_
 refine SC.if' rfl hp (fun hp => ?_) (fun hp => ?_)
 · refine SC.reg ?_
   refine SL.sim tk 2 [(0, vp 0 0), (55, vs 1)] [] [] [] (by kernel_rfl) ?_
   obtain ⟨l_8, e_l_8, hp⟩ := bind_inv hp
   refine SL.eff (e_sub (sz := 1) (E := 24) (R := (RSl 1 R8)) (by_ := 24) (l := p_1.Out) tk rfl (.inl ⟨1, rfl, (by kernel_rfl)⟩) rfl rfl e_l_8 (by kernel_rfl)) rfl (by kernel_rfl) ?_
   refine SL.norm (itsN := [.blk 26 (C_api_Channel ({ p_1 with TxCredits := w64 (p_1.TxCredits - 1), Sent := w64 ((imax 0 (imin p_1.Sent (len x_4))) + (imax 1 (imin p_1.PeerMPS (w64 ((len x_4) - (imax 0 (imin p_1.Sent (len x_4)))))))) }) (.s 1) (.s 2)), .rd 1 (RSl 1 R8) p_1.Out, .rd 1 R8 p_1.In, .blk 23 [.s 11], .gone, .elt (some (1, 0)) false [.s 6], .rd 1 R8 x_3, .rd 1 R8 x_4, .rd 1 R8 (cpy l_5 l_6), .rd 1 R8 l_6, .own 1 24 (RSl 1 R8) [cpy l_5 l_6], .own 1 24 (RSl 1 R8) l_7, .rd 1 (RSl 1 R8) l_8]) (by kernel_rfl) ?_
   refine SL.sim tk 4 [] [(0, 26, (C_api_Channel ({ p_1 with TxCredits := w64 (p_1.TxCredits - 1), Out := l_8, Sent := 0 }) (.s 12) (.s 2)))] [] [] (by kernel_rfl) ?_
   refine SL.nilJ fun a w h => ?_
   obtain rfl := some_inv' hp
   exact A.re (js := [.g 0, .g 1, .g 2, .g 3, .g 4, .g 12, .g 2, .g 11]) tk h (by kernel_rfl)
 · refine SC.skipJ fun a w h => ?_
   obtain rfl := some_inv' hp
   exact A.re (js := [.g 0, .g 1, .g 2, .g 3, .g 4, .g 1, .g 2, .g 11]) tk h (by kernel_rfl)

theorem ok_sdu_Output (F : Nat) (c_1 : T_api_Channel) (r : T_api_Channel × (List (List Int))) (hp : sdu_Output F c_1 = some r) : Spec Try.prog 12 [.g (C_api_Channel c_1 (.s 0) (.s 1))] [.rd 1 (RSl 1 R8) c_1.Out, .rd 1 R8 c_1.In] (.u [.inr (C_api_Channel (T_api_Channel.mk r.1.Local r.1.Remote r.1.PSM r.1.MTU r.1.MPS r.1.PeerMTU r.1.PeerMPS r.1.TxCredits r.1.RxCredits r.1.Given r.1.Out r.1.Sent r.1.In r.1.Want r.1.Failed) (.s 2) (.s 3)), .inl (.s 4)]) [.gone, .gone, .rd 1 (RSl 1 R8) r.1.Out, .rd 1 R8 r.1.In, .rd 1 (RSl 1 R8) r.2] := by
 refine Spec.enter Try.func12 rfl Try.ntmps12 rfl rfl fun fx => ?_
 refine SC.seq ?_
 refine SC.reg ?_
 refine SL.eff (e_box (E := 26) (C_api_Channel c_1 (.s 0) (.s 1)) (by kernel_rfl)) rfl (by kernel_rfl) ?_
 refine SL.eff (e_alloc (E := 26) tk (C_api_Channel (T_api_Channel.mk 0 0 0 0 0 0 0 0 0 0 [] 0 [] 0 false) nl nl) (by kernel_rfl)) rfl (by kernel_rfl) ?_
 refine SL.sim tk 1 [(1, vp 2 0), (2, vp 3 0)] [] [] [] (by kernel_rfl) ?_
 refine SL.nilThen ?_
 refine SC.seq ?_
 refine SC.reg ?_
 refine SL.sim tk 1 [(1, vp 2 0), (2, vp 3 0), (6, .g (C_api_Channel c_1 (.s 0) (.s 1)))] [] [] [] (by kernel_rfl) ?_
 obtain ⟨x_2, e_x_2, hp⟩ := bind_inv hp
 refine SL.eff (e_c Try.call32 (ok_sdu_copied F c_1 _ e_x_2) [.g 0, .g 1] [.g (C_api_Channel c_1 (.s 0) (.s 1))] (.g (C_api_Channel x_2 (.s 4) (.s 5))) (by kernel_rfl) (.inl rfl)) rfl (by kernel_rfl) ?_
 refine SL.norm (itsN := [.rd 1 (RSl 1 R8) c_1.Out, .rd 1 R8 c_1.In, .blk 26 (C_api_Channel c_1 (.s 0) (.s 1)), .blk 26 (C_api_Channel (T_api_Channel.mk 0 0 0 0 0 0 0 0 0 0 [] 0 [] 0 false) nl nl), .own 1 24 (RSl 1 R8) x_2.Out, .rd 1 R8 x_2.In]) (by kernel_rfl) ?_
 refine SL.sim tk 1 [(1, vp 2 0), (2, vp 3 0)] [(2, 26, (C_api_Channel x_2 (.s 4) (.s 5)))] [] [] (by kernel_rfl) ?_
 refine SL.nilThen ?_
 refine SC.seq ?_
 refine SC.r tk [(1, vp 2 0), (2, vp 3 0), (9, vb x_2.Failed)] [] [] [] (by kernel_rfl) ?_
 refine SC.if' rfl hp (fun hp => ?_) (fun hp => ?_)
 · refine SC.r tk [(2, vp 3 0), (3, vn)] [(3, 26, (C_api_Channel x_2 (.s 4) (.s 5)))] [] [] (by kernel_rfl) ?_
   obtain rfl := some_inv' hp
   exact SC.re (js := [.g 0, .g 1, .z 4, .g 5, .n]) tk (by kernel_rfl)
 · refine SC.skipThen ?_
   refine SC.seq ?_
   refine SC.reg ?_
   refine SL.eff (e_alloc (E := 23) tk [nl] (by kernel_rfl)) rfl (by kernel_rfl) ?_
   refine SL.nilThen ?_
   refine SC.r tk [(1, vp 2 0), (2, vp 3 0), (4, vp 6 0), (5, .f 33 [.p 2 0, .p 6 0])] [] [] [] (by kernel_rfl) ?_
   refine SC.cut (fun a w => ∃ (c_18 : T_api_Channel) (l_19 : (List (List Int))), sdu_Output_j1 F c_18 l_19 = some r ∧ A 25 2 fx [(1, vp 2 0), (2, vp 5 0), (4, vp 6 0)] [.gone, .gone, .blk 26 (C_api_Channel c_18 (.s 3) (.s 4)), .rd 1 (RSl 1 R8) c_18.Out, .rd 1 R8 c_18.In, .blk 26 (C_api_Channel (T_api_Channel.mk 0 0 0 0 0 0 0 0 0 0 [] 0 [] 0 false) nl nl), .blk 23 [.s 7], .own 1 24 (RSl 1 R8) l_19] a w) ?_ ?_
   · refine SC.block ?_
     obtain ⟨o1, hi1, ho1⟩ := bind_inv hp
     clear hp
     refine SC.loop (fun n a w => ∃ (c_37 : T_api_Channel) (l_38 : (List (List Int))), iter (fun s => sdu_Output_l1 F s.1 s.2) n (c_37, l_38) = some o1 ∧ A 25 2 fx [(1, vp 2 0), (2, vp 5 0), (4, vp 6 0), (5, .f 33 [.p 2 0, .p 6 0])] [.gone, .gone, .blk 26 (C_api_Channel c_37 (.s 3) (.s 4)), .rd 1 (RSl 1 R8) c_37.Out, .rd 1 R8 c_37.In, .blk 26 (C_api_Channel (T_api_Channel.mk 0 0 0 0 0 0 0 0 0 0 [] 0 [] 0 false) nl nl), .blk 23 [.s 7], .own 1 24 (RSl 1 R8) l_38] a w) F (fun a w h => ⟨x_2, [], hi1, h.at (js := [.g 0, .g 1, .g 2, .z 4, .g 5, .g 3, .g 6, .n]) (by kernel_rfl)⟩) ?_
     rintro n1 a w ⟨c_37, l_38, hi1, h⟩
     obtain ⟨n1, q1, rfl, hp, hs1⟩ := iter_inv hi1
     replace hp : sdu_Output_l1 F c_37 l_38 = some q1 := hp
     clear hi1
     refine h.go ?_
     refine SC.seq ?_
     refine SC.r tk [(1, vp 2 0), (2, vp 5 0), (4, vp 6 0), (5, .f 33 [.p 2 0, .p 6 0]), (20, vb ((decide ((len c_37.Out) > 0)) && (decide (c_37.TxCredits > 0))))] [] [] [] (by kernel_rfl) ?_
     refine SC.if' rfl hp (fun hp => ?_) (fun hp => ?_)
     · refine SC.skipThen ?_
       refine SC.block ?_
       refine SC.reg ?_
       refine SL.sim tk 1 [(1, vp 2 0), (2, vp 5 0), (4, vp 6 0), (5, .f 33 [.p 2 0, .p 6 0]), (21, .f 33 [.p 2 0, .p 6 0])] [] [] [] (by kernel_rfl) ?_
       obtain ⟨x_39, e_x_39, hp⟩ := bind_inv hp
       refine SL.eff (e_c Try.call33 (ok_sdu_Output_1 F c_37 l_38 _ e_x_39) [.g 2, .g 3, .g 4, .g 6, .g 7] [vp 2 0, vp 6 0] (.u []) (by kernel_rfl) (.inl rfl)) rfl (by kernel_rfl) ?_
       refine SL.nilJ fun a w h => ?_
       exact ⟨n1, Nat.lt_succ_self _, x_39.1, x_39.2, next_inv hp hs1, h.at (js := [.g 0, .g 1, .g 2, .g 8, .g 9, .g 5, .g 6, .g 10]) (by kernel_rfl)⟩
     · refine SC.exitJ rfl fun a w h => ?_
       have ho := done_inv hp hs1
       replace hp := ho1
       try rw [ho] at hp
       exact ⟨c_37, l_38, hp, h.at (js := [.g 0, .g 1, .g 2, .g 3, .g 4, .g 5, .g 6, .g 7]) (by kernel_rfl)⟩
   · rintro a w ⟨c_18, l_19, hp, h⟩
     refine h.go ?_
     refine SC.cut (fun a w => sdu_Output_j2 F c_18 l_19 = some r ∧ A 25 2 fx [(2, vp 2 0), (3, vs 5)] [.gone, .gone, .blk 26 (C_api_Channel c_18 (.s 3) (.s 4)), .rd 1 (RSl 1 R8) c_18.Out, .rd 1 R8 c_18.In, .own 1 24 (RSl 1 R8) l_19] a w) ?_ ?_
     · refine SC.draw MO [O, O, I, I, I, O, I, I] (by kernel_rfl) fun kap_20 D_21 => ?_
       refine SD.takes tk D_21 [] kn0 [0, 1] [] [] [true, true, false, false] [(2, vp 5 0), (23, .g (C_api_Channel c_18 (.s 3) (.s 4))), (24, vs 7)] rfl (by kernel_rfl) (by kernel_rfl) (by kernel_rfl) ?_
       refine SD.all1 (i := 2) (by kernel_rfl) ?_
       refine SW.store D_21 tk (i := 2) (q := 5) (T := 26) (cs := (C_api_Channel c_18 (.s 3) (.s 4))) (bs' := [true, true, true, false]) rfl (by kernel_rfl) rfl rfl (by kernel_rfl) ?_
       refine SD.takes tk D_21 [] kn0 [3] [] [] [true, true, true, true] [(2, vp 5 0), (3, vs 7)] rfl (by kernel_rfl) (by kernel_rfl) (by kernel_rfl) ?_
       refine SD.done (by kernel_rfl) fun a w h => ?_
       exact ⟨hp, h.at (js := [.g 0, .g 1, .g 5, .g 3, .g 4, .g 7]) (by kernel_rfl)⟩
     · rintro a w ⟨hp, h⟩
       refine h.go ?_
       obtain rfl := some_inv' hp
       exact SC.re (js := [.g 0, .g 1, .g 3, .g 4, .z 5]) tk (by kernel_rfl)

theorem ok_sdu_taken (F : Nat) (c_1 : T_api_Channel) (b_2 : (List Int)) (r : (List Int) × Int × Int) (hp : sdu_taken F c_1 b_2 = some r) : Spec Try.prog 36 [.g (C_api_Channel c_1 (.s 0) (.s 1)), vs 2] [.rd 1 (RSl 1 R8) c_1.Out, .rd 1 R8 c_1.In, .rd 1 R8 b_2] (.u [.inl (.s 3), .inl (ci .i64 r.2.1), .inl (ci .i64 r.2.2)]) [.gone, .gone, .gone, .rd 1 R8 r.1] := by
 refine Spec.enter Try.func36 rfl Try.ntmps36 rfl rfl fun fx => ?_
 refine SC.seq ?_
 refine SC.reg ?_
 refine SL.eff (e_box (E := 26) (C_api_Channel c_1 (.s 0) (.s 1)) (by kernel_rfl)) rfl (by kernel_rfl) ?_
 refine SL.sim tk 3 [(1, vs 2), (2, vp 3 0)] [] [] [] (by kernel_rfl) ?_
 refine SL.nilThen ?_
 refine SC.seq ?_
 refine SC.block ?_
 refine SC.r tk [(1, vs 2), (2, vp 3 0), (8, vb (decide (c_1.RxCredits ≤ 0)))] [] [] [] (by kernel_rfl) ?_
 refine SC.if' rfl hp (fun hp => ?_) (fun hp => ?_)
 · refine SC.r tk [(4, vn), (5, vi .i64 0), (6, vi .i64 19)] [] [] [] (by kernel_rfl) ?_
   obtain rfl := some_inv' hp
   exact SC.re (js := [.g 0, .g 1, .g 2, .n]) tk (by kernel_rfl)
 · refine SC.r tk [(1, vs 2), (2, vp 3 0), (12, vb (decide ((len b_2) > c_1.MPS)))] [] [] [] (by kernel_rfl) ?_
   refine SC.if' rfl hp (fun hp => ?_) (fun hp => ?_)
   · refine SC.r tk [(4, vn), (5, vi .i64 0), (6, vi .i64 4)] [] [] [] (by kernel_rfl) ?_
     obtain rfl := some_inv' hp
     exact SC.re (js := [.g 0, .g 1, .g 2, .n]) tk (by kernel_rfl)
   · refine SC.skipThen ?_
     refine SC.seq ?_
     refine SC.r tk [(1, vs 2), (2, vp 3 0), (20, vb (c_1.Want != (-1)))] [] [] [] (by kernel_rfl) ?_
     refine SC.if' rfl hp (fun hp => ?_) (fun hp => ?_)
     · refine SC.seq ?_
       refine SC.block ?_
       refine SC.r tk [(1, vs 2), (2, vp 3 0), (21, vb ((len b_2) == 0))] [] [] [] (by kernel_rfl) ?_
       refine SC.if' rfl hp (fun hp => ?_) (fun hp => ?_)
       · refine SC.r tk [(4, vn), (5, vi .i64 0), (6, vi .i64 3)] [] [] [] (by kernel_rfl) ?_
         obtain rfl := some_inv' hp
         exact SC.re (js := [.g 0, .g 1, .g 2, .n]) tk (by kernel_rfl)
       · refine SC.r tk [(1, vs 2), (2, vp 3 0), (25, vb (decide ((w64 ((len c_1.In) + (len b_2))) > c_1.Want)))] [] [] [] (by kernel_rfl) ?_
         refine SC.if' rfl hp (fun hp => ?_) (fun hp => ?_)
         · refine SC.r tk [(4, vn), (5, vi .i64 0), (6, vi .i64 4)] [] [] [] (by kernel_rfl) ?_
           obtain rfl := some_inv' hp
           exact SC.re (js := [.g 0, .g 1, .g 2, .n]) tk (by kernel_rfl)
         · refine SC.skipThen ?_
           refine SC.cut (fun a w => sdu_taken_j1 F c_1 b_2 = some r ∧ A 65 3 fx [(4, vs 2), (5, vi .i64 c_1.Want), (6, vi .i64 0)] [.gone, .gone, .rd 1 R8 b_2] a w) ?_ ?_
           · refine SC.draw MO [true, true, true, true] (by kernel_rfl) fun kap_3 D_4 => ?_
             refine SD.takes tk D_4 [] kn0 [0, 1, 2, 3, 4, 5] [] [] [I, I, I, I, I, I] [(4, vs 2), (5, vi .i64 c_1.Want), (6, vi .i64 0)] rfl (by kernel_rfl) (by kernel_rfl) (by kernel_rfl) ?_
             refine SD.done (by kernel_rfl) fun a w h => ?_
             exact ⟨hp, h.at (js := [.g 0, .g 1, .g 2]) (by kernel_rfl)⟩
           · rintro a w ⟨hp, h⟩
             refine h.go ?_
             obtain rfl := some_inv' hp
             exact SC.re (js := [.g 0, .g 1, .g 2, .g 2]) tk (by kernel_rfl)
     · refine SC.skipThen ?_
       refine SC.seq ?_
       refine SC.r tk [(1, vs 2), (2, vp 3 0), (40, vb (decide ((len b_2) < 2)))] [] [] [] (by kernel_rfl) ?_
       refine SC.if' rfl hp (fun hp => ?_) (fun hp => ?_)
       · refine SC.r tk [(4, vn), (5, vi .i64 0), (6, vi .i64 3)] [] [] [] (by kernel_rfl) ?_
         obtain rfl := some_inv' hp
         exact SC.re (js := [.g 0, .g 1, .g 2, .n]) tk (by kernel_rfl)
       · refine SC.skipThen ?_
         refine SC.cut (fun a w => ∃ (x_5 : Int), sdu_taken_j2 F c_1 b_2 x_5 = some r ∧ A 65 3 fx [(1, vs 2), (2, vp 3 0), (7, vi .i64 x_5)] [.rd 1 (RSl 1 R8) c_1.Out, .rd 1 R8 c_1.In, .rd 1 R8 b_2, .blk 26 (C_api_Channel c_1 (.s 0) (.s 1))] a w) ?_ ?_
         · obtain ⟨x_7, e_x_7, hp⟩ := bind_inv hp
           obtain ⟨x_8, e_x_8, hp⟩ := bind_inv hp
           refine SC.pre (pre_ix (i := 2) (iv := 0) (sz := 1) (R := R8) (l := b_2) (by kernel_rfl) rfl e_x_7) ?_
           refine SC.pre (pre_ix (i := 2) (iv := 1) (sz := 1) (R := R8) (l := b_2) (by kernel_rfl) rfl e_x_8) ?_
           refine SC.draw MO [I, I, I, I, I, I] (by kernel_rfl) fun kap_9 D_10 => ?_
           refine SD.takes tk D_10 [] kn0 [0, 1, 2, 3, 4, 5, 6, 7, 8, 9, 10] [.el 4, .el 5, .bin .shl .i64 (w64 x_8) 8 (shlp .i64 (w64 x_8) 8) (by kernel_rfl)] [0, 1, w64 x_8, 8] [I, I, I, I, I, I, I, I, I, I, I] [(1, vs 2), (2, vp 3 0), (7, vi .i64 (ior .i64 (w64 x_7) (shlp .i64 (w64 x_8) 8)))] rfl (by kernel_rfl) (by kernel_rfl) (by kernel_rfl) ?_
           refine SD.done (by kernel_rfl) fun a w h => ?_
           exact ⟨ior .i64 (w64 x_7) (shlp .i64 (w64 x_8) 8), hp, h.at (js := [.g 0, .g 1, .g 2, .g 3]) (by kernel_rfl)⟩
         · rintro a w ⟨x_5, hp, h⟩
           refine h.go ?_
           refine SC.seq ?_
           refine SC.r tk [(1, vs 2), (7, vi .i64 x_5), (61, vb ((decide (x_5 > c_1.MTU)) || (decide (x_5 < (w64 ((len b_2) - 2))))))] [] [] [] (by kernel_rfl) ?_
           refine SC.if' rfl hp (fun hp => ?_) (fun hp => ?_)
           · refine SC.r tk [(4, vn), (5, vi .i64 0), (6, vi .i64 4)] [] [] [] (by kernel_rfl) ?_
             obtain rfl := some_inv' hp
             exact SC.re (js := [.g 0, .g 1, .g 2, .n]) tk (by kernel_rfl)
           · refine SC.skipThen ?_
             refine SC.seq ?_
             refine SC.reg ?_
             refine SL.sim tk 1 [(7, vi .i64 x_5), (62, vs 2)] [] [] [] (by kernel_rfl) ?_
             obtain ⟨l_6, e_l_6, hp⟩ := bind_inv hp
             refine SL.eff (e_sub (sz := 1) (E := 5) (R := R8) (by_ := 1) (l := b_2) tk rfl (.inl ⟨2, rfl, (by kernel_rfl)⟩) rfl rfl e_l_6 (by kernel_rfl)) rfl (by kernel_rfl) ?_
             refine SL.sim tk 4 [(4, vs 4), (5, vi .i64 x_5), (6, vi .i64 0)] [] [] [] (by kernel_rfl) ?_
             refine SL.nilThen ?_
             obtain rfl := some_inv' hp
             exact SC.re (js := [.g 0, .g 1, .g 2, .g 4]) tk (by kernel_rfl)

theorem ok_sdu_Input (F : Nat) (c_1 : T_api_Channel) (b_2 : (List Int)) (r : T_api_Channel × (List (List Int)) × Int) (hp : sdu_Input F c_1 b_2 = some r) : Spec Try.prog 16 [.g (C_api_Channel c_1 (.s 0) (.s 1)), vs 2] [.rd 1 (RSl 1 R8) c_1.Out, .rd 1 R8 c_1.In, .rd 1 R8 b_2] (.u [.inr (C_api_Channel (T_api_Channel.mk r.1.Local r.1.Remote r.1.PSM r.1.MTU r.1.MPS r.1.PeerMTU r.1.PeerMPS r.1.TxCredits r.1.RxCredits r.1.Given r.1.Out r.1.Sent r.1.In r.1.Want r.1.Failed) (.s 3) (.s 4)), .inl (.s 5), .inl (ci .i64 r.2.2)]) [.gone, .gone, .gone, .rd 1 (RSl 1 R8) r.1.Out, .rd 1 R8 r.1.In, .rd 1 (RSl 1 R8) r.2.1] := by
 refine Spec.enter Try.func16 rfl Try.ntmps16 rfl rfl fun fx => ?_
 refine SC.seq ?_
 refine SC.reg ?_
 refine SL.eff (e_box (E := 26) (C_api_Channel c_1 (.s 0) (.s 1)) (by kernel_rfl)) rfl (by kernel_rfl) ?_
 refine SL.eff (e_alloc (E := 26) tk (C_api_Channel (T_api_Channel.mk 0 0 0 0 0 0 0 0 0 0 [] 0 [] 0 false) nl nl) (by kernel_rfl)) rfl (by kernel_rfl) ?_
 refine SL.sim tk 2 [(1, vs 2), (2, vp 3 0), (4, vp 4 0)] [] [] [] (by kernel_rfl) ?_
 refine SL.nilThen ?_
 refine SC.seq ?_
 refine SC.reg ?_
 refine SL.sim tk 1 [(1, vs 2), (2, vp 3 0), (4, vp 4 0), (11, .g (C_api_Channel c_1 (.s 0) (.s 1)))] [] [] [] (by kernel_rfl) ?_
 obtain ⟨x_3, e_x_3, hp⟩ := bind_inv hp
 refine SL.eff (e_c Try.call32 (ok_sdu_copied F c_1 _ e_x_3) [.g 0, .g 1] [.g (C_api_Channel c_1 (.s 0) (.s 1))] (.g (C_api_Channel x_3 (.s 5) (.s 6))) (by kernel_rfl) (.inl rfl)) rfl (by kernel_rfl) ?_
 refine SL.norm (itsN := [.rd 1 (RSl 1 R8) c_1.Out, .rd 1 R8 c_1.In, .rd 1 R8 b_2, .blk 26 (C_api_Channel c_1 (.s 0) (.s 1)), .blk 26 (C_api_Channel (T_api_Channel.mk 0 0 0 0 0 0 0 0 0 0 [] 0 [] 0 false) nl nl), .own 1 24 (RSl 1 R8) x_3.Out, .rd 1 R8 x_3.In]) (by kernel_rfl) ?_
 refine SL.sim tk 1 [(1, vs 2), (2, vp 3 0), (4, vp 4 0)] [(3, 26, (C_api_Channel x_3 (.s 5) (.s 6)))] [] [] (by kernel_rfl) ?_
 refine SL.nilThen ?_
 refine SC.seq ?_
 refine SC.r tk [(1, vs 2), (2, vp 3 0), (4, vp 4 0), (14, vb x_3.Failed)] [] [] [] (by kernel_rfl) ?_
 refine SC.if' rfl hp (fun hp => ?_) (fun hp => ?_)
 · refine SC.r tk [(4, vp 4 0), (5, vn), (6, vi .i64 9)] [(4, 26, (C_api_Channel x_3 (.s 5) (.s 6)))] [] [] (by kernel_rfl) ?_
   obtain rfl := some_inv' hp
   exact SC.re (js := [.g 0, .g 1, .g 2, .z 5, .g 6, .n]) tk (by kernel_rfl)
 · refine SC.skipThen ?_
   refine SC.seq ?_
   refine SC.reg ?_
   refine SL.sim tk 2 [(2, vp 3 0), (4, vp 4 0), (17, .g (C_api_Channel x_3 (.s 5) (.s 6))), (18, vs 2)] [] [] [] (by kernel_rfl) ?_
   obtain ⟨x_4, e_x_4, hp⟩ := bind_inv hp
   refine SL.pre (pre_frz (i := 5) (sz := 1) (E := 24) (R := (RSl 1 R8)) (l := x_3.Out) (by kernel_rfl)) ?_
   refine SL.eff (e_c Try.call36 (ok_sdu_taken F x_3 b_2 _ e_x_4) [.g 5, .g 6, .g 2] [.g (C_api_Channel x_3 (.s 5) (.s 6)), vs 2] (.u [.inl (.s 7), .inl (ci .i64 x_4.2.1), .inl (ci .i64 x_4.2.2)]) (by kernel_rfl) (.inl rfl)) rfl (by kernel_rfl) ?_
   refine SL.sim tk 7 [(2, vp 3 0), (4, vp 4 0), (7, vs 7), (8, vi .i64 x_4.2.1), (9, vi .i64 x_4.2.2)] [] [] [] (by kernel_rfl) ?_
   refine SL.nilThen ?_
   refine SC.seq ?_
   refine SC.r tk [(2, vp 3 0), (4, vp 4 0), (7, vs 7), (8, vi .i64 x_4.2.1), (9, vi .i64 x_4.2.2), (24, vb (x_4.2.2 != 0))] [] [] [] (by kernel_rfl) ?_
   refine SC.if' rfl hp (fun hp => ?_) (fun hp => ?_)
   · refine SC.r tk [(2, vp 3 0), (4, vp 4 0), (9, vi .i64 x_4.2.2)] [(3, 26, (C_api_Channel ({ x_3 with Failed := true }) (.s 5) (.s 6)))] [] [] (by kernel_rfl) ?_
     refine SC.r tk [(4, vp 4 0), (5, vn), (6, vi .i64 x_4.2.2)] [(4, 26, (C_api_Channel ({ x_3 with Failed := true }) (.s 5) (.s 6)))] [] [] (by kernel_rfl) ?_
     obtain rfl := some_inv' hp
     exact SC.re (js := [.g 0, .g 1, .g 2, .g 5, .g 6, .n]) tk (by kernel_rfl)
   · refine SC.skipThen ?_
     refine SC.r tk [(2, vp 3 0), (4, vp 4 0), (7, vs 7), (8, vi .i64 x_4.2.1)] [(3, 26, (C_api_Channel ({ x_3 with RxCredits := w64 (x_3.RxCredits - 1) }) (.s 5) (.s 6)))] [] [] (by kernel_rfl) ?_
     refine SC.seq ?_
     refine SC.reg ?_
     refine SL.sim tk 3 [(2, vp 3 0), (4, vp 4 0), (8, vi .i64 x_4.2.1), (33, vs 6), (34, vs 7)] [] [] [] (by kernel_rfl) ?_
     refine SL.eff (e_lit (sz := 1) (E := 24) (R := (RSl 1 R8)) (by_ := 24) tk [[.s 6], [.s 7]] [x_3.In, x_4.1] (by kernel_rfl) ⟨(Clo.sl (by kernel_rfl)), ⟨(Clo.sl (by kernel_rfl)), trivial⟩⟩ rfl (by kernel_rfl) (by kernel_rfl)) rfl (by kernel_rfl) ?_
     refine SL.norm (itsN := [.rd 1 (RSl 1 R8) c_1.Out, .rd 1 R8 c_1.In, .rd 1 R8 b_2, .blk 26 (C_api_Channel ({ x_3 with RxCredits := w64 (x_3.RxCredits - 1) }) (.s 5) (.s 6)), .blk 26 (C_api_Channel (T_api_Channel.mk 0 0 0 0 0 0 0 0 0 0 [] 0 [] 0 false) nl nl), .rd 1 (RSl 1 R8) x_3.Out, .rd 1 R8 x_3.In, .rd 1 R8 x_4.1, .own 1 24 (RSl 1 R8) [x_3.In, x_4.1]]) (by kernel_rfl) ?_
     obtain ⟨x_5, e_x_5, hp⟩ := bind_inv hp
     refine SL.pre (pre_frz (i := 8) (sz := 1) (E := 24) (R := (RSl 1 R8)) (l := [x_3.In, x_4.1]) (by kernel_rfl)) ?_
     refine SL.eff (e_c Try.call37 (ok_octets_Join F [x_3.In, x_4.1] _ e_x_5) [.g 8] [vs 8] (vs 9) (by kernel_rfl) (.inl rfl)) rfl (by kernel_rfl) ?_
     refine SL.sim tk 5 [(2, vp 3 0), (4, vp 4 0)] [(3, 26, (C_api_Channel ({ x_3 with RxCredits := w64 (x_3.RxCredits - 1), In := x_5, Want := x_4.2.1 }) (.s 5) (.s 9)))] [] [] (by kernel_rfl) ?_
     refine SL.nilThen ?_
     refine SC.seq ?_
     refine SC.r tk [(2, vp 3 0), (4, vp 4 0), (45, vb (decide ((len x_5) < x_4.2.1)))] [] [] [] (by kernel_rfl) ?_
     refine SC.if' rfl hp (fun hp => ?_) (fun hp => ?_)
     · refine SC.r tk [(4, vp 4 0), (5, vn), (6, vi .i64 0)] [(4, 26, (C_api_Channel ({ x_3 with RxCredits := w64 (x_3.RxCredits - 1), In := x_5, Want := x_4.2.1 }) (.s 5) (.s 9)))] [] [] (by kernel_rfl) ?_
       obtain rfl := some_inv' hp
       exact SC.re (js := [.g 0, .g 1, .g 2, .g 5, .g 9, .n]) tk (by kernel_rfl)
     · refine SC.skipThen ?_
       refine SC.r tk [(2, vp 3 0), (4, vp 4 0), (10, vs 9)] [] [] [] (by kernel_rfl) ?_
       refine SC.r tk [(2, vp 3 0), (4, vp 4 0), (10, vs 9)] [(3, 26, (C_api_Channel ({ x_3 with RxCredits := w64 (x_3.RxCredits - 1), In := [], Want := (-1) }) (.s 5) nl))] [] [] (by kernel_rfl) ?_
       refine SC.seq ?_
       refine SC.reg ?_
       refine SL.sim tk 2 [(4, vp 4 0), (51, .g (C_api_Channel ({ x_3 with RxCredits := w64 (x_3.RxCredits - 1), In := [], Want := (-1) }) (.s 5) nl)), (52, vs 9)] [] [] [] (by kernel_rfl) ?_
       refine SL.eff (e_lit (sz := 1) (E := 24) (R := (RSl 1 R8)) (by_ := 24) tk [[.s 9]] [x_5] (by kernel_rfl) ⟨(Clo.sl (by kernel_rfl)), trivial⟩ rfl (by kernel_rfl) (by kernel_rfl)) rfl (by kernel_rfl) ?_
       refine SL.norm (itsN := [.rd 1 (RSl 1 R8) c_1.Out, .rd 1 R8 c_1.In, .rd 1 R8 b_2, .blk 26 (C_api_Channel ({ x_3 with RxCredits := w64 (x_3.RxCredits - 1), In := [], Want := (-1) }) (.s 5) nl), .blk 26 (C_api_Channel (T_api_Channel.mk 0 0 0 0 0 0 0 0 0 0 [] 0 [] 0 false) nl nl), .rd 1 (RSl 1 R8) x_3.Out, .rd 1 R8 x_3.In, .rd 1 R8 x_4.1, .rd 1 (RSl 1 R8) [x_3.In, x_4.1], .rd 1 R8 x_5, .own 1 24 (RSl 1 R8) [x_5]]) (by kernel_rfl) ?_
       refine SL.sim tk 3 [(4, vp 4 0), (5, vs 10), (6, vi .i64 0)] [(4, 26, (C_api_Channel ({ x_3 with RxCredits := w64 (x_3.RxCredits - 1), In := [], Want := (-1) }) (.s 5) nl))] [] [] (by kernel_rfl) ?_
       refine SL.nilThen ?_
       obtain rfl := some_inv' hp
       exact SC.re (js := [.g 0, .g 1, .g 2, .g 5, .n, .z 10]) tk (by kernel_rfl)

theorem ok_wirelesslaw33_exampleHolds (F : Nat) (r : Bool) (hp : wirelesslaw33_exampleHolds F = some r) : Spec Try.prog 11 [] [] (vb r) [] := by
 refine Spec.enter Try.func11 rfl Try.ntmps11 rfl rfl fun fx => ?_
 refine SC.r tk [] [] [] [] (by kernel_rfl) ?_
 refine SC.cut (fun a w => ∃ (c_16 : T_api_Channel) (x_17 : Int), wirelesslaw33_exampleHolds_j1 F c_16 x_17 = some r ∧ A 107 0 fx [(1, vp 0 0), (2, vi .i64 x_17)] [.blk 26 (C_api_Channel c_16 (.s 1) (.s 2)), .rd 1 (RSl 1 R8) c_16.Out, .rd 1 R8 c_16.In] a w) ?_ ?_
 · refine SC.draw MO [] (by kernel_rfl) fun kap_42 D_43 => ?_
   obtain ⟨x_44, e_x_44, hp⟩ := bind_inv hp
   obtain ⟨l_124, e_l_124, hp⟩ := bind_inv hp
   obtain ⟨x_204, e_x_204, hp⟩ := bind_inv hp
   refine SD.lay 0 [I, I, I, I, I, I, I, I, I] [(1, vp 5 0), (2, vi .i64 x_204.2)] [.gone, .gone, .gone, .rd 1 (RSl 1 R8) x_204.1.Out, .rd 1 R8 x_204.1.In, .blk 26 (C_api_Channel x_204.1 (.s 3) (.s 4))] ?_ (fun c_43_0 => ?_)
   · refine SD.done (by kernel_rfl) fun a w h => ?_
     exact ⟨x_204.1, x_204.2, hp, h.at (js := [.g 5, .g 3, .g 4]) (by kernel_rfl)⟩
   · refine SD.lay 2 [I, I, I, I, I, I, I, O, O] [(1, vp 5 0), (17, .g (C_api_Channel x_204.1 (.s 3) (.s 4))), (18, vi .i64 x_204.2)] [.gone, .gone, .gone, .rd 1 (RSl 1 R8) x_204.1.Out, .rd 1 R8 x_204.1.In, .blk 26 (C_api_Channel (T_api_Channel.mk 0 0 0 0 0 0 0 0 0 0 [] 0 [] 0 false) nl nl)] ?_ (fun c_43_1 => ?_)
     · refine SD.all1 (i := 7) (by kernel_rfl) ?_
       refine SW.store D_43 tk (i := 7) (q := 5) (T := 26) (cs := (C_api_Channel x_204.1 (.s 3) (.s 4))) (bs' := [I, I, I, I, I, I, I, I, O]) rfl (by kernel_rfl) rfl rfl (by kernel_rfl) ?_
       refine SD.takes tk D_43 [] kn0 [8] [] [] [I, I, I, I, I, I, I, I, I] [(1, vp 5 0), (2, vi .i64 x_204.2)] rfl (by kernel_rfl) (by kernel_rfl) (by kernel_rfl) ?_
       exact SD.vie D_43 [.n, .n, .n, .g 3, .g 4, .g 5] c_43_0 (by kernel_rfl)
     · refine SD.lay 3 [I, I, I, I, I, I, O, O, O] [(17, .g (C_api_Channel x_204.1 (.s 3) (.s 4))), (18, vi .i64 x_204.2)] [.gone, .gone, .gone, .rd 1 (RSl 1 R8) x_204.1.Out, .rd 1 R8 x_204.1.In] ?_ (fun c_43_2 => ?_)
       · refine SD.all1 (i := 6) (by kernel_rfl) ?_
         refine SW.eff D_43 (i := 6) (bs' := [I, I, I, I, I, I, I, O, O]) rfl (.inl rfl) rfl (e_alloc (E := 26) tk (C_api_Channel (T_api_Channel.mk 0 0 0 0 0 0 0 0 0 0 [] 0 [] 0 false) nl nl) (by kernel_rfl)) (by kernel_rfl) rfl (by kernel_rfl) ?_
         exact SD.vie D_43 [.n, .n, .n, .g 3, .g 4, .g 5] c_43_1 (by kernel_rfl)
       · refine SD.lay 6 [I, I, O, O, O, O, I, O, O] [(1, vp 3 0), (14, .g (C_api_Channel x_44 (.s 0) (.s 1))), (15, vs 2)] [.rd 1 (RSl 1 R8) x_44.Out, .rd 1 R8 x_44.In, .own 1 5 R8 l_124, .blk 26 (C_api_Channel (T_api_Channel.mk 0 0 0 0 0 0 0 0 0 0 [] 0 [] 0 false) nl nl)] ?_ (fun c_43_3 => ?_)
         · refine SD.pre (pre_frz (i := 2) (sz := 1) (E := 5) (R := R8) (l := l_124) (by kernel_rfl)) ?_
           refine SD.all1 (i := 2) (by kernel_rfl) ?_
           refine SW.eff D_43 (i := 2) (bs' := [I, I, I, O, O, O, I, O, O]) rfl (.inl rfl) rfl (e_c Try.call18 (ok_sdu_Queue F x_44 l_124 _ e_x_204) [.g 0, .g 1, .g 2] [.g (C_api_Channel x_44 (.s 0) (.s 1)), vs 2] (.u [.inr (C_api_Channel x_204.1 (.s 4) (.s 5)), .inl (ci .i64 x_204.2)]) (by kernel_rfl) (.inl rfl)) (by kernel_rfl) rfl (by kernel_rfl) ?_
           refine SD.takes tk D_43 [] kn0 [3, 4, 5] [] [] [I, I, I, I, I, I, I, O, O] [(1, vp 3 0), (17, .g (C_api_Channel x_204.1 (.s 4) (.s 5))), (18, vi .i64 x_204.2)] rfl (by kernel_rfl) (by kernel_rfl) (by kernel_rfl) ?_
           exact SD.vie D_43 [.n, .n, .n, .g 4, .g 5, .g 3] c_43_1 (by kernel_rfl)
         · refine SD.lay 7 [I, I, O, O, O, O, O, O, O] [(14, .g (C_api_Channel x_44 (.s 0) (.s 1))), (15, vs 2)] [.rd 1 (RSl 1 R8) x_44.Out, .rd 1 R8 x_44.In, .own 1 5 R8 l_124] ?_ (fun c_43_4 => ?_)
           · refine SD.all2 (i := 2) (j := 6) (by kernel_rfl) ?_ ?_
             · refine SW.pre (pre_frz (i := 2) (sz := 1) (E := 5) (R := R8) (l := l_124) (by kernel_rfl)) ?_
               refine SW.eff D_43 (i := 2) (bs' := [I, I, I, O, O, O, O, O, O]) rfl (.inl rfl) rfl (e_c Try.call18 (ok_sdu_Queue F x_44 l_124 _ e_x_204) [.g 0, .g 1, .g 2] [.g (C_api_Channel x_44 (.s 0) (.s 1)), vs 2] (.u [.inr (C_api_Channel x_204.1 (.s 3) (.s 4)), .inl (ci .i64 x_204.2)]) (by kernel_rfl) (.inl rfl)) (by kernel_rfl) rfl (by kernel_rfl) ?_
               refine SD.takes tk D_43 [] kn0 [3, 4, 5] [] [] [I, I, I, I, I, I, O, O, O] [(17, .g (C_api_Channel x_204.1 (.s 3) (.s 4))), (18, vi .i64 x_204.2)] rfl (by kernel_rfl) (by kernel_rfl) (by kernel_rfl) ?_
               exact SD.vie D_43 [.n, .n, .n, .g 3, .g 4] c_43_2 (by kernel_rfl)
             · refine SW.eff D_43 (i := 6) (bs' := [I, I, O, O, O, O, I, O, O]) rfl (.inl rfl) rfl (e_alloc (E := 26) tk (C_api_Channel (T_api_Channel.mk 0 0 0 0 0 0 0 0 0 0 [] 0 [] 0 false) nl nl) (by kernel_rfl)) (by kernel_rfl) rfl (by kernel_rfl) ?_
               exact SD.vie D_43 [.g 0, .g 1, .g 2, .g 3] c_43_3 (by kernel_rfl)
           · refine SD.lay 7 [I, O, O, O, O, O, I, O, O] [(1, vp 2 0), (14, .g (C_api_Channel x_44 (.s 0) (.s 1)))] [.rd 1 (RSl 1 R8) x_44.Out, .rd 1 R8 x_44.In, .blk 26 (C_api_Channel (T_api_Channel.mk 0 0 0 0 0 0 0 0 0 0 [] 0 [] 0 false) nl nl)] ?_ (fun c_43_5 => ?_)
             · refine SD.all1 (i := 1) (by kernel_rfl) ?_
               refine SW.eff D_43 (i := 1) (bs' := [I, I, O, O, O, O, I, O, O]) rfl (.inl rfl) rfl (e_make (sz := 1) (E := 5) (R := R8) tk rfl rfl rfl (fun _ _ => rfl) e_l_124 (by kernel_rfl)) (by kernel_rfl) rfl (by kernel_rfl) ?_
               exact SD.vie D_43 [.g 0, .g 1, .g 3, .g 2] c_43_3 (by kernel_rfl)
             · refine SD.lay 8 [I, O, O, O, O, O, O, O, O] [(14, .g (C_api_Channel x_44 (.s 0) (.s 1)))] [.rd 1 (RSl 1 R8) x_44.Out, .rd 1 R8 x_44.In] ?_ (fun c_43_6 => ?_)
               · refine SD.all2 (i := 1) (j := 6) (by kernel_rfl) ?_ ?_
                 · refine SW.eff D_43 (i := 1) (bs' := [I, I, O, O, O, O, O, O, O]) rfl (.inl rfl) rfl (e_make (sz := 1) (E := 5) (R := R8) tk rfl rfl rfl (fun _ _ => rfl) e_l_124 (by kernel_rfl)) (by kernel_rfl) rfl (by kernel_rfl) ?_
                   exact SD.vie D_43 [.g 0, .g 1, .g 2] c_43_4 (by kernel_rfl)
                 · refine SW.eff D_43 (i := 6) (bs' := [I, O, O, O, O, O, I, O, O]) rfl (.inl rfl) rfl (e_alloc (E := 26) tk (C_api_Channel (T_api_Channel.mk 0 0 0 0 0 0 0 0 0 0 [] 0 [] 0 false) nl nl) (by kernel_rfl)) (by kernel_rfl) rfl (by kernel_rfl) ?_
                   exact SD.vie D_43 [.g 0, .g 1, .g 2] c_43_5 (by kernel_rfl)
               · refine SD.lay 7 [O, I, O, O, O, O, I, O, O] [(1, vp 1 0), (15, vs 0)] [.own 1 5 R8 l_124, .blk 26 (C_api_Channel (T_api_Channel.mk 0 0 0 0 0 0 0 0 0 0 [] 0 [] 0 false) nl nl)] ?_ (fun c_43_7 => ?_)
                 · refine SD.all1 (i := 0) (by kernel_rfl) ?_
                   refine SW.eff D_43 (i := 0) (bs' := [I, I, O, O, O, O, I, O, O]) rfl (.inl rfl) rfl (e_c Try.call19 (ok_wirelesslaw33_end F 40 23 5 _ e_x_44) [] [vi .i64 40, vi .i64 23, vi .i64 5] (.g (C_api_Channel x_44 (.s 2) (.s 3))) (by kernel_rfl) (.inl rfl)) (by kernel_rfl) rfl (by kernel_rfl) ?_
                   exact SD.vie D_43 [.g 2, .g 3, .g 0, .g 1] c_43_3 (by kernel_rfl)
                 · refine SD.lay 8 [O, I, O, O, O, O, O, O, O] [(15, vs 0)] [.own 1 5 R8 l_124] ?_ (fun c_43_8 => ?_)
                   · refine SD.all2 (i := 0) (j := 6) (by kernel_rfl) ?_ ?_
                     · refine SW.eff D_43 (i := 0) (bs' := [I, I, O, O, O, O, O, O, O]) rfl (.inl rfl) rfl (e_c Try.call19 (ok_wirelesslaw33_end F 40 23 5 _ e_x_44) [] [vi .i64 40, vi .i64 23, vi .i64 5] (.g (C_api_Channel x_44 (.s 1) (.s 2))) (by kernel_rfl) (.inl rfl)) (by kernel_rfl) rfl (by kernel_rfl) ?_
                       exact SD.vie D_43 [.g 1, .g 2, .g 0] c_43_4 (by kernel_rfl)
                     · refine SW.eff D_43 (i := 6) (bs' := [O, I, O, O, O, O, I, O, O]) rfl (.inl rfl) rfl (e_alloc (E := 26) tk (C_api_Channel (T_api_Channel.mk 0 0 0 0 0 0 0 0 0 0 [] 0 [] 0 false) nl nl) (by kernel_rfl)) (by kernel_rfl) rfl (by kernel_rfl) ?_
                       exact SD.vie D_43 [.g 0, .g 1] c_43_7 (by kernel_rfl)
                   · refine SD.lay 8 [O, O, O, O, O, O, I, O, O] [(1, vp 0 0)] [.blk 26 (C_api_Channel (T_api_Channel.mk 0 0 0 0 0 0 0 0 0 0 [] 0 [] 0 false) nl nl)] ?_ (fun c_43_9 => ?_)
                     · refine SD.all2 (i := 0) (j := 1) (by kernel_rfl) ?_ ?_
                       · refine SW.eff D_43 (i := 0) (bs' := [I, O, O, O, O, O, I, O, O]) rfl (.inl rfl) rfl (e_c Try.call19 (ok_wirelesslaw33_end F 40 23 5 _ e_x_44) [] [vi .i64 40, vi .i64 23, vi .i64 5] (.g (C_api_Channel x_44 (.s 1) (.s 2))) (by kernel_rfl) (.inl rfl)) (by kernel_rfl) rfl (by kernel_rfl) ?_
                         exact SD.vie D_43 [.g 1, .g 2, .g 0] c_43_5 (by kernel_rfl)
                       · refine SW.eff D_43 (i := 1) (bs' := [O, I, O, O, O, O, I, O, O]) rfl (.inl rfl) rfl (e_make (sz := 1) (E := 5) (R := R8) tk rfl rfl rfl (fun _ _ => rfl) e_l_124 (by kernel_rfl)) (by kernel_rfl) rfl (by kernel_rfl) ?_
                         exact SD.vie D_43 [.g 1, .g 0] c_43_7 (by kernel_rfl)
                     · refine SD.all3 (i := 0) (j := 1) (k := 6) (by kernel_rfl) ?_ ?_ ?_
                       · refine SW.eff D_43 (i := 0) (bs' := [I, O, O, O, O, O, O, O, O]) rfl (.inl rfl) rfl (e_c Try.call19 (ok_wirelesslaw33_end F 40 23 5 _ e_x_44) [] [vi .i64 40, vi .i64 23, vi .i64 5] (.g (C_api_Channel x_44 (.s 0) (.s 1))) (by kernel_rfl) (.inl rfl)) (by kernel_rfl) rfl (by kernel_rfl) ?_
                         exact SD.vie D_43 [.g 0, .g 1] c_43_6 (by kernel_rfl)
                       · refine SW.eff D_43 (i := 1) (bs' := [O, I, O, O, O, O, O, O, O]) rfl (.inl rfl) rfl (e_make (sz := 1) (E := 5) (R := R8) tk rfl rfl rfl (fun _ _ => rfl) e_l_124 (by kernel_rfl)) (by kernel_rfl) rfl (by kernel_rfl) ?_
                         exact SD.vie D_43 [.g 0] c_43_8 (by kernel_rfl)
                       · refine SW.eff D_43 (i := 6) (bs' := [O, O, O, O, O, O, I, O, O]) rfl (.inl rfl) rfl (e_alloc (E := 26) tk (C_api_Channel (T_api_Channel.mk 0 0 0 0 0 0 0 0 0 0 [] 0 [] 0 false) nl nl) (by kernel_rfl)) (by kernel_rfl) rfl (by kernel_rfl) ?_
                         exact SD.vie D_43 [.g 0] c_43_9 (by kernel_rfl)
 · rintro a w ⟨c_16, x_17, hp, h⟩
   refine h.go ?_
   refine SC.seq ?_
   refine SC.reg ?_
   refine SL.sim tk 1 [(1, vp 0 0), (2, vi .i64 x_17), (20, .g (C_api_Channel c_16 (.s 1) (.s 2)))] [] [] [] (by kernel_rfl) ?_
   obtain ⟨x_18, e_x_18, hp⟩ := bind_inv hp
   refine SL.eff (e_c Try.call12 (ok_sdu_Output F c_16 _ e_x_18) [.g 1, .g 2] [.g (C_api_Channel c_16 (.s 1) (.s 2))] (.u [.inr (C_api_Channel x_18.1 (.s 3) (.s 4)), .inl (.s 5)]) (by kernel_rfl) (.inl rfl)) rfl (by kernel_rfl) ?_
   refine SL.sim tk 5 [(1, vp 0 0), (2, vi .i64 x_17), (3, vs 5)] [(0, 26, (C_api_Channel x_18.1 (.s 3) (.s 4)))] [] [] (by kernel_rfl) ?_
   refine SL.nilThen ?_
   refine SC.seq ?_
   refine SC.reg ?_
   obtain ⟨x_19, e_x_19, hp⟩ := bind_inv hp
   refine SL.eff (e_c Try.call19 (ok_wirelesslaw33_end F 40 23 0 _ e_x_19) [] [vi .i64 40, vi .i64 23, vi .i64 0] (.g (C_api_Channel x_19 (.s 6) (.s 7))) (by kernel_rfl) (.inl rfl)) rfl (by kernel_rfl) ?_
   refine SL.norm (itsN := [.blk 26 (C_api_Channel x_18.1 (.s 3) (.s 4)), .rd 1 (RSl 1 R8) c_16.Out, .rd 1 R8 c_16.In, .rd 1 (RSl 1 R8) x_18.1.Out, .rd 1 R8 x_18.1.In, .rd 1 (RSl 1 R8) x_18.2, .rd 1 (RSl 1 R8) x_19.Out, .rd 1 R8 x_19.In]) (by kernel_rfl) ?_
   refine SL.eff (e_lit (sz := 1) (E := 5) (R := R8) (by_ := 1) tk [[ci .u8 0], [ci .u8 0]] [0, 0] (by kernel_rfl) ⟨Clo.int, ⟨Clo.int, trivial⟩⟩ rfl (by kernel_rfl) (by kernel_rfl)) rfl (by kernel_rfl) ?_
   obtain ⟨x_20, e_x_20, hp⟩ := bind_inv hp
   refine SL.pre (pre_frz (i := 8) (sz := 1) (E := 5) (R := R8) (l := [0, 0]) (by kernel_rfl)) ?_
   refine SL.eff (e_c Try.call16 (ok_sdu_Input F x_19 [0, 0] _ e_x_20) [.g 6, .g 7, .g 8] [.g (C_api_Channel x_19 (.s 6) (.s 7)), vs 8] (.u [.inr (C_api_Channel x_20.1 (.s 9) (.s 10)), .inl (.s 11), .inl (ci .i64 x_20.2.2)]) (by kernel_rfl) (.inl rfl)) rfl (by kernel_rfl) ?_
   refine SL.sim tk 4 [(1, vp 0 0), (2, vi .i64 x_17), (3, vs 5), (28, .g (C_api_Channel x_20.1 (.s 9) (.s 10))), (29, vs 11), (30, vi .i64 x_20.2.2)] [] [] [] (by kernel_rfl) ?_
   refine SL.eff (e_alloc (E := 26) tk (C_api_Channel (T_api_Channel.mk 0 0 0 0 0 0 0 0 0 0 [] 0 [] 0 false) nl nl) (by kernel_rfl)) rfl (by kernel_rfl) ?_
   refine SL.norm (itsN := [.blk 26 (C_api_Channel x_18.1 (.s 3) (.s 4)), .rd 1 (RSl 1 R8) c_16.Out, .rd 1 R8 c_16.In, .rd 1 (RSl 1 R8) x_18.1.Out, .rd 1 R8 x_18.1.In, .rd 1 (RSl 1 R8) x_18.2, .rd 1 (RSl 1 R8) x_19.Out, .rd 1 R8 x_19.In, .rd 1 R8 [0, 0], .rd 1 (RSl 1 R8) x_20.1.Out, .rd 1 R8 x_20.1.In, .rd 1 (RSl 1 R8) x_20.2.1, .blk 26 (C_api_Channel (T_api_Channel.mk 0 0 0 0 0 0 0 0 0 0 [] 0 [] 0 false) nl nl)]) (by kernel_rfl) ?_
   refine SL.sim tk 3 [(1, vp 0 0), (2, vi .i64 x_17), (3, vs 5), (4, vp 12 0), (6, vi .i64 x_20.2.2)] [(12, 26, (C_api_Channel x_20.1 (.s 9) (.s 10)))] [] [] (by kernel_rfl) ?_
   refine SL.nilThen ?_
   refine SC.seq ?_
   refine SC.reg ?_
   obtain ⟨x_21, e_x_21, hp⟩ := bind_inv hp
   refine SL.eff (e_c Try.call19 (ok_wirelesslaw33_end F 40 23 1 _ e_x_21) [] [vi .i64 40, vi .i64 23, vi .i64 1] (.g (C_api_Channel x_21 (.s 13) (.s 14))) (by kernel_rfl) (.inl rfl)) rfl (by kernel_rfl) ?_
   refine SL.eff (e_lit (sz := 1) (E := 5) (R := R8) (by_ := 1) tk [[ci .u8 0]] [0] (by kernel_rfl) ⟨Clo.int, trivial⟩ rfl (by kernel_rfl) (by kernel_rfl)) rfl (by kernel_rfl) ?_
   refine SL.norm (itsN := [.blk 26 (C_api_Channel x_18.1 (.s 3) (.s 4)), .rd 1 (RSl 1 R8) c_16.Out, .rd 1 R8 c_16.In, .rd 1 (RSl 1 R8) x_18.1.Out, .rd 1 R8 x_18.1.In, .rd 1 (RSl 1 R8) x_18.2, .rd 1 (RSl 1 R8) x_19.Out, .rd 1 R8 x_19.In, .rd 1 R8 [0, 0], .rd 1 (RSl 1 R8) x_20.1.Out, .rd 1 R8 x_20.1.In, .rd 1 (RSl 1 R8) x_20.2.1, .blk 26 (C_api_Channel x_20.1 (.s 9) (.s 10)), .rd 1 (RSl 1 R8) x_21.Out, .rd 1 R8 x_21.In, .own 1 5 R8 [0]]) (by kernel_rfl) ?_
   obtain ⟨x_22, e_x_22, hp⟩ := bind_inv hp
   refine SL.pre (pre_frz (i := 15) (sz := 1) (E := 5) (R := R8) (l := [0]) (by kernel_rfl)) ?_
   refine SL.eff (e_c Try.call16 (ok_sdu_Input F x_21 [0] _ e_x_22) [.g 13, .g 14, .g 15] [.g (C_api_Channel x_21 (.s 13) (.s 14)), vs 15] (.u [.inr (C_api_Channel x_22.1 (.s 16) (.s 17)), .inl (.s 18), .inl (ci .i64 x_22.2.2)]) (by kernel_rfl) (.inl rfl)) rfl (by kernel_rfl) ?_
   refine SL.sim tk 4 [(1, vp 0 0), (2, vi .i64 x_17), (3, vs 5), (4, vp 12 0), (6, vi .i64 x_20.2.2), (35, .g (C_api_Channel x_22.1 (.s 16) (.s 17))), (36, vs 18), (37, vi .i64 x_22.2.2)] [] [] [] (by kernel_rfl) ?_
   refine SL.eff (e_alloc (E := 26) tk (C_api_Channel (T_api_Channel.mk 0 0 0 0 0 0 0 0 0 0 [] 0 [] 0 false) nl nl) (by kernel_rfl)) rfl (by kernel_rfl) ?_
   refine SL.sim tk 3 [(1, vp 0 0), (2, vi .i64 x_17), (3, vs 5), (4, vp 12 0), (6, vi .i64 x_20.2.2), (9, vi .i64 x_22.2.2)] [(19, 26, (C_api_Channel x_22.1 (.s 16) (.s 17)))] [] [] (by kernel_rfl) ?_
   refine SL.nilThen ?_
   refine SC.seq ?_
   refine SC.reg ?_
   obtain ⟨x_23, e_x_23, hp⟩ := bind_inv hp
   refine SL.eff (e_c Try.call19 (ok_wirelesslaw33_end F 40 23 1 _ e_x_23) [] [vi .i64 40, vi .i64 23, vi .i64 1] (.g (C_api_Channel x_23 (.s 20) (.s 21))) (by kernel_rfl) (.inl rfl)) rfl (by kernel_rfl) ?_
   refine SL.norm (itsN := [.blk 26 (C_api_Channel x_18.1 (.s 3) (.s 4)), .rd 1 (RSl 1 R8) c_16.Out, .rd 1 R8 c_16.In, .rd 1 (RSl 1 R8) x_18.1.Out, .rd 1 R8 x_18.1.In, .rd 1 (RSl 1 R8) x_18.2, .rd 1 (RSl 1 R8) x_19.Out, .rd 1 R8 x_19.In, .rd 1 R8 [0, 0], .rd 1 (RSl 1 R8) x_20.1.Out, .rd 1 R8 x_20.1.In, .rd 1 (RSl 1 R8) x_20.2.1, .blk 26 (C_api_Channel x_20.1 (.s 9) (.s 10)), .rd 1 (RSl 1 R8) x_21.Out, .rd 1 R8 x_21.In, .rd 1 R8 [0], .rd 1 (RSl 1 R8) x_22.1.Out, .rd 1 R8 x_22.1.In, .rd 1 (RSl 1 R8) x_22.2.1, .blk 26 (C_api_Channel x_22.1 (.s 16) (.s 17)), .rd 1 (RSl 1 R8) x_23.Out, .rd 1 R8 x_23.In]) (by kernel_rfl) ?_
   refine SL.eff (e_lit (sz := 1) (E := 5) (R := R8) (by_ := 1) tk [[ci .u8 0], [ci .u8 0]] [0, 0] (by kernel_rfl) ⟨Clo.int, ⟨Clo.int, trivial⟩⟩ rfl (by kernel_rfl) (by kernel_rfl)) rfl (by kernel_rfl) ?_
   obtain ⟨x_24, e_x_24, hp⟩ := bind_inv hp
   refine SL.pre (pre_frz (i := 22) (sz := 1) (E := 5) (R := R8) (l := [0, 0]) (by kernel_rfl)) ?_
   refine SL.eff (e_c Try.call16 (ok_sdu_Input F x_23 [0, 0] _ e_x_24) [.g 20, .g 21, .g 22] [.g (C_api_Channel x_23 (.s 20) (.s 21)), vs 22] (.u [.inr (C_api_Channel x_24.1 (.s 23) (.s 24)), .inl (.s 25), .inl (ci .i64 x_24.2.2)]) (by kernel_rfl) (.inl rfl)) rfl (by kernel_rfl) ?_
   refine SL.sim tk 4 [(1, vp 0 0), (2, vi .i64 x_17), (3, vs 5), (4, vp 12 0), (6, vi .i64 x_20.2.2), (9, vi .i64 x_22.2.2), (42, .g (C_api_Channel x_24.1 (.s 23) (.s 24))), (43, vs 25), (44, vi .i64 x_24.2.2)] [] [] [] (by kernel_rfl) ?_
   refine SL.eff (e_alloc (E := 26) tk (C_api_Channel (T_api_Channel.mk 0 0 0 0 0 0 0 0 0 0 [] 0 [] 0 false) nl nl) (by kernel_rfl)) rfl (by kernel_rfl) ?_
   refine SL.norm (itsN := [.blk 26 (C_api_Channel x_18.1 (.s 3) (.s 4)), .rd 1 (RSl 1 R8) c_16.Out, .rd 1 R8 c_16.In, .rd 1 (RSl 1 R8) x_18.1.Out, .rd 1 R8 x_18.1.In, .rd 1 (RSl 1 R8) x_18.2, .rd 1 (RSl 1 R8) x_19.Out, .rd 1 R8 x_19.In, .rd 1 R8 [0, 0], .rd 1 (RSl 1 R8) x_20.1.Out, .rd 1 R8 x_20.1.In, .rd 1 (RSl 1 R8) x_20.2.1, .blk 26 (C_api_Channel x_20.1 (.s 9) (.s 10)), .rd 1 (RSl 1 R8) x_21.Out, .rd 1 R8 x_21.In, .rd 1 R8 [0], .rd 1 (RSl 1 R8) x_22.1.Out, .rd 1 R8 x_22.1.In, .rd 1 (RSl 1 R8) x_22.2.1, .blk 26 (C_api_Channel x_22.1 (.s 16) (.s 17)), .rd 1 (RSl 1 R8) x_23.Out, .rd 1 R8 x_23.In, .rd 1 R8 [0, 0], .rd 1 (RSl 1 R8) x_24.1.Out, .rd 1 R8 x_24.1.In, .rd 1 (RSl 1 R8) x_24.2.1, .blk 26 (C_api_Channel (T_api_Channel.mk 0 0 0 0 0 0 0 0 0 0 [] 0 [] 0 false) nl nl)]) (by kernel_rfl) ?_
   refine SL.sim tk 3 [(1, vp 0 0), (2, vi .i64 x_17), (3, vs 5), (4, vp 12 0), (6, vi .i64 x_20.2.2), (9, vi .i64 x_22.2.2), (11, vs 25), (12, vi .i64 x_24.2.2)] [(26, 26, (C_api_Channel x_24.1 (.s 23) (.s 24)))] [] [] (by kernel_rfl) ?_
   refine SL.nilThen ?_
   refine SC.seq ?_
   refine SC.reg ?_
   refine SL.sim tk 8 [(1, vp 0 0), (3, vs 5), (4, vp 12 0), (6, vi .i64 x_20.2.2), (9, vi .i64 x_22.2.2), (11, vs 25), (12, vi .i64 x_24.2.2), (52, vb ((x_17 == 0) && ((len x_18.2) == 2)))] [] [] [] (by kernel_rfl) ?_
   obtain ⟨z_26, hz, hpr⟩ := bind_inv hp
   clear hp
   refine SL.cutAt 6 (fun a w => A 107 0 fx [(1, vp 0 0), (3, vs 3), (4, vp 4 0), (6, vi .i64 x_20.2.2), (9, vi .i64 x_22.2.2), (11, vs 7), (12, vi .i64 x_24.2.2), (58, vb z_26)] [.blk 26 (C_api_Channel x_18.1 (.s 1) (.s 2)), .rd 1 (RSl 1 R8) x_18.1.Out, .rd 1 R8 x_18.1.In, .rd 1 (RSl 1 R8) x_18.2, .blk 26 (C_api_Channel x_20.1 (.s 5) (.s 6)), .rd 1 (RSl 1 R8) x_20.1.Out, .rd 1 R8 x_20.1.In, .rd 1 (RSl 1 R8) x_24.2.1] a w) ?_ ?_
   · have hp := hz
     rcases Bool.eq_false_or_eq_true (((x_17 == 0) && ((len x_18.2) == 2))) with hg_25 | hg_25
     · replace hp := if_t hp hg_25
       refine SL.yes rfl rfl hg_25 ?_
       refine SL.sim tk 1 [(1, vp 0 0), (3, vs 5), (4, vp 12 0), (6, vi .i64 x_20.2.2), (9, vi .i64 x_22.2.2), (11, vs 25), (12, vi .i64 x_24.2.2), (52, vb ((x_17 == 0) && ((len x_18.2) == 2))), (53, vs 5)] [] [] [] (by kernel_rfl) ?_
       refine SL.yes rfl rfl hg_25 ?_
       obtain ⟨x_41, e_x_41, hp⟩ := bind_inv hp
       refine SL.pre (pre_ix (i := 5) (iv := 0) (sz := 1) (R := (RSl 1 R8)) (l := x_18.2) (by kernel_rfl) rfl e_x_41) ?_
       refine SL.sim tk 1 [(1, vp 0 0), (3, vs 5), (4, vp 12 0), (6, vi .i64 x_20.2.2), (9, vi .i64 x_22.2.2), (11, vs 25), (12, vi .i64 x_24.2.2), (52, vb ((x_17 == 0) && ((len x_18.2) == 2))), (54, vp 27 0)] [] [.el 27] [0] (by kernel_rfl) ?_
       refine SL.yes rfl rfl hg_25 ?_
       refine SL.sim tk 1 [(1, vp 0 0), (3, vs 5), (4, vp 12 0), (6, vi .i64 x_20.2.2), (9, vi .i64 x_22.2.2), (11, vs 25), (12, vi .i64 x_24.2.2), (52, vb ((x_17 == 0) && ((len x_18.2) == 2))), (55, vs 28)] [] [] [] (by kernel_rfl) ?_
       refine SL.yes rfl rfl hg_25 ?_
       refine SL.sim tk 1 [(1, vp 0 0), (3, vs 5), (4, vp 12 0), (6, vi .i64 x_20.2.2), (9, vi .i64 x_22.2.2), (11, vs 25), (12, vi .i64 x_24.2.2), (52, vb ((x_17 == 0) && ((len x_18.2) == 2))), (56, vi .i64 (len x_41))] [] [] [] (by kernel_rfl) ?_
       refine SL.yes rfl rfl hg_25 ?_
       refine SL.sim tk 1 [(1, vp 0 0), (3, vs 5), (4, vp 12 0), (6, vi .i64 x_20.2.2), (9, vi .i64 x_22.2.2), (11, vs 25), (12, vi .i64 x_24.2.2), (52, vb ((x_17 == 0) && ((len x_18.2) == 2))), (57, vb ((len x_41) == 23))] [] [] [] (by kernel_rfl) ?_
       refine SL.pickt rfl hg_25 rfl rfl ?_
       refine SL.nilJ fun a w h => ?_
       obtain rfl := some_inv' hp
       exact h.at (js := [.g 0, .g 3, .g 4, .g 5, .g 12, .g 9, .g 10, .g 25]) (by kernel_rfl)
     · replace hp := if_f hp hg_25
       refine SL.no rfl rfl hg_25 rfl ?_
       refine SL.no rfl rfl hg_25 rfl ?_
       refine SL.no rfl rfl hg_25 rfl ?_
       refine SL.no rfl rfl hg_25 rfl ?_
       refine SL.no rfl rfl hg_25 rfl ?_
       refine SL.pickf rfl hg_25 rfl rfl ?_
       refine SL.nilJ fun a w h => ?_
       obtain rfl := some_inv' hp
       exact h.at (js := [.g 0, .g 3, .g 4, .g 5, .g 12, .g 9, .g 10, .g 25]) (by kernel_rfl)
   · intro a w h
     have hp := hpr; clear hpr hz
     refine h.goL ?_
     refine SL.sim tk 1 [(1, vp 0 0), (3, vs 3), (4, vp 4 0), (6, vi .i64 x_20.2.2), (9, vi .i64 x_22.2.2), (11, vs 7), (12, vi .i64 x_24.2.2), (59, vb z_26)] [] [] [] (by kernel_rfl) ?_
     obtain ⟨z_28, hz, hpr⟩ := bind_inv hp
     clear hp
     refine SL.cutAt 6 (fun a w => A 107 0 fx [(1, vp 0 0), (3, vs 3), (4, vp 4 0), (6, vi .i64 x_20.2.2), (9, vi .i64 x_22.2.2), (11, vs 7), (12, vi .i64 x_24.2.2), (65, vb z_28)] [.blk 26 (C_api_Channel x_18.1 (.s 1) (.s 2)), .rd 1 (RSl 1 R8) x_18.1.Out, .rd 1 R8 x_18.1.In, .rd 1 (RSl 1 R8) x_18.2, .blk 26 (C_api_Channel x_20.1 (.s 5) (.s 6)), .rd 1 (RSl 1 R8) x_20.1.Out, .rd 1 R8 x_20.1.In, .rd 1 (RSl 1 R8) x_24.2.1] a w) ?_ ?_
     · have hp := hz
       rcases Bool.eq_false_or_eq_true (z_26) with hg_27 | hg_27
       · replace hp := if_t hp hg_27
         refine SL.yes rfl rfl hg_27 ?_
         refine SL.sim tk 1 [(1, vp 0 0), (3, vs 3), (4, vp 4 0), (6, vi .i64 x_20.2.2), (9, vi .i64 x_22.2.2), (11, vs 7), (12, vi .i64 x_24.2.2), (59, vb z_26), (60, vs 3)] [] [] [] (by kernel_rfl) ?_
         refine SL.yes rfl rfl hg_27 ?_
         obtain ⟨x_39, e_x_39, hp⟩ := bind_inv hp
         refine SL.pre (pre_ix (i := 3) (iv := 1) (sz := 1) (R := (RSl 1 R8)) (l := x_18.2) (by kernel_rfl) rfl e_x_39) ?_
         refine SL.sim tk 1 [(1, vp 0 0), (3, vs 3), (4, vp 4 0), (6, vi .i64 x_20.2.2), (9, vi .i64 x_22.2.2), (11, vs 7), (12, vi .i64 x_24.2.2), (59, vb z_26), (61, vp 8 0)] [] [.el 8] [1] (by kernel_rfl) ?_
         refine SL.yes rfl rfl hg_27 ?_
         refine SL.sim tk 1 [(1, vp 0 0), (3, vs 3), (4, vp 4 0), (6, vi .i64 x_20.2.2), (9, vi .i64 x_22.2.2), (11, vs 7), (12, vi .i64 x_24.2.2), (59, vb z_26), (62, vs 9)] [] [] [] (by kernel_rfl) ?_
         refine SL.yes rfl rfl hg_27 ?_
         refine SL.sim tk 1 [(1, vp 0 0), (3, vs 3), (4, vp 4 0), (6, vi .i64 x_20.2.2), (9, vi .i64 x_22.2.2), (11, vs 7), (12, vi .i64 x_24.2.2), (59, vb z_26), (63, vi .i64 (len x_39))] [] [] [] (by kernel_rfl) ?_
         refine SL.yes rfl rfl hg_27 ?_
         refine SL.sim tk 1 [(1, vp 0 0), (3, vs 3), (4, vp 4 0), (6, vi .i64 x_20.2.2), (9, vi .i64 x_22.2.2), (11, vs 7), (12, vi .i64 x_24.2.2), (59, vb z_26), (64, vb ((len x_39) == 9))] [] [] [] (by kernel_rfl) ?_
         refine SL.pickt rfl hg_27 rfl rfl ?_
         refine SL.nilJ fun a w h => ?_
         obtain rfl := some_inv' hp
         exact h.at (js := [.g 0, .g 1, .g 2, .g 3, .g 4, .g 5, .g 6, .g 7]) (by kernel_rfl)
       · replace hp := if_f hp hg_27
         refine SL.no rfl rfl hg_27 rfl ?_
         refine SL.no rfl rfl hg_27 rfl ?_
         refine SL.no rfl rfl hg_27 rfl ?_
         refine SL.no rfl rfl hg_27 rfl ?_
         refine SL.no rfl rfl hg_27 rfl ?_
         refine SL.pickf rfl hg_27 rfl rfl ?_
         refine SL.nilJ fun a w h => ?_
         obtain rfl := some_inv' hp
         exact h.at (js := [.g 0, .g 1, .g 2, .g 3, .g 4, .g 5, .g 6, .g 7]) (by kernel_rfl)
     · intro a w h
       have hp := hpr; clear hpr hz
       refine h.goL ?_
       refine SL.sim tk 1 [(1, vp 0 0), (3, vs 3), (4, vp 4 0), (6, vi .i64 x_20.2.2), (9, vi .i64 x_22.2.2), (11, vs 7), (12, vi .i64 x_24.2.2), (66, vb z_28)] [] [] [] (by kernel_rfl) ?_
       obtain ⟨z_30, hz, hpr⟩ := bind_inv hp
       clear hp
       refine SL.cutAt 7 (fun a w => A 107 0 fx [(1, vp 0 0), (4, vp 3 0), (6, vi .i64 x_20.2.2), (9, vi .i64 x_22.2.2), (11, vs 6), (12, vi .i64 x_24.2.2), (73, vb z_30)] [.blk 26 (C_api_Channel x_18.1 (.s 1) (.s 2)), .rd 1 (RSl 1 R8) x_18.1.Out, .rd 1 R8 x_18.1.In, .blk 26 (C_api_Channel x_20.1 (.s 4) (.s 5)), .rd 1 (RSl 1 R8) x_20.1.Out, .rd 1 R8 x_20.1.In, .rd 1 (RSl 1 R8) x_24.2.1] a w) ?_ ?_
       · have hp := hz
         rcases Bool.eq_false_or_eq_true (z_28) with hg_29 | hg_29
         · replace hp := if_t hp hg_29
           refine SL.yes rfl rfl hg_29 ?_
           refine SL.sim tk 1 [(1, vp 0 0), (4, vp 4 0), (6, vi .i64 x_20.2.2), (9, vi .i64 x_22.2.2), (11, vs 7), (12, vi .i64 x_24.2.2), (66, vb z_28), (67, vs 3)] [] [] [] (by kernel_rfl) ?_
           refine SL.yes rfl rfl hg_29 ?_
           obtain ⟨x_36, e_x_36, hp⟩ := bind_inv hp
           refine SL.pre (pre_ix (i := 3) (iv := 0) (sz := 1) (R := (RSl 1 R8)) (l := x_18.2) (by kernel_rfl) rfl e_x_36) ?_
           refine SL.sim tk 1 [(1, vp 0 0), (4, vp 4 0), (6, vi .i64 x_20.2.2), (9, vi .i64 x_22.2.2), (11, vs 7), (12, vi .i64 x_24.2.2), (66, vb z_28), (68, vp 8 0)] [] [.el 8] [0] (by kernel_rfl) ?_
           refine SL.yes rfl rfl hg_29 ?_
           refine SL.sim tk 1 [(1, vp 0 0), (4, vp 4 0), (6, vi .i64 x_20.2.2), (9, vi .i64 x_22.2.2), (11, vs 7), (12, vi .i64 x_24.2.2), (66, vb z_28), (69, vs 9)] [] [] [] (by kernel_rfl) ?_
           refine SL.yes rfl rfl hg_29 ?_
           obtain ⟨x_37, e_x_37, hp⟩ := bind_inv hp
           refine SL.pre (pre_ix (i := 9) (iv := 0) (sz := 1) (R := R8) (l := x_36) (by kernel_rfl) rfl e_x_37) ?_
           refine SL.sim tk 1 [(1, vp 0 0), (4, vp 4 0), (6, vi .i64 x_20.2.2), (9, vi .i64 x_22.2.2), (11, vs 7), (12, vi .i64 x_24.2.2), (66, vb z_28), (70, vp 10 0)] [] [.el 10] [0] (by kernel_rfl) ?_
           refine SL.yes rfl rfl hg_29 ?_
           refine SL.sim tk 1 [(1, vp 0 0), (4, vp 4 0), (6, vi .i64 x_20.2.2), (9, vi .i64 x_22.2.2), (11, vs 7), (12, vi .i64 x_24.2.2), (66, vb z_28), (71, vi .u8 x_37)] [] [] [] (by kernel_rfl) ?_
           refine SL.yes rfl rfl hg_29 ?_
           refine SL.sim tk 1 [(1, vp 0 0), (4, vp 4 0), (6, vi .i64 x_20.2.2), (9, vi .i64 x_22.2.2), (11, vs 7), (12, vi .i64 x_24.2.2), (66, vb z_28), (72, vb (x_37 == 30))] [] [] [] (by kernel_rfl) ?_
           refine SL.pickt rfl hg_29 rfl rfl ?_
           refine SL.nilJ fun a w h => ?_
           obtain rfl := some_inv' hp
           exact h.at (js := [.g 0, .g 1, .g 2, .g 4, .g 5, .g 6, .g 7]) (by kernel_rfl)
         · replace hp := if_f hp hg_29
           refine SL.no rfl rfl hg_29 rfl ?_
           refine SL.no rfl rfl hg_29 rfl ?_
           refine SL.no rfl rfl hg_29 rfl ?_
           refine SL.no rfl rfl hg_29 rfl ?_
           refine SL.no rfl rfl hg_29 rfl ?_
           refine SL.no rfl rfl hg_29 rfl ?_
           refine SL.pickf rfl hg_29 rfl rfl ?_
           refine SL.nilJ fun a w h => ?_
           obtain rfl := some_inv' hp
           exact h.at (js := [.g 0, .g 1, .g 2, .g 4, .g 5, .g 6, .g 7]) (by kernel_rfl)
       · intro a w h
         have hp := hpr; clear hpr hz
         refine h.goL ?_
         refine SL.sim tk 27 [(11, vs 6), (100, vb ((((((z_30 && (x_18.1.TxCredits == 3)) && (x_20.2.2 == 19)) && x_20.1.Failed) && (x_22.2.2 == 3)) && (x_24.2.2 == 0)) && ((len x_24.2.1) == 1)))] [] [] [] (by kernel_rfl) ?_
         obtain ⟨z_32, hz, hpr⟩ := bind_inv hp
         clear hp
         refine SL.cutAt 6 (fun a w => A 107 0 fx [(106, vb z_32)] [] a w) ?_ ?_
         · have hp := hz
           rcases Bool.eq_false_or_eq_true (((((((z_30 && (x_18.1.TxCredits == 3)) && (x_20.2.2 == 19)) && x_20.1.Failed) && (x_22.2.2 == 3)) && (x_24.2.2 == 0)) && ((len x_24.2.1) == 1))) with hg_31 | hg_31
           · replace hp := if_t hp hg_31
             refine SL.yes rfl rfl hg_31 ?_
             refine SL.sim tk 1 [(100, vb ((((((z_30 && (x_18.1.TxCredits == 3)) && (x_20.2.2 == 19)) && x_20.1.Failed) && (x_22.2.2 == 3)) && (x_24.2.2 == 0)) && ((len x_24.2.1) == 1))), (101, vs 6)] [] [] [] (by kernel_rfl) ?_
             refine SL.yes rfl rfl hg_31 ?_
             obtain ⟨x_34, e_x_34, hp⟩ := bind_inv hp
             refine SL.pre (pre_ix (i := 6) (iv := 0) (sz := 1) (R := (RSl 1 R8)) (l := x_24.2.1) (by kernel_rfl) rfl e_x_34) ?_
             refine SL.sim tk 1 [(100, vb ((((((z_30 && (x_18.1.TxCredits == 3)) && (x_20.2.2 == 19)) && x_20.1.Failed) && (x_22.2.2 == 3)) && (x_24.2.2 == 0)) && ((len x_24.2.1) == 1))), (102, vp 7 0)] [] [.el 7] [0] (by kernel_rfl) ?_
             refine SL.yes rfl rfl hg_31 ?_
             refine SL.sim tk 1 [(100, vb ((((((z_30 && (x_18.1.TxCredits == 3)) && (x_20.2.2 == 19)) && x_20.1.Failed) && (x_22.2.2 == 3)) && (x_24.2.2 == 0)) && ((len x_24.2.1) == 1))), (103, vs 8)] [] [] [] (by kernel_rfl) ?_
             refine SL.yes rfl rfl hg_31 ?_
             refine SL.sim tk 1 [(100, vb ((((((z_30 && (x_18.1.TxCredits == 3)) && (x_20.2.2 == 19)) && x_20.1.Failed) && (x_22.2.2 == 3)) && (x_24.2.2 == 0)) && ((len x_24.2.1) == 1))), (104, vi .i64 (len x_34))] [] [] [] (by kernel_rfl) ?_
             refine SL.yes rfl rfl hg_31 ?_
             refine SL.sim tk 1 [(100, vb ((((((z_30 && (x_18.1.TxCredits == 3)) && (x_20.2.2 == 19)) && x_20.1.Failed) && (x_22.2.2 == 3)) && (x_24.2.2 == 0)) && ((len x_24.2.1) == 1))), (105, vb ((len x_34) == 0))] [] [] [] (by kernel_rfl) ?_
             refine SL.pickt rfl hg_31 rfl rfl ?_
             refine SL.nilJ fun a w h => ?_
             obtain rfl := some_inv' hp
             exact h.at (js := []) (by kernel_rfl)
           · replace hp := if_f hp hg_31
             refine SL.no rfl rfl hg_31 rfl ?_
             refine SL.no rfl rfl hg_31 rfl ?_
             refine SL.no rfl rfl hg_31 rfl ?_
             refine SL.no rfl rfl hg_31 rfl ?_
             refine SL.no rfl rfl hg_31 rfl ?_
             refine SL.pickf rfl hg_31 rfl rfl ?_
             refine SL.nilJ fun a w h => ?_
             obtain rfl := some_inv' hp
             exact h.at (js := []) (by kernel_rfl)
         · intro a w h
           have hp := hpr; clear hpr hz
           refine h.goL ?_
           refine SL.sim tk 1 [(0, vb z_32)] [] [] [] (by kernel_rfl) ?_
           refine SL.nilThen ?_
           obtain rfl := some_inv' hp
           exact SC.re (js := []) tk (by kernel_rfl)

theorem ok_wirelessref33_isCID (F : Nat) (n_1 : Int) (r : Bool) (hp : wirelessref33_isCID F n_1 = some r) : Spec Try.prog 29 [vi .u16 n_1] [] (vb r) [] := by
 refine Spec.enter Try.func29 rfl Try.ntmps29 rfl rfl fun fx => ?_
 refine SC.r tk [(0, vi .u16 n_1)] [] [] [] (by kernel_rfl) ?_
 refine SC.r tk [(2, vb ((decide (n_1 ≥ 64)) && (decide (n_1 ≤ 127))))] [] [] [] (by kernel_rfl) ?_
 obtain rfl := some_inv' hp
 exact SC.re (js := []) tk (by kernel_rfl)

theorem ok_wirelessref33_isSize (F : Nat) (n_1 : Int) (r : Bool) (hp : wirelessref33_isSize F n_1 = some r) : Spec Try.prog 30 [vi .i64 n_1] [] (vb r) [] := by
 refine Spec.enter Try.func30 rfl Try.ntmps30 rfl rfl fun fx => ?_
 refine SC.r tk [(0, vi .i64 n_1)] [] [] [] (by kernel_rfl) ?_
 refine SC.r tk [(2, vb ((decide (n_1 ≥ 23)) && (decide (n_1 ≤ 4096))))] [] [] [] (by kernel_rfl) ?_
 obtain rfl := some_inv' hp
 exact SC.re (js := []) tk (by kernel_rfl)

theorem ok_wirelessref33_isCount (F : Nat) (n_1 : Int) (r : Bool) (hp : wirelessref33_isCount F n_1 = some r) : Spec Try.prog 31 [vi .i64 n_1] [] (vb r) [] := by
 refine Spec.enter Try.func31 rfl Try.ntmps31 rfl rfl fun fx => ?_
 refine SC.r tk [(0, vi .i64 n_1)] [] [] [] (by kernel_rfl) ?_
 refine SC.r tk [(2, vb ((decide (n_1 ≥ 0)) && (decide (n_1 ≤ 65535))))] [] [] [] (by kernel_rfl) ?_
 obtain rfl := some_inv' hp
 exact SC.re (js := []) tk (by kernel_rfl)

theorem ok_wirelessref33_Check (F : Nat) (c_1 : T_api_Channel) (r : Int) (hp : wirelessref33_Check F c_1 = some r) : Spec Try.prog 10 [.g (C_api_Channel c_1 (.s 0) (.s 1))] [.rd 1 (RSl 1 R8) c_1.Out, .rd 1 R8 c_1.In] (vi .i64 r) [.gone, .gone] := by
 refine Spec.enter Try.func10 rfl Try.ntmps10 rfl rfl fun fx => ?_
 refine SC.seq ?_
 refine SC.reg ?_
 refine SL.eff (e_box (E := 26) (C_api_Channel c_1 (.s 0) (.s 1)) (by kernel_rfl)) rfl (by kernel_rfl) ?_
 refine SL.sim tk 1 [(1, vp 2 0)] [] [] [] (by kernel_rfl) ?_
 refine SL.nilThen ?_
 refine SC.seq ?_
 refine SC.seq ?_
 refine SC.reg ?_
 refine SL.sim tk 2 [(1, vp 2 0), (6, vi .u16 c_1.Local)] [] [] [] (by kernel_rfl) ?_
 obtain ⟨x_2, e_x_2, hp⟩ := bind_inv hp
 refine SL.eff (e_c Try.call29 (ok_wirelessref33_isCID F c_1.Local _ e_x_2) [] [vi .u16 c_1.Local] (vb x_2) (by kernel_rfl) (.inl rfl)) rfl (by kernel_rfl) ?_
 refine SL.sim tk 2 [(1, vp 2 0), (9, vb (!x_2))] [] [] [] (by kernel_rfl) ?_
 obtain ⟨z_4, hz, hpr⟩ := bind_inv hp
 clear hp
 refine SL.cutAt 5 (fun a w => A 131 2 fx [(1, vp 2 0), (14, vb z_4)] [.rd 1 (RSl 1 R8) c_1.Out, .rd 1 R8 c_1.In, .blk 26 (C_api_Channel c_1 (.s 0) (.s 1))] a w) ?_ ?_
 · have hp := hz
   rcases Bool.eq_false_or_eq_true ((!x_2)) with hg_3 | hg_3
   · replace hp := if_t hp hg_3
     refine SL.no rfl rfl hg_3 rfl ?_
     refine SL.no rfl rfl hg_3 rfl ?_
     refine SL.no rfl rfl hg_3 rfl ?_
     refine SL.no rfl rfl hg_3 rfl ?_
     refine SL.pickt rfl hg_3 rfl rfl ?_
     refine SL.nilJ fun a w h => ?_
     obtain rfl := some_inv' hp
     exact h.at (js := [.g 0, .g 1, .g 2]) (by kernel_rfl)
   · replace hp := if_f hp hg_3
     refine SL.yes rfl rfl hg_3 ?_
     refine SL.sim tk 1 [(1, vp 2 0), (9, vb (!x_2)), (10, vp 2 1)] [] [] [] (by kernel_rfl) ?_
     refine SL.yes rfl rfl hg_3 ?_
     refine SL.sim tk 1 [(1, vp 2 0), (9, vb (!x_2)), (11, vi .u16 c_1.Remote)] [] [] [] (by kernel_rfl) ?_
     refine SL.yes rfl rfl hg_3 ?_
     obtain ⟨x_38, e_x_38, hp⟩ := bind_inv hp
     refine SL.eff (e_c Try.call29 (ok_wirelessref33_isCID F c_1.Remote _ e_x_38) [] [vi .u16 c_1.Remote] (vb x_38) (by kernel_rfl) (.inl rfl)) rfl (by kernel_rfl) ?_
     refine SL.norm (itsN := [.rd 1 (RSl 1 R8) c_1.Out, .rd 1 R8 c_1.In, .blk 26 (C_api_Channel c_1 (.s 0) (.s 1))]) (by kernel_rfl) ?_
     refine SL.yes rfl rfl hg_3 ?_
     refine SL.sim tk 1 [(1, vp 2 0), (9, vb (!x_2)), (13, vb (!x_38))] [] [] [] (by kernel_rfl) ?_
     refine SL.pickf rfl hg_3 rfl rfl ?_
     refine SL.nilJ fun a w h => ?_
     obtain rfl := some_inv' hp
     exact h.at (js := [.g 0, .g 1, .g 2]) (by kernel_rfl)
 · intro a w h
   have hp := hpr; clear hpr hz
   refine h.goL ?_
   refine SL.nilThen ?_
   refine SC.if' rfl hp (fun hp => ?_) (fun hp => ?_)
   · refine SC.r tk [(2, vi .i64 5)] [] [] [] (by kernel_rfl) ?_
     obtain rfl := some_inv' hp
     exact SC.re (js := [.g 0, .g 1]) tk (by kernel_rfl)
   · refine SC.skipThen ?_
     refine SC.seq ?_
     refine SC.r tk [(1, vp 2 0), (17, vb (c_1.PSM == 0))] [] [] [] (by kernel_rfl) ?_
     refine SC.if' rfl hp (fun hp => ?_) (fun hp => ?_)
     · refine SC.r tk [(2, vi .i64 1)] [] [] [] (by kernel_rfl) ?_
       obtain rfl := some_inv' hp
       exact SC.re (js := [.g 0, .g 1]) tk (by kernel_rfl)
     · refine SC.skipThen ?_
       refine SC.seq ?_
       refine SC.seq ?_
       refine SC.reg ?_
       refine SL.sim tk 2 [(1, vp 2 0), (19, vi .i64 c_1.MTU)] [] [] [] (by kernel_rfl) ?_
       obtain ⟨x_5, e_x_5, hp⟩ := bind_inv hp
       refine SL.eff (e_c Try.call30 (ok_wirelessref33_isSize F c_1.MTU _ e_x_5) [] [vi .i64 c_1.MTU] (vb x_5) (by kernel_rfl) (.inl rfl)) rfl (by kernel_rfl) ?_
       refine SL.sim tk 2 [(1, vp 2 0), (22, vb (!x_5))] [] [] [] (by kernel_rfl) ?_
       obtain ⟨z_7, hz, hpr⟩ := bind_inv hp
       clear hp
       refine SL.cutAt 5 (fun a w => A 131 2 fx [(1, vp 2 0), (27, vb z_7)] [.rd 1 (RSl 1 R8) c_1.Out, .rd 1 R8 c_1.In, .blk 26 (C_api_Channel c_1 (.s 0) (.s 1))] a w) ?_ ?_
       · have hp := hz
         rcases Bool.eq_false_or_eq_true ((!x_5)) with hg_6 | hg_6
         · replace hp := if_t hp hg_6
           refine SL.no rfl rfl hg_6 rfl ?_
           refine SL.no rfl rfl hg_6 rfl ?_
           refine SL.no rfl rfl hg_6 rfl ?_
           refine SL.no rfl rfl hg_6 rfl ?_
           refine SL.pickt rfl hg_6 rfl rfl ?_
           refine SL.nilJ fun a w h => ?_
           obtain rfl := some_inv' hp
           exact h.at (js := [.g 0, .g 1, .g 2]) (by kernel_rfl)
         · replace hp := if_f hp hg_6
           refine SL.yes rfl rfl hg_6 ?_
           refine SL.sim tk 1 [(1, vp 2 0), (22, vb (!x_5)), (23, vp 2 4)] [] [] [] (by kernel_rfl) ?_
           refine SL.yes rfl rfl hg_6 ?_
           refine SL.sim tk 1 [(1, vp 2 0), (22, vb (!x_5)), (24, vi .i64 c_1.MPS)] [] [] [] (by kernel_rfl) ?_
           refine SL.yes rfl rfl hg_6 ?_
           obtain ⟨x_36, e_x_36, hp⟩ := bind_inv hp
           refine SL.eff (e_c Try.call30 (ok_wirelessref33_isSize F c_1.MPS _ e_x_36) [] [vi .i64 c_1.MPS] (vb x_36) (by kernel_rfl) (.inl rfl)) rfl (by kernel_rfl) ?_
           refine SL.norm (itsN := [.rd 1 (RSl 1 R8) c_1.Out, .rd 1 R8 c_1.In, .blk 26 (C_api_Channel c_1 (.s 0) (.s 1))]) (by kernel_rfl) ?_
           refine SL.yes rfl rfl hg_6 ?_
           refine SL.sim tk 1 [(1, vp 2 0), (22, vb (!x_5)), (26, vb (!x_36))] [] [] [] (by kernel_rfl) ?_
           refine SL.pickf rfl hg_6 rfl rfl ?_
           refine SL.nilJ fun a w h => ?_
           obtain rfl := some_inv' hp
           exact h.at (js := [.g 0, .g 1, .g 2]) (by kernel_rfl)
       · intro a w h
         have hp := hpr; clear hpr hz
         refine h.goL ?_
         refine SL.sim tk 1 [(1, vp 2 0), (28, vb z_7)] [] [] [] (by kernel_rfl) ?_
         obtain ⟨z_9, hz, hpr⟩ := bind_inv hp
         clear hp
         refine SL.cutAt 5 (fun a w => A 131 2 fx [(1, vp 2 0), (33, vb z_9)] [.rd 1 (RSl 1 R8) c_1.Out, .rd 1 R8 c_1.In, .blk 26 (C_api_Channel c_1 (.s 0) (.s 1))] a w) ?_ ?_
         · have hp := hz
           rcases Bool.eq_false_or_eq_true (z_7) with hg_8 | hg_8
           · replace hp := if_t hp hg_8
             refine SL.no rfl rfl hg_8 rfl ?_
             refine SL.no rfl rfl hg_8 rfl ?_
             refine SL.no rfl rfl hg_8 rfl ?_
             refine SL.no rfl rfl hg_8 rfl ?_
             refine SL.pickt rfl hg_8 rfl rfl ?_
             refine SL.nilJ fun a w h => ?_
             obtain rfl := some_inv' hp
             exact h.at (js := [.g 0, .g 1, .g 2]) (by kernel_rfl)
           · replace hp := if_f hp hg_8
             refine SL.yes rfl rfl hg_8 ?_
             refine SL.sim tk 1 [(1, vp 2 0), (28, vb z_7), (29, vp 2 5)] [] [] [] (by kernel_rfl) ?_
             refine SL.yes rfl rfl hg_8 ?_
             refine SL.sim tk 1 [(1, vp 2 0), (28, vb z_7), (30, vi .i64 c_1.PeerMTU)] [] [] [] (by kernel_rfl) ?_
             refine SL.yes rfl rfl hg_8 ?_
             obtain ⟨x_34, e_x_34, hp⟩ := bind_inv hp
             refine SL.eff (e_c Try.call30 (ok_wirelessref33_isSize F c_1.PeerMTU _ e_x_34) [] [vi .i64 c_1.PeerMTU] (vb x_34) (by kernel_rfl) (.inl rfl)) rfl (by kernel_rfl) ?_
             refine SL.yes rfl rfl hg_8 ?_
             refine SL.sim tk 1 [(1, vp 2 0), (28, vb z_7), (32, vb (!x_34))] [] [] [] (by kernel_rfl) ?_
             refine SL.pickf rfl hg_8 rfl rfl ?_
             refine SL.nilJ fun a w h => ?_
             obtain rfl := some_inv' hp
             exact h.at (js := [.g 0, .g 1, .g 2]) (by kernel_rfl)
         · intro a w h
           have hp := hpr; clear hpr hz
           refine h.goL ?_
           refine SL.sim tk 1 [(1, vp 2 0), (34, vb z_9)] [] [] [] (by kernel_rfl) ?_
           obtain ⟨z_11, hz, hpr⟩ := bind_inv hp
           clear hp
           refine SL.cutAt 5 (fun a w => A 131 2 fx [(1, vp 2 0), (39, vb z_11)] [.rd 1 (RSl 1 R8) c_1.Out, .rd 1 R8 c_1.In, .blk 26 (C_api_Channel c_1 (.s 0) (.s 1))] a w) ?_ ?_
           · have hp := hz
             rcases Bool.eq_false_or_eq_true (z_9) with hg_10 | hg_10
             · replace hp := if_t hp hg_10
               refine SL.no rfl rfl hg_10 rfl ?_
               refine SL.no rfl rfl hg_10 rfl ?_
               refine SL.no rfl rfl hg_10 rfl ?_
               refine SL.no rfl rfl hg_10 rfl ?_
               refine SL.pickt rfl hg_10 rfl rfl ?_
               refine SL.nilJ fun a w h => ?_
               obtain rfl := some_inv' hp
               exact h.at (js := [.g 0, .g 1, .g 2]) (by kernel_rfl)
             · replace hp := if_f hp hg_10
               refine SL.yes rfl rfl hg_10 ?_
               refine SL.sim tk 1 [(1, vp 2 0), (34, vb z_9), (35, vp 2 6)] [] [] [] (by kernel_rfl) ?_
               refine SL.yes rfl rfl hg_10 ?_
               refine SL.sim tk 1 [(1, vp 2 0), (34, vb z_9), (36, vi .i64 c_1.PeerMPS)] [] [] [] (by kernel_rfl) ?_
               refine SL.yes rfl rfl hg_10 ?_
               obtain ⟨x_32, e_x_32, hp⟩ := bind_inv hp
               refine SL.eff (e_c Try.call30 (ok_wirelessref33_isSize F c_1.PeerMPS _ e_x_32) [] [vi .i64 c_1.PeerMPS] (vb x_32) (by kernel_rfl) (.inl rfl)) rfl (by kernel_rfl) ?_
               refine SL.yes rfl rfl hg_10 ?_
               refine SL.sim tk 1 [(1, vp 2 0), (34, vb z_9), (38, vb (!x_32))] [] [] [] (by kernel_rfl) ?_
               refine SL.pickf rfl hg_10 rfl rfl ?_
               refine SL.nilJ fun a w h => ?_
               obtain rfl := some_inv' hp
               exact h.at (js := [.g 0, .g 1, .g 2]) (by kernel_rfl)
           · intro a w h
             have hp := hpr; clear hpr hz
             refine h.goL ?_
             refine SL.sim tk 1 [(1, vp 2 0), (40, vb z_11)] [] [] [] (by kernel_rfl) ?_
             obtain ⟨z_13, hz, hpr⟩ := bind_inv hp
             clear hp
             refine SL.cutAt 5 (fun a w => A 131 2 fx [(1, vp 2 0), (45, vb z_13)] [.rd 1 (RSl 1 R8) c_1.Out, .rd 1 R8 c_1.In, .blk 26 (C_api_Channel c_1 (.s 0) (.s 1))] a w) ?_ ?_
             · have hp := hz
               rcases Bool.eq_false_or_eq_true (z_11) with hg_12 | hg_12
               · replace hp := if_t hp hg_12
                 refine SL.no rfl rfl hg_12 rfl ?_
                 refine SL.no rfl rfl hg_12 rfl ?_
                 refine SL.no rfl rfl hg_12 rfl ?_
                 refine SL.no rfl rfl hg_12 rfl ?_
                 refine SL.pickt rfl hg_12 rfl rfl ?_
                 refine SL.nilJ fun a w h => ?_
                 obtain rfl := some_inv' hp
                 exact h.at (js := [.g 0, .g 1, .g 2]) (by kernel_rfl)
               · replace hp := if_f hp hg_12
                 refine SL.yes rfl rfl hg_12 ?_
                 refine SL.sim tk 1 [(1, vp 2 0), (40, vb z_11), (41, vp 2 7)] [] [] [] (by kernel_rfl) ?_
                 refine SL.yes rfl rfl hg_12 ?_
                 refine SL.sim tk 1 [(1, vp 2 0), (40, vb z_11), (42, vi .i64 c_1.TxCredits)] [] [] [] (by kernel_rfl) ?_
                 refine SL.yes rfl rfl hg_12 ?_
                 obtain ⟨x_30, e_x_30, hp⟩ := bind_inv hp
                 refine SL.eff (e_c Try.call31 (ok_wirelessref33_isCount F c_1.TxCredits _ e_x_30) [] [vi .i64 c_1.TxCredits] (vb x_30) (by kernel_rfl) (.inl rfl)) rfl (by kernel_rfl) ?_
                 refine SL.yes rfl rfl hg_12 ?_
                 refine SL.sim tk 1 [(1, vp 2 0), (40, vb z_11), (44, vb (!x_30))] [] [] [] (by kernel_rfl) ?_
                 refine SL.pickf rfl hg_12 rfl rfl ?_
                 refine SL.nilJ fun a w h => ?_
                 obtain rfl := some_inv' hp
                 exact h.at (js := [.g 0, .g 1, .g 2]) (by kernel_rfl)
             · intro a w h
               have hp := hpr; clear hpr hz
               refine h.goL ?_
               refine SL.sim tk 1 [(1, vp 2 0), (46, vb z_13)] [] [] [] (by kernel_rfl) ?_
               obtain ⟨z_15, hz, hpr⟩ := bind_inv hp
               clear hp
               refine SL.cutAt 5 (fun a w => A 131 2 fx [(1, vp 2 0), (51, vb z_15)] [.rd 1 (RSl 1 R8) c_1.Out, .rd 1 R8 c_1.In, .blk 26 (C_api_Channel c_1 (.s 0) (.s 1))] a w) ?_ ?_
               · have hp := hz
                 rcases Bool.eq_false_or_eq_true (z_13) with hg_14 | hg_14
                 · replace hp := if_t hp hg_14
                   refine SL.no rfl rfl hg_14 rfl ?_
                   refine SL.no rfl rfl hg_14 rfl ?_
                   refine SL.no rfl rfl hg_14 rfl ?_
                   refine SL.no rfl rfl hg_14 rfl ?_
                   refine SL.pickt rfl hg_14 rfl rfl ?_
                   refine SL.nilJ fun a w h => ?_
                   obtain rfl := some_inv' hp
                   exact h.at (js := [.g 0, .g 1, .g 2]) (by kernel_rfl)
                 · replace hp := if_f hp hg_14
                   refine SL.yes rfl rfl hg_14 ?_
                   refine SL.sim tk 1 [(1, vp 2 0), (46, vb z_13), (47, vp 2 8)] [] [] [] (by kernel_rfl) ?_
                   refine SL.yes rfl rfl hg_14 ?_
                   refine SL.sim tk 1 [(1, vp 2 0), (46, vb z_13), (48, vi .i64 c_1.RxCredits)] [] [] [] (by kernel_rfl) ?_
                   refine SL.yes rfl rfl hg_14 ?_
                   obtain ⟨x_28, e_x_28, hp⟩ := bind_inv hp
                   refine SL.eff (e_c Try.call31 (ok_wirelessref33_isCount F c_1.RxCredits _ e_x_28) [] [vi .i64 c_1.RxCredits] (vb x_28) (by kernel_rfl) (.inl rfl)) rfl (by kernel_rfl) ?_
                   refine SL.yes rfl rfl hg_14 ?_
                   refine SL.sim tk 1 [(1, vp 2 0), (46, vb z_13), (50, vb (!x_28))] [] [] [] (by kernel_rfl) ?_
                   refine SL.pickf rfl hg_14 rfl rfl ?_
                   refine SL.nilJ fun a w h => ?_
                   obtain rfl := some_inv' hp
                   exact h.at (js := [.g 0, .g 1, .g 2]) (by kernel_rfl)
               · intro a w h
                 have hp := hpr; clear hpr hz
                 refine h.goL ?_
                 refine SL.sim tk 1 [(1, vp 2 0), (52, vb z_15)] [] [] [] (by kernel_rfl) ?_
                 obtain ⟨z_17, hz, hpr⟩ := bind_inv hp
                 clear hp
                 refine SL.cutAt 5 (fun a w => A 131 2 fx [(1, vp 2 0), (57, vb z_17)] [.rd 1 (RSl 1 R8) c_1.Out, .rd 1 R8 c_1.In, .blk 26 (C_api_Channel c_1 (.s 0) (.s 1))] a w) ?_ ?_
                 · have hp := hz
                   rcases Bool.eq_false_or_eq_true (z_15) with hg_16 | hg_16
                   · replace hp := if_t hp hg_16
                     refine SL.no rfl rfl hg_16 rfl ?_
                     refine SL.no rfl rfl hg_16 rfl ?_
                     refine SL.no rfl rfl hg_16 rfl ?_
                     refine SL.no rfl rfl hg_16 rfl ?_
                     refine SL.pickt rfl hg_16 rfl rfl ?_
                     refine SL.nilJ fun a w h => ?_
                     obtain rfl := some_inv' hp
                     exact h.at (js := [.g 0, .g 1, .g 2]) (by kernel_rfl)
                   · replace hp := if_f hp hg_16
                     refine SL.yes rfl rfl hg_16 ?_
                     refine SL.sim tk 1 [(1, vp 2 0), (52, vb z_15), (53, vp 2 9)] [] [] [] (by kernel_rfl) ?_
                     refine SL.yes rfl rfl hg_16 ?_
                     refine SL.sim tk 1 [(1, vp 2 0), (52, vb z_15), (54, vi .i64 c_1.Given)] [] [] [] (by kernel_rfl) ?_
                     refine SL.yes rfl rfl hg_16 ?_
                     obtain ⟨x_26, e_x_26, hp⟩ := bind_inv hp
                     refine SL.eff (e_c Try.call31 (ok_wirelessref33_isCount F c_1.Given _ e_x_26) [] [vi .i64 c_1.Given] (vb x_26) (by kernel_rfl) (.inl rfl)) rfl (by kernel_rfl) ?_
                     refine SL.yes rfl rfl hg_16 ?_
                     refine SL.sim tk 1 [(1, vp 2 0), (52, vb z_15), (56, vb (!x_26))] [] [] [] (by kernel_rfl) ?_
                     refine SL.pickf rfl hg_16 rfl rfl ?_
                     refine SL.nilJ fun a w h => ?_
                     obtain rfl := some_inv' hp
                     exact h.at (js := [.g 0, .g 1, .g 2]) (by kernel_rfl)
                 · intro a w h
                   have hp := hpr; clear hpr hz
                   refine h.goL ?_
                   refine SL.nilThen ?_
                   refine SC.if' rfl hp (fun hp => ?_) (fun hp => ?_)
                   · refine SC.r tk [(2, vi .i64 5)] [] [] [] (by kernel_rfl) ?_
                     obtain rfl := some_inv' hp
                     exact SC.re (js := [.g 0, .g 1]) tk (by kernel_rfl)
                   · refine SC.skipThen ?_
                     refine SC.seq ?_
                     refine SC.r tk [(1, vp 2 0), (61, vb (decide ((len c_1.Out) > 64)))] [] [] [] (by kernel_rfl) ?_
                     refine SC.if' rfl hp (fun hp => ?_) (fun hp => ?_)
                     · refine SC.r tk [(2, vi .i64 4)] [] [] [] (by kernel_rfl) ?_
                       obtain rfl := some_inv' hp
                       exact SC.re (js := [.g 0, .g 1]) tk (by kernel_rfl)
                     · refine SC.skipThen ?_
                       refine SC.cut (fun a w => wirelessref33_Check_j1 F c_1 = some r ∧ A 131 2 fx [(1, vp 2 0)] [.rd 1 (RSl 1 R8) c_1.Out, .rd 1 R8 c_1.In, .blk 26 (C_api_Channel c_1 (.s 0) (.s 1))] a w) ?_ ?_
                       · refine SC.r tk [(1, vp 2 0), (3, vi .i64 0)] [] [] [] (by kernel_rfl) ?_
                         refine SC.block ?_
                         obtain ⟨o1, hi1, ho1⟩ := bind_inv hp
                         clear hp
                         refine SC.loop (fun n a w => ∃ (x_20 : Int), iter (fun s => wirelessref33_Check_l1 F c_1 s) n (x_20) = some o1 ∧ A 131 2 fx [(1, vp 2 0), (3, vi .i64 x_20)] [.rd 1 (RSl 1 R8) c_1.Out, .rd 1 R8 c_1.In, .blk 26 (C_api_Channel c_1 (.s 0) (.s 1))] a w) F (fun a w h => ⟨0, hi1, h.at (js := [.g 0, .g 1, .g 2]) (by kernel_rfl)⟩) ?_
                         rintro n1 a w ⟨x_20, hi1, h⟩
                         obtain ⟨n1, q1, rfl, hp, hs1⟩ := iter_inv hi1
                         replace hp : wirelessref33_Check_l1 F c_1 x_20 = some q1 := hp
                         clear hi1
                         refine h.go ?_
                         refine SC.seq ?_
                         refine SC.r tk [(1, vp 2 0), (3, vi .i64 x_20), (66, vb (decide (x_20 < (len c_1.Out))))] [] [] [] (by kernel_rfl) ?_
                         refine SC.if' rfl hp (fun hp => ?_) (fun hp => ?_)
                         · refine SC.skipThen ?_
                           refine SC.seq ?_
                           refine SC.block ?_
                           refine SC.cut (fun a w => ∃ (z_21 : Bool), wirelessref33_Check_j3 F x_20 z_21 = some q1 ∧ A 131 2 fx [(1, vp 2 0), (3, vi .i64 x_20), (77, vb z_21)] [.rd 1 (RSl 1 R8) c_1.Out, .rd 1 R8 c_1.In, .blk 26 (C_api_Channel c_1 (.s 0) (.s 1))] a w) ?_ ?_
                           · obtain ⟨x_22, e_x_22, hp⟩ := bind_inv hp
                             refine SC.pre (pre_ix (i := 0) (iv := x_20) (sz := 1) (R := (RSl 1 R8)) (l := c_1.Out) (by kernel_rfl) rfl e_x_22) ?_
                             refine SC.draw MO [true, true, true, true, true] (by kernel_rfl) fun kap_23 D_24 => ?_
                             refine SD.takes tk D_24 [] kn0 [0, 1, 2, 3, 4, 5, 6, 7, 8] [.el 3] [x_20] [I, I, I, I, I, I, I, I, I] [(1, vp 2 0), (3, vi .i64 x_20), (77, vb (decide ((len x_22) > c_1.PeerMTU)))] rfl (by kernel_rfl) (by kernel_rfl) (by kernel_rfl) ?_
                             refine SD.done (by kernel_rfl) fun a w h => ?_
                             exact ⟨decide ((len x_22) > c_1.PeerMTU), hp, h.at (js := [.g 0, .g 1, .g 2]) (by kernel_rfl)⟩
                           · rintro a w ⟨z_21, hp, h⟩
                             refine h.go ?_
                             refine SC.if' rfl hp (fun hp => ?_) (fun hp => ?_)
                             · refine SC.r tk [(2, vi .i64 4)] [] [] [] (by kernel_rfl) ?_
                               have ho := done_inv hp hs1
                               replace hp := ho1
                               try rw [ho] at hp
                               obtain rfl := some_inv' hp
                               exact SC.re (js := [.g 0, .g 1]) tk (by kernel_rfl)
                             · refine SC.skipThen ?_
                               refine SC.reg ?_
                               refine SL.sim tk 3 [(1, vp 2 0), (3, vi .i64 (w64 (x_20 + 1)))] [] [] [] (by kernel_rfl) ?_
                               refine SL.nilJ fun a w h => ?_
                               exact ⟨n1, Nat.lt_succ_self _, w64 (x_20 + 1), next_inv hp hs1, h.at (js := [.g 0, .g 1, .g 2]) (by kernel_rfl)⟩
                         · refine SC.exitJ rfl fun a w h => ?_
                           have ho := done_inv hp hs1
                           replace hp := ho1
                           try rw [ho] at hp
                           exact ⟨hp, h.at (js := [.g 0, .g 1, .g 2]) (by kernel_rfl)⟩
                       · rintro a w ⟨hp, h⟩
                         refine h.go ?_
                         refine SC.r tk [(1, vp 2 0), (4, vi .i64 0)] [] [] [] (by kernel_rfl) ?_
                         refine SC.cut (fun a w => ∃ (x_18 : Int), wirelessref33_Check_j2 F c_1 x_18 = some r ∧ A 131 2 fx [(1, vp 2 0), (4, vi .i64 x_18)] [.rd 1 (RSl 1 R8) c_1.Out, .rd 1 R8 c_1.In, .blk 26 (C_api_Channel c_1 (.s 0) (.s 1))] a w) ?_ ?_
                         · refine SC.r tk [(1, vp 2 0), (4, vi .i64 0), (81, vb (decide ((len c_1.Out) > 0)))] [] [] [] (by kernel_rfl) ?_
                           refine SC.if' rfl hp (fun hp => ?_) (fun hp => ?_)
                           · refine SC.reg ?_
                             obtain ⟨x_19, e_x_19, hp⟩ := bind_inv hp
                             refine SL.pre (pre_ix (i := 0) (iv := 0) (sz := 1) (R := (RSl 1 R8)) (l := c_1.Out) (by kernel_rfl) rfl e_x_19) ?_
                             refine SL.sim tk 7 [(1, vp 2 0), (4, vi .i64 (w64 (1 + (len x_19))))] [] [.el 3] [0] (by kernel_rfl) ?_
                             refine SL.nilJ fun a w h => ?_
                             exact ⟨w64 (1 + (len x_19)), hp, h.at (js := [.g 0, .g 1, .g 2]) (by kernel_rfl)⟩
                           · refine SC.skipJ fun a w h => ?_
                             exact ⟨0, hp, h.at (js := [.g 0, .g 1, .g 2]) (by kernel_rfl)⟩
                         · rintro a w ⟨x_18, hp, h⟩
                           refine h.go ?_
                           refine SC.seq ?_
                           refine SC.r tk [(1, vp 2 0), (108, vb ((((decide (c_1.Sent < 0)) || (decide (c_1.Sent > x_18))) || (decide (c_1.Want < (-1)))) || (decide (c_1.Want > c_1.MTU))))] [] [] [] (by kernel_rfl) ?_
                           refine SC.if' rfl hp (fun hp => ?_) (fun hp => ?_)
                           · refine SC.r tk [(2, vi .i64 1)] [] [] [] (by kernel_rfl) ?_
                             obtain rfl := some_inv' hp
                             exact SC.re (js := [.g 0, .g 1]) tk (by kernel_rfl)
                           · refine SC.skipThen ?_
                             refine SC.seq ?_
                             refine SC.r tk [(130, vb (((c_1.Want == (-1)) && (decide ((len c_1.In) > 0))) || ((decide (c_1.Want ≥ 0)) && (decide ((len c_1.In) ≥ c_1.Want)))))] [] [] [] (by kernel_rfl) ?_
                             refine SC.if' rfl hp (fun hp => ?_) (fun hp => ?_)
                             · refine SC.r tk [(2, vi .i64 1)] [] [] [] (by kernel_rfl) ?_
                               obtain rfl := some_inv' hp
                               exact SC.re (js := [.g 0, .g 1]) tk (by kernel_rfl)
                             · refine SC.skipThen ?_
                               refine SC.r tk [(2, vi .i64 0)] [] [] [] (by kernel_rfl) ?_
                               obtain rfl := some_inv' hp
                               exact SC.re (js := [.g 0, .g 1]) tk (by kernel_rfl)

theorem ok_sdu_more (F : Nat) (credits_1 : Int) (n_2 : Int) (r : Int) (hp : sdu_more F credits_1 n_2 = some r) : Spec Try.prog 40 [vi .i64 credits_1, vi .i64 n_2] [] (vi .i64 r) [] := by
 refine Spec.enter Try.func40 rfl Try.ntmps40 rfl rfl fun fx => ?_
 refine SC.r tk [(0, vi .i64 credits_1), (1, vi .i64 n_2)] [] [] [] (by kernel_rfl) ?_
 refine SC.seq ?_
 refine SC.block ?_
 refine SC.r tk [(0, vi .i64 credits_1), (1, vi .i64 n_2), (5, vb (decide (n_2 < 1)))] [] [] [] (by kernel_rfl) ?_
 refine SC.if' rfl hp (fun hp => ?_) (fun hp => ?_)
 · refine SC.r tk [(4, vi .i64 5)] [] [] [] (by kernel_rfl) ?_
   obtain rfl := some_inv' hp
   exact SC.re (js := []) tk (by kernel_rfl)
 · refine SC.r tk [(8, vb (decide (n_2 > (w64 (65535 - credits_1)))))] [] [] [] (by kernel_rfl) ?_
   refine SC.if' rfl hp (fun hp => ?_) (fun hp => ?_)
   · refine SC.r tk [(4, vi .i64 19)] [] [] [] (by kernel_rfl) ?_
     obtain rfl := some_inv' hp
     exact SC.re (js := []) tk (by kernel_rfl)
   · refine SC.skipThen ?_
     refine SC.r tk [(4, vi .i64 0)] [] [] [] (by kernel_rfl) ?_
     obtain rfl := some_inv' hp
     exact SC.re (js := []) tk (by kernel_rfl)

theorem ok_sdu_Grant (F : Nat) (c_1 : T_api_Channel) (n_2 : Int) (r : T_api_Channel × Int) (hp : sdu_Grant F c_1 n_2 = some r) : Spec Try.prog 22 [.g (C_api_Channel c_1 (.s 0) (.s 1)), vi .i64 n_2] [.rd 1 (RSl 1 R8) c_1.Out, .rd 1 R8 c_1.In] (.u [.inr (C_api_Channel (T_api_Channel.mk r.1.Local r.1.Remote r.1.PSM r.1.MTU r.1.MPS r.1.PeerMTU r.1.PeerMPS r.1.TxCredits r.1.RxCredits r.1.Given r.1.Out r.1.Sent r.1.In r.1.Want r.1.Failed) (.s 2) (.s 3)), .inl (ci .i64 r.2)]) [.gone, .gone, .rd 1 (RSl 1 R8) r.1.Out, .rd 1 R8 r.1.In] := by
 refine Spec.enter Try.func22 rfl Try.ntmps22 rfl rfl fun fx => ?_
 refine SC.seq ?_
 refine SC.reg ?_
 refine SL.eff (e_box (E := 26) (C_api_Channel c_1 (.s 0) (.s 1)) (by kernel_rfl)) rfl (by kernel_rfl) ?_
 refine SL.eff (e_alloc (E := 26) tk (C_api_Channel (T_api_Channel.mk 0 0 0 0 0 0 0 0 0 0 [] 0 [] 0 false) nl nl) (by kernel_rfl)) rfl (by kernel_rfl) ?_
 refine SL.sim tk 1 [(1, vi .i64 n_2), (2, vp 2 0), (4, vp 3 0)] [] [] [] (by kernel_rfl) ?_
 refine SL.nilThen ?_
 refine SC.seq ?_
 refine SC.reg ?_
 refine SL.sim tk 1 [(1, vi .i64 n_2), (2, vp 2 0), (4, vp 3 0), (7, .g (C_api_Channel c_1 (.s 0) (.s 1)))] [] [] [] (by kernel_rfl) ?_
 obtain ⟨x_3, e_x_3, hp⟩ := bind_inv hp
 refine SL.eff (e_c Try.call32 (ok_sdu_copied F c_1 _ e_x_3) [.g 0, .g 1] [.g (C_api_Channel c_1 (.s 0) (.s 1))] (.g (C_api_Channel x_3 (.s 4) (.s 5))) (by kernel_rfl) (.inl rfl)) rfl (by kernel_rfl) ?_
 refine SL.norm (itsN := [.rd 1 (RSl 1 R8) c_1.Out, .rd 1 R8 c_1.In, .blk 26 (C_api_Channel c_1 (.s 0) (.s 1)), .blk 26 (C_api_Channel (T_api_Channel.mk 0 0 0 0 0 0 0 0 0 0 [] 0 [] 0 false) nl nl), .own 1 24 (RSl 1 R8) x_3.Out, .rd 1 R8 x_3.In]) (by kernel_rfl) ?_
 refine SL.sim tk 1 [(1, vi .i64 n_2), (2, vp 2 0), (4, vp 3 0)] [(2, 26, (C_api_Channel x_3 (.s 4) (.s 5)))] [] [] (by kernel_rfl) ?_
 refine SL.nilThen ?_
 refine SC.seq ?_
 refine SC.r tk [(1, vi .i64 n_2), (2, vp 2 0), (4, vp 3 0), (10, vb x_3.Failed)] [] [] [] (by kernel_rfl) ?_
 refine SC.if' rfl hp (fun hp => ?_) (fun hp => ?_)
 · refine SC.r tk [(4, vp 3 0), (5, vi .i64 9)] [(3, 26, (C_api_Channel x_3 (.s 4) (.s 5)))] [] [] (by kernel_rfl) ?_
   obtain rfl := some_inv' hp
   exact SC.re (js := [.g 0, .g 1, .z 4, .g 5]) tk (by kernel_rfl)
 · refine SC.skipThen ?_
   refine SC.seq ?_
   refine SC.reg ?_
   refine SL.sim tk 3 [(1, vi .i64 n_2), (2, vp 2 0), (4, vp 3 0), (13, vi .i64 x_3.RxCredits), (14, vi .i64 n_2)] [] [] [] (by kernel_rfl) ?_
   obtain ⟨x_4, e_x_4, hp⟩ := bind_inv hp
   refine SL.eff (e_c Try.call40 (ok_sdu_more F x_3.RxCredits n_2 _ e_x_4) [] [vi .i64 x_3.RxCredits, vi .i64 n_2] (vi .i64 x_4) (by kernel_rfl) (.inl rfl)) rfl (by kernel_rfl) ?_
   refine SL.sim tk 1 [(1, vi .i64 n_2), (2, vp 2 0), (4, vp 3 0), (6, vi .i64 x_4)] [] [] [] (by kernel_rfl) ?_
   refine SL.nilThen ?_
   refine SC.cut (fun a w => ∃ (x_5 : Int), sdu_Grant_j1 F x_3 x_4 x_5 = some r ∧ A 25 2 fx [(2, vp 2 0), (4, vp 5 0), (6, vi .i64 x_4)] [.gone, .gone, .blk 26 (C_api_Channel ({ x_3 with RxCredits := x_5 }) (.s 3) (.s 4)), .own 1 24 (RSl 1 R8) x_3.Out, .rd 1 R8 x_3.In, .blk 26 (C_api_Channel (T_api_Channel.mk 0 0 0 0 0 0 0 0 0 0 [] 0 [] 0 false) nl nl)] a w) ?_ ?_
   · refine SC.r tk [(1, vi .i64 n_2), (2, vp 2 0), (4, vp 3 0), (6, vi .i64 x_4), (17, vb (x_4 == 0))] [] [] [] (by kernel_rfl) ?_
     refine SC.if' rfl hp (fun hp => ?_) (fun hp => ?_)
     · refine SC.reg ?_
       refine SL.sim tk 6 [(2, vp 2 0), (4, vp 3 0), (6, vi .i64 x_4)] [(2, 26, (C_api_Channel ({ x_3 with RxCredits := w64 (x_3.RxCredits + n_2) }) (.s 4) (.s 5)))] [] [] (by kernel_rfl) ?_
       refine SL.nilJ fun a w h => ?_
       exact ⟨w64 (x_3.RxCredits + n_2), hp, h.at (js := [.g 0, .g 1, .g 2, .g 4, .g 5, .g 3]) (by kernel_rfl)⟩
     · refine SC.skipJ fun a w h => ?_
       exact ⟨x_3.RxCredits, hp, h.at (js := [.g 0, .g 1, .g 2, .g 4, .g 5, .g 3]) (by kernel_rfl)⟩
   · rintro a w ⟨x_5, hp, h⟩
     refine h.go ?_
     refine SC.r tk [(4, vp 5 0), (5, vi .i64 x_4)] [(5, 26, (C_api_Channel ({ x_3 with RxCredits := x_5 }) (.s 3) (.s 4)))] [] [] (by kernel_rfl) ?_
     obtain rfl := some_inv' hp
     exact SC.re (js := [.g 0, .g 1, .z 3, .g 4]) tk (by kernel_rfl)

theorem ok_sdu_Credit (F : Nat) (c_1 : T_api_Channel) (n_2 : Int) (r : T_api_Channel × Int) (hp : sdu_Credit F c_1 n_2 = some r) : Spec Try.prog 24 [.g (C_api_Channel c_1 (.s 0) (.s 1)), vi .i64 n_2] [.rd 1 (RSl 1 R8) c_1.Out, .rd 1 R8 c_1.In] (.u [.inr (C_api_Channel (T_api_Channel.mk r.1.Local r.1.Remote r.1.PSM r.1.MTU r.1.MPS r.1.PeerMTU r.1.PeerMPS r.1.TxCredits r.1.RxCredits r.1.Given r.1.Out r.1.Sent r.1.In r.1.Want r.1.Failed) (.s 2) (.s 3)), .inl (ci .i64 r.2)]) [.gone, .gone, .rd 1 (RSl 1 R8) r.1.Out, .rd 1 R8 r.1.In] := by
 refine Spec.enter Try.func24 rfl Try.ntmps24 rfl rfl fun fx => ?_
 refine SC.seq ?_
 refine SC.reg ?_
 refine SL.eff (e_box (E := 26) (C_api_Channel c_1 (.s 0) (.s 1)) (by kernel_rfl)) rfl (by kernel_rfl) ?_
 refine SL.eff (e_alloc (E := 26) tk (C_api_Channel (T_api_Channel.mk 0 0 0 0 0 0 0 0 0 0 [] 0 [] 0 false) nl nl) (by kernel_rfl)) rfl (by kernel_rfl) ?_
 refine SL.sim tk 1 [(1, vi .i64 n_2), (2, vp 2 0), (4, vp 3 0)] [] [] [] (by kernel_rfl) ?_
 refine SL.nilThen ?_
 refine SC.seq ?_
 refine SC.reg ?_
 refine SL.sim tk 1 [(1, vi .i64 n_2), (2, vp 2 0), (4, vp 3 0), (7, .g (C_api_Channel c_1 (.s 0) (.s 1)))] [] [] [] (by kernel_rfl) ?_
 obtain ⟨x_3, e_x_3, hp⟩ := bind_inv hp
 refine SL.eff (e_c Try.call32 (ok_sdu_copied F c_1 _ e_x_3) [.g 0, .g 1] [.g (C_api_Channel c_1 (.s 0) (.s 1))] (.g (C_api_Channel x_3 (.s 4) (.s 5))) (by kernel_rfl) (.inl rfl)) rfl (by kernel_rfl) ?_
 refine SL.norm (itsN := [.rd 1 (RSl 1 R8) c_1.Out, .rd 1 R8 c_1.In, .blk 26 (C_api_Channel c_1 (.s 0) (.s 1)), .blk 26 (C_api_Channel (T_api_Channel.mk 0 0 0 0 0 0 0 0 0 0 [] 0 [] 0 false) nl nl), .own 1 24 (RSl 1 R8) x_3.Out, .rd 1 R8 x_3.In]) (by kernel_rfl) ?_
 refine SL.sim tk 1 [(1, vi .i64 n_2), (2, vp 2 0), (4, vp 3 0)] [(2, 26, (C_api_Channel x_3 (.s 4) (.s 5)))] [] [] (by kernel_rfl) ?_
 refine SL.nilThen ?_
 refine SC.seq ?_
 refine SC.r tk [(1, vi .i64 n_2), (2, vp 2 0), (4, vp 3 0), (10, vb x_3.Failed)] [] [] [] (by kernel_rfl) ?_
 refine SC.if' rfl hp (fun hp => ?_) (fun hp => ?_)
 · refine SC.r tk [(4, vp 3 0), (5, vi .i64 9)] [(3, 26, (C_api_Channel x_3 (.s 4) (.s 5)))] [] [] (by kernel_rfl) ?_
   obtain rfl := some_inv' hp
   exact SC.re (js := [.g 0, .g 1, .z 4, .g 5]) tk (by kernel_rfl)
 · refine SC.skipThen ?_
   refine SC.seq ?_
   refine SC.reg ?_
   refine SL.sim tk 3 [(1, vi .i64 n_2), (2, vp 2 0), (4, vp 3 0), (13, vi .i64 x_3.TxCredits), (14, vi .i64 n_2)] [] [] [] (by kernel_rfl) ?_
   obtain ⟨x_4, e_x_4, hp⟩ := bind_inv hp
   refine SL.eff (e_c Try.call40 (ok_sdu_more F x_3.TxCredits n_2 _ e_x_4) [] [vi .i64 x_3.TxCredits, vi .i64 n_2] (vi .i64 x_4) (by kernel_rfl) (.inl rfl)) rfl (by kernel_rfl) ?_
   refine SL.sim tk 1 [(1, vi .i64 n_2), (2, vp 2 0), (4, vp 3 0), (6, vi .i64 x_4)] [] [] [] (by kernel_rfl) ?_
   refine SL.nilThen ?_
   refine SC.cut (fun a w => ∃ (c_7 : T_api_Channel), sdu_Credit_j1 F x_3 x_4 c_7 = some r ∧ A 26 2 fx [(2, vp 2 0), (4, vp 5 0), (6, vi .i64 x_4)] [.gone, .gone, .blk 26 (C_api_Channel ({ x_3 with TxCredits := c_7.TxCredits, Failed := c_7.Failed }) (.s 3) (.s 4)), .own 1 24 (RSl 1 R8) x_3.Out, .rd 1 R8 x_3.In, .blk 26 (C_api_Channel (T_api_Channel.mk 0 0 0 0 0 0 0 0 0 0 [] 0 [] 0 false) nl nl)] a w) ?_ ?_
   · refine SC.r tk [(1, vi .i64 n_2), (2, vp 2 0), (4, vp 3 0), (6, vi .i64 x_4), (17, vb (x_4 == 0))] [] [] [] (by kernel_rfl) ?_
     refine SC.if' rfl hp (fun hp => ?_) (fun hp => ?_)
     · refine SC.reg ?_
       refine SL.sim tk 6 [(2, vp 2 0), (4, vp 3 0), (6, vi .i64 x_4)] [(2, 26, (C_api_Channel ({ x_3 with TxCredits := w64 (x_3.TxCredits + n_2) }) (.s 4) (.s 5)))] [] [] (by kernel_rfl) ?_
       refine SL.nilJ fun a w h => ?_
       exact ⟨{ x_3 with TxCredits := w64 (x_3.TxCredits + n_2) }, hp, h.at (js := [.g 0, .g 1, .g 2, .g 4, .g 5, .g 3]) (by kernel_rfl)⟩
     · refine SC.reg ?_
       refine SL.sim tk 2 [(2, vp 2 0), (4, vp 3 0), (6, vi .i64 x_4)] [(2, 26, (C_api_Channel ({ x_3 with Failed := true }) (.s 4) (.s 5)))] [] [] (by kernel_rfl) ?_
       refine SL.nilJ fun a w h => ?_
       exact ⟨{ x_3 with Failed := true }, hp, h.at (js := [.g 0, .g 1, .g 2, .g 4, .g 5, .g 3]) (by kernel_rfl)⟩
   · rintro a w ⟨c_7, hp, h⟩
     refine h.go ?_
     refine SC.r tk [(4, vp 5 0), (5, vi .i64 x_4)] [(5, 26, (C_api_Channel ({ x_3 with TxCredits := c_7.TxCredits, Failed := c_7.Failed }) (.s 3) (.s 4)))] [] [] (by kernel_rfl) ?_
     obtain rfl := some_inv' hp
     exact SC.re (js := [.g 0, .g 1, .z 3, .g 4]) tk (by kernel_rfl)
end V
end Go.Proofs.Ytfdiabglpgkbeaa
