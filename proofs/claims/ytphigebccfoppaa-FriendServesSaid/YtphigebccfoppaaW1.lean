/-
  Walks, written by program: each Go function returns what its pure twin says.
-/
import Derived.Test.YtphigebccfoppaaW0
namespace Go.Proofs.Ytphigebccfoppaa
namespace V
theorem ok_wirelesslaw51_sameSubs (F : Nat) (a_1 : (List Int)) (b_2 : (List Int)) (r : Bool) (hp : wirelesslaw51_sameSubs F a_1 b_2 = some r) : Spec Try.prog 60 [vs 0, vs 1] [.rd 1 (RInt .u16) a_1, .rd 1 (RInt .u16) b_2] (vb r) [.gone, .gone] := by
 refine Spec.enter Try.func60 rfl Try.ntmps60 rfl rfl fun fx => ?_
 refine SC.r tk [(0, vs 0), (1, vs 1)] [] [] [] (by kernel_rfl) ?_
 refine SC.seq ?_
 refine SC.r tk [(0, vs 0), (1, vs 1), (10, vb ((len a_1) != (len b_2)))] [] [] [] (by kernel_rfl) ?_
 refine SC.if' rfl hp (fun hp => ?_) (fun hp => ?_)
 · refine SC.r tk [(4, vb false)] [] [] [] (by kernel_rfl) ?_
   obtain rfl := some_inv' hp
   exact SC.re (js := [.g 0, .g 1]) tk (by kernel_rfl)
 · refine SC.skipThen ?_
   refine SC.cut (fun a w => wirelesslaw51_sameSubs_j1 F = some r ∧ A 26 2 fx [] [.gone, .gone] a w) ?_ ?_
   · refine SC.r tk [(0, vs 0), (1, vs 1), (5, vi .i64 0)] [] [] [] (by kernel_rfl) ?_
     refine SC.block ?_
     obtain ⟨o1, hi1, ho1⟩ := bind_inv hp
     clear hp
     refine SC.loop (fun n a w => ∃ (x_3 : Int), iter (fun s => wirelesslaw51_sameSubs_l1 F a_1 b_2 s) n (x_3) = some o1 ∧ A 26 2 fx [(0, vs 0), (1, vs 1), (5, vi .i64 x_3)] [.rd 1 (RInt .u16) a_1, .rd 1 (RInt .u16) b_2] a w) F (fun a w h => ⟨0, hi1, h.at (js := [.g 0, .g 1]) (by kernel_rfl)⟩) ?_
     rintro n1 a w ⟨x_3, hi1, h⟩
     obtain ⟨n1, q1, rfl, hp, hs1⟩ := iter_inv hi1
     replace hp : wirelesslaw51_sameSubs_l1 F a_1 b_2 x_3 = some q1 := hp
     clear hi1
     refine h.go ?_
     refine SC.seq ?_
     refine SC.r tk [(0, vs 0), (1, vs 1), (5, vi .i64 x_3), (14, vb (decide (x_3 < (len a_1))))] [] [] [] (by kernel_rfl) ?_
     refine SC.if' rfl hp (fun hp => ?_) (fun hp => ?_)
     · refine SC.skipThen ?_
       refine SC.seq ?_
       refine SC.block ?_
       refine SC.cut (fun a w => ∃ (z_4 : Bool), wirelesslaw51_sameSubs_j2 F x_3 z_4 = some q1 ∧ A 26 2 fx [(0, vs 0), (1, vs 1), (5, vi .i64 x_3), (25, vb z_4)] [.rd 1 (RInt .u16) a_1, .rd 1 (RInt .u16) b_2] a w) ?_ ?_
       · obtain ⟨x_5, e_x_5, hp⟩ := bind_inv hp
         obtain ⟨x_6, e_x_6, hp⟩ := bind_inv hp
         refine SC.pre (pre_ix (i := 0) (iv := x_3) (sz := 1) (R := (RInt .u16)) (l := a_1) (by kernel_rfl) rfl e_x_5) ?_
         refine SC.pre (pre_ix (i := 1) (iv := x_3) (sz := 1) (R := (RInt .u16)) (l := b_2) (by kernel_rfl) rfl e_x_6) ?_
         refine SC.draw MO [true, true, true, true] (by kernel_rfl) fun kap_7 D_8 => ?_
         refine SD.takes tk D_8 [] kn0 [0, 1, 2, 3, 4, 5, 6, 7, 8] [.el 2, .el 3] [x_3, x_3] [I, I, I, I, I, I, I, I, I] [(0, vs 0), (1, vs 1), (5, vi .i64 x_3), (25, vb (x_5 != x_6))] rfl (by kernel_rfl) (by kernel_rfl) (by kernel_rfl) ?_
         refine SD.done (by kernel_rfl) fun a w h => ?_
         exact ⟨(x_5 != x_6), hp, h.at (js := [.g 0, .g 1]) (by kernel_rfl)⟩
       · rintro a w ⟨z_4, hp, h⟩
         refine h.go ?_
         refine SC.if' rfl hp (fun hp => ?_) (fun hp => ?_)
         · refine SC.r tk [(4, vb false)] [] [] [] (by kernel_rfl) ?_
           have ho := done_inv hp hs1
           replace hp := ho1
           try rw [ho] at hp
           obtain rfl := some_inv' hp
           exact SC.re (js := [.g 0, .g 1]) tk (by kernel_rfl)
         · refine SC.skipThen ?_
           refine SC.reg ?_
           refine SL.sim tk 3 [(0, vs 0), (1, vs 1), (5, vi .i64 (w64 (x_3 + 1)))] [] [] [] (by kernel_rfl) ?_
           refine SL.nilJ fun a w h => ?_
           exact ⟨n1, Nat.lt_succ_self _, w64 (x_3 + 1), next_inv hp hs1, h.at (js := [.g 0, .g 1]) (by kernel_rfl)⟩
     · refine SC.exitJ rfl fun a w h => ?_
       have ho := done_inv hp hs1
       replace hp := ho1
       try rw [ho] at hp
       exact ⟨hp, h.at (js := [.g 0, .g 1]) (by kernel_rfl)⟩
   · rintro a w ⟨hp, h⟩
     refine h.go ?_
     refine SC.r tk [(4, vb true)] [] [] [] (by kernel_rfl) ?_
     obtain rfl := some_inv' hp
     exact SC.re (js := [.g 0, .g 1]) tk (by kernel_rfl)

theorem ok_wirelesslaw51_SameFriend (F : Nat) (a_1 : T_api_Friend) (b_2 : T_api_Friend) (r : Bool) (hp : wirelesslaw51_SameFriend F a_1 b_2 = some r) : Spec Try.prog 44 [.g (C_api_Friend a_1 (.s 0) (.s 1)), .g (C_api_Friend b_2 (.s 2) (.s 3))] [.rd 18 R_T_api_Queued a_1.Queue, .rd 1 (RInt .u16) a_1.Subs, .rd 18 R_T_api_Queued b_2.Queue, .rd 1 (RInt .u16) b_2.Subs] (vb r) [.gone, .gone, .gone, .gone] := by
 refine Spec.enter Try.func44 rfl Try.ntmps44 rfl rfl fun fx => ?_
 refine SC.seq ?_
 refine SC.reg ?_
 refine SL.eff (e_box (E := 28) (C_api_Friend a_1 (.s 0) (.s 1)) (by kernel_rfl)) rfl (by kernel_rfl) ?_
 refine SL.eff (e_box (E := 28) (C_api_Friend b_2 (.s 2) (.s 3)) (by kernel_rfl)) rfl (by kernel_rfl) ?_
 refine SL.sim tk 1 [(2, vp 4 0), (3, vp 5 0)] [] [] [] (by kernel_rfl) ?_
 refine SL.nilThen ?_
 refine SC.seq ?_
 refine SC.reg ?_
 refine SL.sim tk 41 [(2, vp 4 0), (3, vp 5 0), (45, vb ((((((a_1.Low == b_2.Low) && (a_1.Bit == b_2.Bit)) && (a_1.Sent == b_2.Sent)) && (a_1.Polled == b_2.Polled)) && (a_1.Counter == b_2.Counter)) && (a_1.Dropped == b_2.Dropped)))] [] [] [] (by kernel_rfl) ?_
 obtain ⟨z_4, hz, hpr⟩ := bind_inv hp
 clear hp
 refine SL.cutAt 6 (fun a w => A 59 4 fx [(2, vp 4 0), (3, vp 5 0), (51, vb z_4)] [.rd 18 R_T_api_Queued a_1.Queue, .rd 1 (RInt .u16) a_1.Subs, .rd 18 R_T_api_Queued b_2.Queue, .rd 1 (RInt .u16) b_2.Subs, .blk 28 (C_api_Friend a_1 (.s 0) (.s 1)), .blk 28 (C_api_Friend b_2 (.s 2) (.s 3))] a w) ?_ ?_
 · have hp := hz
   rcases Bool.eq_false_or_eq_true (((((((a_1.Low == b_2.Low) && (a_1.Bit == b_2.Bit)) && (a_1.Sent == b_2.Sent)) && (a_1.Polled == b_2.Polled)) && (a_1.Counter == b_2.Counter)) && (a_1.Dropped == b_2.Dropped))) with hg_3 | hg_3
   · replace hp := if_t hp hg_3
     refine SL.yes rfl rfl hg_3 ?_
     refine SL.sim tk 1 [(2, vp 4 0), (3, vp 5 0), (45, vb ((((((a_1.Low == b_2.Low) && (a_1.Bit == b_2.Bit)) && (a_1.Sent == b_2.Sent)) && (a_1.Polled == b_2.Polled)) && (a_1.Counter == b_2.Counter)) && (a_1.Dropped == b_2.Dropped))), (46, vp 4 1)] [] [] [] (by kernel_rfl) ?_
     refine SL.yes rfl rfl hg_3 ?_
     refine SL.sim tk 1 [(2, vp 4 0), (3, vp 5 0), (45, vb ((((((a_1.Low == b_2.Low) && (a_1.Bit == b_2.Bit)) && (a_1.Sent == b_2.Sent)) && (a_1.Polled == b_2.Polled)) && (a_1.Counter == b_2.Counter)) && (a_1.Dropped == b_2.Dropped))), (47, vs 0)] [] [] [] (by kernel_rfl) ?_
     refine SL.yes rfl rfl hg_3 ?_
     refine SL.sim tk 1 [(2, vp 4 0), (3, vp 5 0), (45, vb ((((((a_1.Low == b_2.Low) && (a_1.Bit == b_2.Bit)) && (a_1.Sent == b_2.Sent)) && (a_1.Polled == b_2.Polled)) && (a_1.Counter == b_2.Counter)) && (a_1.Dropped == b_2.Dropped))), (47, vs 0), (48, vp 5 1)] [] [] [] (by kernel_rfl) ?_
     refine SL.yes rfl rfl hg_3 ?_
     refine SL.sim tk 1 [(2, vp 4 0), (3, vp 5 0), (45, vb ((((((a_1.Low == b_2.Low) && (a_1.Bit == b_2.Bit)) && (a_1.Sent == b_2.Sent)) && (a_1.Polled == b_2.Polled)) && (a_1.Counter == b_2.Counter)) && (a_1.Dropped == b_2.Dropped))), (47, vs 0), (49, vs 2)] [] [] [] (by kernel_rfl) ?_
     refine SL.yes rfl rfl hg_3 ?_
     obtain ⟨x_10, e_x_10, hp⟩ := bind_inv hp
     refine SL.eff (e_c Try.call47 (ok_wirelesslaw51_sameQueue F a_1.Queue b_2.Queue _ e_x_10) [.g 0, .g 2] [vs 0, vs 2] (vb x_10) (by kernel_rfl) (.inl rfl)) rfl (by kernel_rfl) ?_
     refine SL.norm (itsN := [.rd 18 R_T_api_Queued a_1.Queue, .rd 1 (RInt .u16) a_1.Subs, .rd 18 R_T_api_Queued b_2.Queue, .rd 1 (RInt .u16) b_2.Subs, .blk 28 (C_api_Friend a_1 (.s 0) (.s 1)), .blk 28 (C_api_Friend b_2 (.s 2) (.s 3))]) (by kernel_rfl) ?_
     refine SL.pickt rfl hg_3 rfl rfl ?_
     refine SL.nilJ fun a w h => ?_
     obtain rfl := some_inv' hp
     exact h.at (js := [.g 0, .g 1, .g 2, .g 3, .g 4, .g 5]) (by kernel_rfl)
   · replace hp := if_f hp hg_3
     refine SL.no rfl rfl hg_3 rfl ?_
     refine SL.no rfl rfl hg_3 rfl ?_
     refine SL.no rfl rfl hg_3 rfl ?_
     refine SL.no rfl rfl hg_3 rfl ?_
     refine SL.no rfl rfl hg_3 rfl ?_
     refine SL.pickf rfl hg_3 rfl rfl ?_
     refine SL.nilJ fun a w h => ?_
     obtain rfl := some_inv' hp
     exact h.at (js := [.g 0, .g 1, .g 2, .g 3, .g 4, .g 5]) (by kernel_rfl)
 · intro a w h
   have hp := hpr; clear hpr hz
   refine h.goL ?_
   refine SL.sim tk 1 [(2, vp 4 0), (3, vp 5 0), (52, vb z_4)] [] [] [] (by kernel_rfl) ?_
   obtain ⟨z_6, hz, hpr⟩ := bind_inv hp
   clear hp
   refine SL.cutAt 6 (fun a w => A 59 4 fx [(58, vb z_6)] [.gone, .gone, .gone, .gone] a w) ?_ ?_
   · have hp := hz
     rcases Bool.eq_false_or_eq_true (z_4) with hg_5 | hg_5
     · replace hp := if_t hp hg_5
       refine SL.yes rfl rfl hg_5 ?_
       refine SL.sim tk 1 [(3, vp 5 0), (52, vb z_4), (53, vp 4 2)] [] [] [] (by kernel_rfl) ?_
       refine SL.yes rfl rfl hg_5 ?_
       refine SL.sim tk 1 [(3, vp 5 0), (52, vb z_4), (54, vs 1)] [] [] [] (by kernel_rfl) ?_
       refine SL.yes rfl rfl hg_5 ?_
       refine SL.sim tk 1 [(52, vb z_4), (54, vs 1), (55, vp 5 2)] [] [] [] (by kernel_rfl) ?_
       refine SL.yes rfl rfl hg_5 ?_
       refine SL.sim tk 1 [(52, vb z_4), (54, vs 1), (56, vs 3)] [] [] [] (by kernel_rfl) ?_
       refine SL.yes rfl rfl hg_5 ?_
       obtain ⟨x_8, e_x_8, hp⟩ := bind_inv hp
       refine SL.eff (e_c Try.call60 (ok_wirelesslaw51_sameSubs F a_1.Subs b_2.Subs _ e_x_8) [.g 1, .g 3] [vs 1, vs 3] (vb x_8) (by kernel_rfl) (.inl rfl)) rfl (by kernel_rfl) ?_
       refine SL.pickt rfl hg_5 rfl rfl ?_
       refine SL.nilJ fun a w h => ?_
       obtain rfl := some_inv' hp
       exact h.at (js := [.g 0, .g 1, .g 2, .g 3]) (by kernel_rfl)
     · replace hp := if_f hp hg_5
       refine SL.no rfl rfl hg_5 rfl ?_
       refine SL.no rfl rfl hg_5 rfl ?_
       refine SL.no rfl rfl hg_5 rfl ?_
       refine SL.no rfl rfl hg_5 rfl ?_
       refine SL.no rfl rfl hg_5 rfl ?_
       refine SL.pickf rfl hg_5 rfl rfl ?_
       refine SL.nilJ fun a w h => ?_
       obtain rfl := some_inv' hp
       exact h.at (js := [.g 0, .g 1, .g 2, .g 3]) (by kernel_rfl)
   · intro a w h
     have hp := hpr; clear hpr hz
     refine h.goL ?_
     refine SL.sim tk 1 [(4, vb z_6)] [] [] [] (by kernel_rfl) ?_
     refine SL.nilThen ?_
     obtain rfl := some_inv' hp
     exact SC.re (js := [.g 0, .g 1, .g 2, .g 3]) tk (by kernel_rfl)

theorem ok_wirelessref51_Keep (F : Nat) (f_1 : T_api_Friend) (q_2 : T_api_Queued) (r : T_api_Friend) (hp : wirelessref51_Keep F f_1 q_2 = some r) : Spec Try.prog 45 [.g (C_api_Friend f_1 (.s 0) (.s 1)), .g (C_api_Queued q_2 (.s 2) (.s 3))] [.rd 18 R_T_api_Queued f_1.Queue, .rd 1 (RInt .u16) f_1.Subs, .rd 1 R8 q_2.PDU.Payload, .rd 1 R8 q_2.Lower.Bytes] (.g [ci .u16 r.Low, .s 4, .s 5, ci .i64 r.Bit, cb r.Sent, ci .i64 r.Polled, ci .i64 r.Counter, ci .i64 r.Dropped]) [.gone, .gone, .gone, .gone, .rd 18 R_T_api_Queued r.Queue, .rd 1 (RInt .u16) r.Subs] := by
 refine Spec.enter Try.func45 rfl Try.ntmps45 rfl rfl fun fx => ?_
 refine SC.seq ?_
 refine SC.reg ?_
 refine SL.eff (e_box (E := 28) (C_api_Friend f_1 (.s 0) (.s 1)) (by kernel_rfl)) rfl (by kernel_rfl) ?_
 refine SL.eff (e_box (E := 38) (C_api_Queued q_2 (.s 2) (.s 3)) (by kernel_rfl)) rfl (by kernel_rfl) ?_
 refine SL.eff (e_alloc (E := 28) tk (C_api_Friend (T_api_Friend.mk 0 [] [] 0 false 0 0 0) nl nl) (by kernel_rfl)) rfl (by kernel_rfl) ?_
 refine SL.nilThen ?_
 refine SC.seq ?_
 refine SC.r tk [(2, vp 4 0), (3, vp 5 0), (4, vp 6 0), (10, vb (f_1.Low == 0))] [] [] [] (by kernel_rfl) ?_
 refine SC.if' rfl hp (fun hp => ?_) (fun hp => ?_)
 · refine SC.r tk [(4, vp 6 0)] [(6, 28, (C_api_Friend f_1 (.s 0) (.s 1)))] [] [] (by kernel_rfl) ?_
   obtain rfl := some_inv' hp
   exact SC.re (js := [.g 0, .g 1, .g 2, .g 3, .g 0, .g 1]) tk (by kernel_rfl)
 · refine SC.skipThen ?_
   refine SC.cut (fun a w => wirelessref51_Keep_j1 F f_1 q_2 = some r ∧ A 76 4 fx [(2, vp 4 0), (3, vp 5 0), (4, vp 6 0)] [.rd 18 R_T_api_Queued f_1.Queue, .rd 1 (RInt .u16) f_1.Subs, .rd 1 R8 q_2.PDU.Payload, .rd 1 R8 q_2.Lower.Bytes, .blk 28 (C_api_Friend f_1 (.s 0) (.s 1)), .blk 38 (C_api_Queued q_2 (.s 2) (.s 3)), .blk 28 (C_api_Friend (T_api_Friend.mk 0 [] [] 0 false 0 0 0) nl nl)] a w) ?_ ?_
   · refine SC.r tk [(2, vp 4 0), (3, vp 5 0), (4, vp 6 0), (5, vi .i64 0)] [] [] [] (by kernel_rfl) ?_
     refine SC.block ?_
     obtain ⟨o1, hi1, ho1⟩ := bind_inv hp
     clear hp
     refine SC.loop (fun n a w => ∃ (x_1452 : Int), iter (fun s => wirelessref51_Keep_l1 F f_1 q_2 s) n (x_1452) = some o1 ∧ A 76 4 fx [(2, vp 4 0), (3, vp 5 0), (4, vp 6 0), (5, vi .i64 x_1452)] [.rd 18 R_T_api_Queued f_1.Queue, .rd 1 (RInt .u16) f_1.Subs, .rd 1 R8 q_2.PDU.Payload, .rd 1 R8 q_2.Lower.Bytes, .blk 28 (C_api_Friend f_1 (.s 0) (.s 1)), .blk 38 (C_api_Queued q_2 (.s 2) (.s 3)), .blk 28 (C_api_Friend (T_api_Friend.mk 0 [] [] 0 false 0 0 0) nl nl)] a w) F (fun a w h => ⟨0, hi1, h.at (js := [.g 0, .g 1, .g 2, .g 3, .g 4, .g 5, .g 6]) (by kernel_rfl)⟩) ?_
     rintro n1 a w ⟨x_1452, hi1, h⟩
     obtain ⟨n1, q1, rfl, hp, hs1⟩ := iter_inv hi1
     replace hp : wirelessref51_Keep_l1 F f_1 q_2 x_1452 = some q1 := hp
     clear hi1
     refine h.go ?_
     refine SC.seq ?_
     refine SC.r tk [(2, vp 4 0), (3, vp 5 0), (4, vp 6 0), (5, vi .i64 x_1452), (16, vb (decide (x_1452 < (len f_1.Queue))))] [] [] [] (by kernel_rfl) ?_
     refine SC.if' rfl hp (fun hp => ?_) (fun hp => ?_)
     · refine SC.skipThen ?_
       refine SC.seq ?_
       refine SC.block ?_
       refine SC.seq ?_
       refine SC.reg ?_
       obtain ⟨x_1453, e_x_1453, hp⟩ := bind_inv hp
       refine SL.pre (pre_ix (i := 0) (iv := x_1452) (sz := 18) (R := R_T_api_Queued) (l := f_1.Queue) (by kernel_rfl) rfl e_x_1453) ?_
       refine SL.sim tk 6 [(2, vp 4 0), (3, vp 5 0), (4, vp 6 0), (5, vi .i64 x_1452), (24, .g (C_api_NetPDU x_1453.PDU (.s 8)))] [] [.el 7] [x_1452] (by kernel_rfl) ?_
       refine SL.eff (e_alloc (E := 34) tk (C_api_NetPDU (T_api_NetPDU.mk 0 0 false 0 0 0 0 []) nl) (by kernel_rfl)) rfl (by kernel_rfl) ?_
       refine SL.sim tk 1 [(2, vp 4 0), (3, vp 5 0), (4, vp 6 0), (5, vi .i64 x_1452), (6, vp 10 0)] [(10, 34, (C_api_NetPDU x_1453.PDU (.s 8)))] [] [] (by kernel_rfl) ?_
       refine SL.nilThen ?_
       refine SC.r tk [(2, vp 4 0), (3, vp 5 0), (4, vp 6 0), (5, vi .i64 x_1452), (46, vb (((x_1453.PDU.Src == q_2.PDU.Src) && (x_1453.PDU.IV == q_2.PDU.IV)) && (x_1453.PDU.Seq == q_2.PDU.Seq)))] [] [] [] (by kernel_rfl) ?_
       refine SC.if' rfl hp (fun hp => ?_) (fun hp => ?_)
       · refine SC.r tk [(4, vp 6 0)] [(6, 28, (C_api_Friend f_1 (.s 0) (.s 1)))] [] [] (by kernel_rfl) ?_
         have ho := done_inv hp hs1
         replace hp := ho1
         try rw [ho] at hp
         obtain rfl := some_inv' hp
         exact SC.re (js := [.g 0, .g 1, .g 2, .g 3, .g 0, .g 1]) tk (by kernel_rfl)
       · refine SC.skipThen ?_
         refine SC.reg ?_
         refine SL.sim tk 3 [(2, vp 4 0), (3, vp 5 0), (4, vp 6 0), (5, vi .i64 (w64 (x_1452 + 1)))] [] [] [] (by kernel_rfl) ?_
         refine SL.nilJ fun a w h => ?_
         exact ⟨n1, Nat.lt_succ_self _, w64 (x_1452 + 1), next_inv hp hs1, h.at (js := [.g 0, .g 1, .g 2, .g 3, .g 4, .g 5, .g 6]) (by kernel_rfl)⟩
     · refine SC.exitJ rfl fun a w h => ?_
       have ho := done_inv hp hs1
       replace hp := ho1
       try rw [ho] at hp
       exact ⟨hp, h.at (js := [.g 0, .g 1, .g 2, .g 3, .g 4, .g 5, .g 6]) (by kernel_rfl)⟩
   · rintro a w ⟨hp, h⟩
     refine h.go ?_
     refine SC.cut (fun a w => ∃ (l_3 : (List T_api_Queued)), wirelessref51_Keep_j2 F f_1 l_3 = some r ∧ A 76 4 fx [(2, vp 4 0), (4, vp 5 0), (7, vs 6)] [.rd 18 R_T_api_Queued f_1.Queue, .rd 1 (RInt .u16) f_1.Subs, .gone, .gone, .blk 28 (C_api_Friend f_1 (.s 0) (.s 1)), .blk 28 (C_api_Friend (T_api_Friend.mk 0 [] [] 0 false 0 0 0) nl nl), .own 18 38 R_T_api_Queued l_3] a w) ?_ ?_
     · refine SC.draw MO [I, I, I, I, I, I, I] (by kernel_rfl) fun kap_730 D_731 => ?_
       refine SD.takes tk D_731 [] kn0 [1, 2, 4] [] [] [O, I, I, O, I, O, O, O] [(2, vp 4 0), (4, vp 6 0), (50, vs 0), (52, .g (C_api_Queued q_2 (.s 2) (.s 3)))] rfl (by kernel_rfl) (by kernel_rfl) (by kernel_rfl) ?_
       obtain ⟨l_972, e_l_972, hp⟩ := bind_inv hp
       obtain ⟨l_1212, e_l_1212, hp⟩ := bind_inv hp
       refine SD.lay 0 [I, I, I, I, I, I, I, I] [(2, vp 4 0), (4, vp 6 0), (7, vs 10)] [.rd 18 R_T_api_Queued f_1.Queue, .rd 1 (RInt .u16) f_1.Subs, .rd 1 R8 q_2.PDU.Payload, .rd 1 R8 q_2.Lower.Bytes, .blk 28 (C_api_Friend f_1 (.s 0) (.s 1)), .blk 38 (C_api_Queued q_2 (.s 2) (.s 3)), .blk 28 (C_api_Friend (T_api_Friend.mk 0 [] [] 0 false 0 0 0) nl nl), .gone, .gone, .gone, .own 18 38 R_T_api_Queued l_1212] ?_ (fun c_731_0 => ?_)
       · refine SD.done (by kernel_rfl) fun a w h => ?_
         exact ⟨l_1212, hp, h.at (js := [.g 0, .g 1, .g 2, .g 3, .g 4, .g 6, .g 10]) (by kernel_rfl)⟩
       · refine SD.lay 2 [I, I, I, I, I, I, O, O] [(2, vp 4 0), (4, vp 6 0), (51, vs 8), (53, vs 9)] [.rd 18 R_T_api_Queued f_1.Queue, .rd 1 (RInt .u16) f_1.Subs, .rd 1 R8 q_2.PDU.Payload, .rd 1 R8 q_2.Lower.Bytes, .blk 28 (C_api_Friend f_1 (.s 0) (.s 1)), .blk 38 (C_api_Queued q_2 (.s 2) (.s 3)), .blk 28 (C_api_Friend (T_api_Friend.mk 0 [] [] 0 false 0 0 0) nl nl), .gone, .own 18 38 R_T_api_Queued l_972, .own 18 38 R_T_api_Queued [q_2]] ?_ (fun c_731_1 => ?_)
         · refine SD.all1 (i := 6) (by kernel_rfl) ?_
           refine SW.eff D_731 (i := 6) (bs' := [I, I, I, I, I, I, I, O]) rfl (.inl rfl) rfl (e_app (i := 8) (l := l_972) (sz := 18) (E := 38) (R := R_T_api_Queued) (by_ := 136) (m := [q_2]) tk rfl (by kernel_rfl) rfl (.o 38 (by kernel_rfl)) e_l_1212 (by kernel_rfl)) (by kernel_rfl) rfl (by kernel_rfl) ?_
           refine SD.takes tk D_731 [] kn0 [7] [] [] [I, I, I, I, I, I, I, I] [(2, vp 4 0), (4, vp 6 0), (7, vs 10)] rfl (by kernel_rfl) (by kernel_rfl) (by kernel_rfl) ?_
           exact SD.vie D_731 [.g 0, .g 1, .g 2, .g 3, .g 4, .g 5, .g 6, .n, .n, .n, .g 10] c_731_0 (by kernel_rfl)
         · refine SD.lay 3 [I, I, I, I, I, O, O, O] [(2, vp 4 0), (4, vp 6 0), (51, vs 8), (52, .g (C_api_Queued q_2 (.s 2) (.s 3)))] [.rd 18 R_T_api_Queued f_1.Queue, .rd 1 (RInt .u16) f_1.Subs, .rd 1 R8 q_2.PDU.Payload, .rd 1 R8 q_2.Lower.Bytes, .blk 28 (C_api_Friend f_1 (.s 0) (.s 1)), .blk 38 (C_api_Queued q_2 (.s 2) (.s 3)), .blk 28 (C_api_Friend (T_api_Friend.mk 0 [] [] 0 false 0 0 0) nl nl), .gone, .own 18 38 R_T_api_Queued l_972] ?_ (fun c_731_2 => ?_)
           · refine SD.all1 (i := 5) (by kernel_rfl) ?_
             refine SW.eff D_731 (i := 5) (bs' := [I, I, I, I, I, I, O, O]) rfl (.inl rfl) rfl (e_lit (sz := 18) (E := 38) (R := R_T_api_Queued) (by_ := 136) tk [(C_api_Queued q_2 (.s 2) (.s 3))] [q_2] (by kernel_rfl) ⟨(clo_T_api_Queued (x := q_2) (Clo.sl (by kernel_rfl)) (Clo.sl (by kernel_rfl))), trivial⟩ rfl (by kernel_rfl) (by kernel_rfl)) (by kernel_rfl) rfl (by kernel_rfl) ?_
             exact SD.vie D_731 [.g 0, .g 1, .g 2, .g 3, .g 4, .g 5, .g 6, .n, .g 8, .g 9] c_731_1 (by kernel_rfl)
           · refine SD.lay 3 [I, I, I, O, I, I, O, O] [(2, vp 4 0), (4, vp 6 0), (48, vs 7), (50, vs 0), (53, vs 8)] [.rd 18 R_T_api_Queued f_1.Queue, .rd 1 (RInt .u16) f_1.Subs, .rd 1 R8 q_2.PDU.Payload, .rd 1 R8 q_2.Lower.Bytes, .blk 28 (C_api_Friend f_1 (.s 0) (.s 1)), .blk 38 (C_api_Queued q_2 (.s 2) (.s 3)), .blk 28 (C_api_Friend (T_api_Friend.mk 0 [] [] 0 false 0 0 0) nl nl), .own 18 38 R_T_api_Queued ([] : (List T_api_Queued)), .own 18 38 R_T_api_Queued [q_2]] ?_ (fun c_731_3 => ?_)
             · refine SD.all1 (i := 3) (by kernel_rfl) ?_
               refine SW.eff D_731 (i := 3) (bs' := [I, I, I, I, I, I, O, O]) rfl (.inl rfl) rfl (e_app (i := 7) (l := ([] : (List T_api_Queued))) (sz := 18) (E := 38) (R := R_T_api_Queued) (by_ := 136) (m := f_1.Queue) tk rfl (by kernel_rfl) rfl (.r (by kernel_rfl)) e_l_972 (by kernel_rfl)) (by kernel_rfl) rfl (by kernel_rfl) ?_
               exact SD.vie D_731 [.g 0, .g 1, .g 2, .g 3, .g 4, .g 5, .g 6, .n, .g 9, .g 8] c_731_1 (by kernel_rfl)
             · refine SD.lay 4 [I, I, I, O, I, O, O, O] [(2, vp 4 0), (4, vp 6 0), (48, vs 7), (50, vs 0), (52, .g (C_api_Queued q_2 (.s 2) (.s 3)))] [.rd 18 R_T_api_Queued f_1.Queue, .rd 1 (RInt .u16) f_1.Subs, .rd 1 R8 q_2.PDU.Payload, .rd 1 R8 q_2.Lower.Bytes, .blk 28 (C_api_Friend f_1 (.s 0) (.s 1)), .blk 38 (C_api_Queued q_2 (.s 2) (.s 3)), .blk 28 (C_api_Friend (T_api_Friend.mk 0 [] [] 0 false 0 0 0) nl nl), .own 18 38 R_T_api_Queued ([] : (List T_api_Queued))] ?_ (fun c_731_4 => ?_)
               · refine SD.all2 (i := 3) (j := 5) (by kernel_rfl) ?_ ?_
                 · refine SW.eff D_731 (i := 3) (bs' := [I, I, I, I, I, O, O, O]) rfl (.inl rfl) rfl (e_app (i := 7) (l := ([] : (List T_api_Queued))) (sz := 18) (E := 38) (R := R_T_api_Queued) (by_ := 136) (m := f_1.Queue) tk rfl (by kernel_rfl) rfl (.r (by kernel_rfl)) e_l_972 (by kernel_rfl)) (by kernel_rfl) rfl (by kernel_rfl) ?_
                   exact SD.vie D_731 [.g 0, .g 1, .g 2, .g 3, .g 4, .g 5, .g 6, .n, .g 8] c_731_2 (by kernel_rfl)
                 · refine SW.eff D_731 (i := 5) (bs' := [I, I, I, O, I, I, O, O]) rfl (.inl rfl) rfl (e_lit (sz := 18) (E := 38) (R := R_T_api_Queued) (by_ := 136) tk [(C_api_Queued q_2 (.s 2) (.s 3))] [q_2] (by kernel_rfl) ⟨(clo_T_api_Queued (x := q_2) (Clo.sl (by kernel_rfl)) (Clo.sl (by kernel_rfl))), trivial⟩ rfl (by kernel_rfl) (by kernel_rfl)) (by kernel_rfl) rfl (by kernel_rfl) ?_
                   exact SD.vie D_731 [.g 0, .g 1, .g 2, .g 3, .g 4, .g 5, .g 6, .g 7, .g 8] c_731_3 (by kernel_rfl)
               · refine SD.lay 4 [O, I, I, O, I, I, O, O] [(2, vp 4 0), (4, vp 6 0), (50, vs 0), (53, vs 7)] [.rd 18 R_T_api_Queued f_1.Queue, .rd 1 (RInt .u16) f_1.Subs, .rd 1 R8 q_2.PDU.Payload, .rd 1 R8 q_2.Lower.Bytes, .blk 28 (C_api_Friend f_1 (.s 0) (.s 1)), .blk 38 (C_api_Queued q_2 (.s 2) (.s 3)), .blk 28 (C_api_Friend (T_api_Friend.mk 0 [] [] 0 false 0 0 0) nl nl), .own 18 38 R_T_api_Queued [q_2]] ?_ (fun c_731_5 => ?_)
                 · refine SD.all1 (i := 0) (by kernel_rfl) ?_
                   refine SW.eff D_731 (i := 0) (bs' := [I, I, I, O, I, I, O, O]) rfl (.inl rfl) rfl (e_lit (sz := 18) (E := 38) (R := R_T_api_Queued) (by_ := 136) tk [] ([] : (List T_api_Queued)) (by kernel_rfl) trivial rfl (by kernel_rfl) (by kernel_rfl)) (by kernel_rfl) rfl (by kernel_rfl) ?_
                   exact SD.vie D_731 [.g 0, .g 1, .g 2, .g 3, .g 4, .g 5, .g 6, .g 8, .g 7] c_731_3 (by kernel_rfl)
                 · refine SD.all2 (i := 0) (j := 5) (by kernel_rfl) ?_ ?_
                   · refine SW.eff D_731 (i := 0) (bs' := [I, I, I, O, I, O, O, O]) rfl (.inl rfl) rfl (e_lit (sz := 18) (E := 38) (R := R_T_api_Queued) (by_ := 136) tk [] ([] : (List T_api_Queued)) (by kernel_rfl) trivial rfl (by kernel_rfl) (by kernel_rfl)) (by kernel_rfl) rfl (by kernel_rfl) ?_
                     exact SD.vie D_731 [.g 0, .g 1, .g 2, .g 3, .g 4, .g 5, .g 6, .g 7] c_731_4 (by kernel_rfl)
                   · refine SW.eff D_731 (i := 5) (bs' := [O, I, I, O, I, I, O, O]) rfl (.inl rfl) rfl (e_lit (sz := 18) (E := 38) (R := R_T_api_Queued) (by_ := 136) tk [(C_api_Queued q_2 (.s 2) (.s 3))] [q_2] (by kernel_rfl) ⟨(clo_T_api_Queued (x := q_2) (Clo.sl (by kernel_rfl)) (Clo.sl (by kernel_rfl))), trivial⟩ rfl (by kernel_rfl) (by kernel_rfl)) (by kernel_rfl) rfl (by kernel_rfl) ?_
                     exact SD.vie D_731 [.g 0, .g 1, .g 2, .g 3, .g 4, .g 5, .g 6, .g 7] c_731_5 (by kernel_rfl)
     · rintro a w ⟨l_3, hp, h⟩
       refine h.go ?_
       refine SC.cut (fun a w => ∃ (x_4 : Int) (l_5 : (List T_api_Queued)), wirelessref51_Keep_j3 F f_1 x_4 l_5 = some r ∧ A 76 4 fx [(2, vp 4 0), (4, vp 5 0), (7, vs 6)] [.rd 18 R_T_api_Queued f_1.Queue, .rd 1 (RInt .u16) f_1.Subs, .gone, .gone, .blk 28 (C_api_Friend ({ f_1 with Dropped := x_4 }) (.s 0) (.s 1)), .blk 28 (C_api_Friend (T_api_Friend.mk 0 [] [] 0 false 0 0 0) nl nl), .rd 18 R_T_api_Queued l_5] a w) ?_ ?_
       · refine SC.r tk [(2, vp 4 0), (4, vp 5 0), (7, vs 6), (57, vb (decide ((len l_3) > 16)))] [] [] [] (by kernel_rfl) ?_
         refine SC.if' rfl hp (fun hp => ?_) (fun hp => ?_)
         · refine SC.r tk [(2, vp 4 0), (4, vp 5 0), (7, vs 6)] [(4, 28, (C_api_Friend ({ f_1 with Dropped := w64 (f_1.Dropped + 1) }) (.s 0) (.s 1)))] [] [] (by kernel_rfl) ?_
           refine SC.r tk [(2, vp 4 0), (4, vp 5 0), (7, vs 6), (63, vb f_1.Sent)] [] [] [] (by kernel_rfl) ?_
           refine SC.if' rfl hp (fun hp => ?_) (fun hp => ?_)
           · obtain ⟨x_6, e_x_6, hp⟩ := bind_inv hp
             refine SC.pre (pre_frz (i := 6) (sz := 18) (E := 38) (R := R_T_api_Queued) (l := l_3) (by kernel_rfl)) ?_
             refine SC.pre (pre_ix (i := 6) (iv := 0) (sz := 18) (R := R_T_api_Queued) (l := l_3) (by kernel_rfl) rfl e_x_6) ?_
             refine SC.draw MO [I, I, O, O, I, I, I, I, I, I] (by kernel_rfl) fun kap_7 D_8 => ?_
             refine SD.takes tk D_8 [] kn0 [0, 1, 2, 4] [.el 7] [0] [I, I, I, O, I, O, O, O] [(2, vp 4 0), (4, vp 5 0), (7, vs 6), (66, .g (C_api_Queued x_6 (.s 8) (.s 9))), (68, vs 6)] rfl (by kernel_rfl) (by kernel_rfl) (by kernel_rfl) ?_
             obtain ⟨l_409, e_l_409, hp⟩ := bind_inv hp
             obtain ⟨l_489, e_l_489, hp⟩ := bind_inv hp
             refine SD.lay 0 [I, I, I, I, I, I, I, I] [(2, vp 4 0), (4, vp 5 0), (7, vs 12)] [.rd 18 R_T_api_Queued f_1.Queue, .rd 1 (RInt .u16) f_1.Subs, .gone, .gone, .blk 28 (C_api_Friend ({ f_1 with Dropped := w64 (f_1.Dropped + 1) }) (.s 0) (.s 1)), .blk 28 (C_api_Friend (T_api_Friend.mk 0 [] [] 0 false 0 0 0) nl nl), .rd 18 R_T_api_Queued l_3, .elt (some (6, 0)) false (C_api_Queued x_6 (.s 8) (.s 9)), .rd 1 R8 x_6.PDU.Payload, .rd 1 R8 x_6.Lower.Bytes, .gone, .gone, .own 18 38 R_T_api_Queued l_489] ?_ (fun c_8_0 => ?_)
             · refine SD.done (by kernel_rfl) fun a w h => ?_
               exact ⟨w64 (f_1.Dropped + 1), l_489, hp, h.at (js := [.g 0, .g 1, .g 2, .g 3, .g 4, .g 5, .z 12]) (by kernel_rfl)⟩
             · refine SD.lay 2 [I, I, I, I, I, I, O, O] [(2, vp 4 0), (4, vp 5 0), (7, vs 6), (67, vs 10), (69, vs 11)] [.rd 18 R_T_api_Queued f_1.Queue, .rd 1 (RInt .u16) f_1.Subs, .gone, .gone, .blk 28 (C_api_Friend ({ f_1 with Dropped := w64 (f_1.Dropped + 1) }) (.s 0) (.s 1)), .blk 28 (C_api_Friend (T_api_Friend.mk 0 [] [] 0 false 0 0 0) nl nl), .rd 18 R_T_api_Queued l_3, .elt (some (6, 0)) false (C_api_Queued x_6 (.s 8) (.s 9)), .rd 1 R8 x_6.PDU.Payload, .rd 1 R8 x_6.Lower.Bytes, .own 18 38 R_T_api_Queued [x_6], .rd 18 R_T_api_Queued l_409] ?_ (fun c_8_1 => ?_)
               · refine SD.all1 (i := 6) (by kernel_rfl) ?_
                 refine SW.eff D_8 (i := 6) (bs' := [I, I, I, I, I, I, I, O]) rfl (.inl rfl) rfl (e_app (i := 10) (l := [x_6]) (sz := 18) (E := 38) (R := R_T_api_Queued) (by_ := 136) (m := l_409) tk rfl (by kernel_rfl) rfl (.r (by kernel_rfl)) e_l_489 (by kernel_rfl)) (by kernel_rfl) rfl (by kernel_rfl) ?_
                 refine SD.takes tk D_8 [] kn0 [7] [] [] [I, I, I, I, I, I, I, I] [(2, vp 4 0), (4, vp 5 0), (7, vs 12)] rfl (by kernel_rfl) (by kernel_rfl) (by kernel_rfl) ?_
                 exact SD.vie D_8 [.g 0, .g 1, .g 2, .g 3, .g 4, .g 5, .g 6, .g 7, .g 8, .g 9, .n, .n, .g 12] c_8_0 (by kernel_rfl)
               · refine SD.lay 3 [I, I, I, I, I, O, O, O] [(2, vp 4 0), (4, vp 5 0), (7, vs 6), (67, vs 10), (68, vs 6)] [.rd 18 R_T_api_Queued f_1.Queue, .rd 1 (RInt .u16) f_1.Subs, .gone, .gone, .blk 28 (C_api_Friend ({ f_1 with Dropped := w64 (f_1.Dropped + 1) }) (.s 0) (.s 1)), .blk 28 (C_api_Friend (T_api_Friend.mk 0 [] [] 0 false 0 0 0) nl nl), .rd 18 R_T_api_Queued l_3, .elt (some (6, 0)) false (C_api_Queued x_6 (.s 8) (.s 9)), .rd 1 R8 x_6.PDU.Payload, .rd 1 R8 x_6.Lower.Bytes, .own 18 38 R_T_api_Queued [x_6]] ?_ (fun c_8_2 => ?_)
                 · refine SD.all1 (i := 5) (by kernel_rfl) ?_
                   refine SW.eff D_8 (i := 5) (bs' := [I, I, I, I, I, I, O, O]) rfl (.inl rfl) rfl (e_sub (sz := 18) (E := 38) (R := R_T_api_Queued) (by_ := 136) (l := l_3) tk rfl (.inl ⟨6, rfl, (by kernel_rfl)⟩) rfl rfl e_l_409 (by kernel_rfl)) (by kernel_rfl) rfl (by kernel_rfl) ?_
                   exact SD.vie D_8 [.g 0, .g 1, .g 2, .g 3, .g 4, .g 5, .g 6, .g 7, .g 8, .g 9, .g 10, .g 11] c_8_1 (by kernel_rfl)
                 · refine SD.lay 3 [I, I, I, O, I, I, O, O] [(2, vp 4 0), (4, vp 5 0), (7, vs 6), (66, .g (C_api_Queued x_6 (.s 8) (.s 9))), (69, vs 10)] [.rd 18 R_T_api_Queued f_1.Queue, .rd 1 (RInt .u16) f_1.Subs, .gone, .gone, .blk 28 (C_api_Friend ({ f_1 with Dropped := w64 (f_1.Dropped + 1) }) (.s 0) (.s 1)), .blk 28 (C_api_Friend (T_api_Friend.mk 0 [] [] 0 false 0 0 0) nl nl), .rd 18 R_T_api_Queued l_3, .elt (some (6, 0)) false (C_api_Queued x_6 (.s 8) (.s 9)), .rd 1 R8 x_6.PDU.Payload, .rd 1 R8 x_6.Lower.Bytes, .rd 18 R_T_api_Queued l_409] ?_ (fun c_8_3 => ?_)
                   · refine SD.all1 (i := 3) (by kernel_rfl) ?_
                     refine SW.eff D_8 (i := 3) (bs' := [I, I, I, I, I, I, O, O]) rfl (.inl rfl) rfl (e_lit (sz := 18) (E := 38) (R := R_T_api_Queued) (by_ := 136) tk [(C_api_Queued x_6 (.s 8) (.s 9))] [x_6] (by kernel_rfl) ⟨(clo_T_api_Queued (x := x_6) (Clo.sl (by kernel_rfl)) (Clo.sl (by kernel_rfl))), trivial⟩ rfl (by kernel_rfl) (by kernel_rfl)) (by kernel_rfl) rfl (by kernel_rfl) ?_
                     exact SD.vie D_8 [.g 0, .g 1, .g 2, .g 3, .g 4, .g 5, .g 6, .g 7, .g 8, .g 9, .g 11, .g 10] c_8_1 (by kernel_rfl)
                   · refine SD.all2 (i := 3) (j := 5) (by kernel_rfl) ?_ ?_
                     · refine SW.eff D_8 (i := 3) (bs' := [I, I, I, I, I, O, O, O]) rfl (.inl rfl) rfl (e_lit (sz := 18) (E := 38) (R := R_T_api_Queued) (by_ := 136) tk [(C_api_Queued x_6 (.s 8) (.s 9))] [x_6] (by kernel_rfl) ⟨(clo_T_api_Queued (x := x_6) (Clo.sl (by kernel_rfl)) (Clo.sl (by kernel_rfl))), trivial⟩ rfl (by kernel_rfl) (by kernel_rfl)) (by kernel_rfl) rfl (by kernel_rfl) ?_
                       exact SD.vie D_8 [.g 0, .g 1, .g 2, .g 3, .g 4, .g 5, .g 6, .g 7, .g 8, .g 9, .g 10] c_8_2 (by kernel_rfl)
                     · refine SW.eff D_8 (i := 5) (bs' := [I, I, I, O, I, I, O, O]) rfl (.inl rfl) rfl (e_sub (sz := 18) (E := 38) (R := R_T_api_Queued) (by_ := 136) (l := l_3) tk rfl (.inl ⟨6, rfl, (by kernel_rfl)⟩) rfl rfl e_l_409 (by kernel_rfl)) (by kernel_rfl) rfl (by kernel_rfl) ?_
                       exact SD.vie D_8 [.g 0, .g 1, .g 2, .g 3, .g 4, .g 5, .g 6, .g 7, .g 8, .g 9, .g 10] c_8_3 (by kernel_rfl)
           · refine SC.reg ?_
             refine SL.sim tk 1 [(2, vp 4 0), (4, vp 5 0), (7, vs 6), (71, vs 6)] [] [] [] (by kernel_rfl) ?_
             obtain ⟨l_729, e_l_729, hp⟩ := bind_inv hp
             refine SL.pre (pre_frz (i := 6) (sz := 18) (E := 38) (R := R_T_api_Queued) (l := l_3) (by kernel_rfl)) ?_
             refine SL.eff (e_sub (sz := 18) (E := 38) (R := R_T_api_Queued) (by_ := 136) (l := l_3) tk rfl (.inl ⟨6, rfl, (by kernel_rfl)⟩) rfl rfl e_l_729 (by kernel_rfl)) rfl (by kernel_rfl) ?_
             refine SL.sim tk 1 [(2, vp 4 0), (4, vp 5 0), (7, vs 7)] [] [] [] (by kernel_rfl) ?_
             refine SL.nilJ fun a w h => ?_
             exact ⟨w64 (f_1.Dropped + 1), l_729, hp, h.at (js := [.g 0, .g 1, .g 2, .g 3, .g 4, .g 5, .g 7]) (by kernel_rfl)⟩
         · refine SC.skipJ fun a w h => ?_
           exact ⟨f_1.Dropped, l_3, hp, h.at (js := [.g 0, .g 1, .g 2, .g 3, .g 4, .g 5, .z 6]) (by kernel_rfl)⟩
       · rintro a w ⟨x_4, l_5, hp, h⟩
         refine h.go ?_
         refine SC.r tk [(2, vp 4 0), (4, vp 5 0)] [(4, 28, (C_api_Friend ({ f_1 with Queue := l_5, Dropped := x_4 }) (.s 6) (.s 1)))] [] [] (by kernel_rfl) ?_
         refine SC.r tk [(4, vp 5 0)] [(5, 28, (C_api_Friend ({ f_1 with Queue := l_5, Dropped := x_4 }) (.s 6) (.s 1)))] [] [] (by kernel_rfl) ?_
         obtain rfl := some_inv' hp
         exact SC.re (js := [.g 0, .g 1, .g 2, .g 3, .g 6, .g 1]) tk (by kernel_rfl)

theorem ok_wirelessref51_Poll (F : Nat) (f_1 : T_api_Friend) (bit_2 : Int) (now_3 : Int) (r : T_api_Friend × (List T_api_Queued)) (hp : wirelessref51_Poll F f_1 bit_2 now_3 = some r) : Spec Try.prog 46 [.g (C_api_Friend f_1 (.s 0) (.s 1)), vi .i64 bit_2, vi .i64 now_3] [.rd 18 R_T_api_Queued f_1.Queue, .rd 1 (RInt .u16) f_1.Subs] (.u [.inr [ci .u16 r.1.Low, .s 2, .s 3, ci .i64 r.1.Bit, cb r.1.Sent, ci .i64 r.1.Polled, ci .i64 r.1.Counter, ci .i64 r.1.Dropped], .inl (.s 4)]) [.gone, .gone, .rd 18 R_T_api_Queued r.1.Queue, .rd 1 (RInt .u16) r.1.Subs, .rd 18 R_T_api_Queued r.2] := by
 refine Spec.enter Try.func46 rfl Try.ntmps46 rfl rfl fun fx => ?_
 refine SC.seq ?_
 refine SC.reg ?_
 refine SL.eff (e_box (E := 28) (C_api_Friend f_1 (.s 0) (.s 1)) (by kernel_rfl)) rfl (by kernel_rfl) ?_
 refine SL.eff (e_alloc (E := 28) tk (C_api_Friend (T_api_Friend.mk 0 [] [] 0 false 0 0 0) nl nl) (by kernel_rfl)) rfl (by kernel_rfl) ?_
 refine SL.sim tk 1 [(1, vi .i64 bit_2), (2, vi .i64 now_3), (3, vp 2 0), (6, vp 3 0)] [] [] [] (by kernel_rfl) ?_
 refine SL.nilThen ?_
 refine SC.seq ?_
 refine SC.r tk [(1, vi .i64 bit_2), (2, vi .i64 now_3), (3, vp 2 0), (6, vp 3 0), (19, vb ((f_1.Low == 0) || ((bit_2 != 0) && (bit_2 != 1))))] [] [] [] (by kernel_rfl) ?_
 refine SC.if' rfl hp (fun hp => ?_) (fun hp => ?_)
 · refine SC.r tk [(6, vp 3 0), (7, vn)] [(3, 28, (C_api_Friend f_1 (.s 0) (.s 1)))] [] [] (by kernel_rfl) ?_
   obtain rfl := some_inv' hp
   exact SC.re (js := [.g 0, .g 1, .g 0, .g 1, .n]) tk (by kernel_rfl)
 · refine SC.skipThen ?_
   refine SC.seq ?_
   refine SC.reg ?_
   refine SL.eff (e_lit (sz := 18) (E := 38) (R := R_T_api_Queued) (by_ := 136) tk [] ([] : (List T_api_Queued)) (by kernel_rfl) trivial rfl (by kernel_rfl) (by kernel_rfl)) rfl (by kernel_rfl) ?_
   refine SL.sim tk 2 [(1, vi .i64 bit_2), (2, vi .i64 now_3), (3, vp 2 0), (6, vp 3 0), (21, vs 4), (23, vs 0)] [] [] [] (by kernel_rfl) ?_
   obtain ⟨l_4, e_l_4, hp⟩ := bind_inv hp
   refine SL.eff (e_app (i := 4) (l := ([] : (List T_api_Queued))) (sz := 18) (E := 38) (R := R_T_api_Queued) (by_ := 136) (m := f_1.Queue) tk rfl (by kernel_rfl) rfl (.r (by kernel_rfl)) e_l_4 (by kernel_rfl)) rfl (by kernel_rfl) ?_
   refine SL.norm (itsN := [.rd 18 R_T_api_Queued f_1.Queue, .rd 1 (RInt .u16) f_1.Subs, .blk 28 (C_api_Friend f_1 (.s 0) (.s 1)), .blk 28 (C_api_Friend (T_api_Friend.mk 0 [] [] 0 false 0 0 0) nl nl), .gone, .own 18 38 R_T_api_Queued l_4]) (by kernel_rfl) ?_
   refine SL.sim tk 1 [(1, vi .i64 bit_2), (2, vi .i64 now_3), (3, vp 2 0), (6, vp 3 0), (8, vs 5)] [] [] [] (by kernel_rfl) ?_
   refine SL.nilThen ?_
   refine SC.cut (fun a w => ∃ (l_5 : (List T_api_Queued)), wirelessref51_Poll_j1 F f_1 bit_2 now_3 l_5 = some r ∧ A 58 2 fx [(1, vi .i64 bit_2), (2, vi .i64 now_3), (3, vp 2 0), (6, vp 3 0), (8, vs 4)] [.rd 18 R_T_api_Queued f_1.Queue, .rd 1 (RInt .u16) f_1.Subs, .blk 28 (C_api_Friend f_1 (.s 0) (.s 1)), .blk 28 (C_api_Friend (T_api_Friend.mk 0 [] [] 0 false 0 0 0) nl nl), .rd 18 R_T_api_Queued l_5] a w) ?_ ?_
   · refine SC.r tk [(1, vi .i64 bit_2), (2, vi .i64 now_3), (3, vp 2 0), (6, vp 3 0), (8, vs 5), (37, vb ((f_1.Sent && (bit_2 != f_1.Bit)) && (decide ((len l_4) > 0))))] [] [] [] (by kernel_rfl) ?_
     refine SC.if' rfl hp (fun hp => ?_) (fun hp => ?_)
     · refine SC.reg ?_
       refine SL.sim tk 1 [(1, vi .i64 bit_2), (2, vi .i64 now_3), (3, vp 2 0), (6, vp 3 0), (8, vs 5), (38, vs 5)] [] [] [] (by kernel_rfl) ?_
       obtain ⟨l_889, e_l_889, hp⟩ := bind_inv hp
       refine SL.pre (pre_frz (i := 5) (sz := 18) (E := 38) (R := R_T_api_Queued) (l := l_4) (by kernel_rfl)) ?_
       refine SL.eff (e_sub (sz := 18) (E := 38) (R := R_T_api_Queued) (by_ := 136) (l := l_4) tk rfl (.inl ⟨5, rfl, (by kernel_rfl)⟩) rfl rfl e_l_889 (by kernel_rfl)) rfl (by kernel_rfl) ?_
       refine SL.sim tk 1 [(1, vi .i64 bit_2), (2, vi .i64 now_3), (3, vp 2 0), (6, vp 3 0), (8, vs 6)] [] [] [] (by kernel_rfl) ?_
       refine SL.nilJ fun a w h => ?_
       exact ⟨l_889, hp, h.at (js := [.g 0, .g 1, .g 2, .g 3, .g 6]) (by kernel_rfl)⟩
     · refine SC.skipJ fun a w h => ?_
       exact ⟨l_4, hp, h.at (js := [.g 0, .g 1, .g 2, .g 3, .z 5]) (by kernel_rfl)⟩
   · rintro a w ⟨l_5, hp, h⟩
     refine h.go ?_
     refine SC.r tk [(1, vi .i64 bit_2), (2, vi .i64 now_3), (3, vp 2 0), (6, vp 3 0), (8, vs 4)] [(2, 28, (C_api_Friend ({ f_1 with Queue := l_5 }) (.s 4) (.s 1)))] [] [] (by kernel_rfl) ?_
     refine SC.r tk [(2, vi .i64 now_3), (3, vp 2 0), (6, vp 3 0), (8, vs 4)] [(2, 28, (C_api_Friend ({ f_1 with Queue := l_5, Bit := bit_2 }) (.s 4) (.s 1)))] [] [] (by kernel_rfl) ?_
     refine SC.r tk [(3, vp 2 0), (6, vp 3 0), (8, vs 4)] [(2, 28, (C_api_Friend ({ f_1 with Queue := l_5, Bit := bit_2, Polled := now_3 }) (.s 4) (.s 1)))] [] [] (by kernel_rfl) ?_
     refine SC.r tk [(3, vp 2 0), (6, vp 3 0), (8, vs 4)] [(2, 28, (C_api_Friend ({ f_1 with Queue := l_5, Bit := bit_2, Sent := decide ((len l_5) > 0), Polled := now_3 }) (.s 4) (.s 1)))] [] [] (by kernel_rfl) ?_
     refine SC.cut (fun a w => ∃ (l_6 : (List T_api_Queued)), wirelessref51_Poll_j2 F f_1 bit_2 now_3 l_5 l_6 = some r ∧ A 58 2 fx [(6, vp 2 0), (7, vs 4)] [.gone, .rd 1 (RInt .u16) f_1.Subs, .blk 28 (C_api_Friend ({ f_1 with Queue := l_5, Bit := bit_2, Sent := decide ((len l_5) > 0), Polled := now_3 }) (.s 3) (.s 1)), .rd 18 R_T_api_Queued l_5, .own 18 38 R_T_api_Queued l_6] a w) ?_ ?_
     · refine SC.draw MO [true, true, true, false, true] (by kernel_rfl) fun kap_7 D_8 => ?_
       refine SD.takes tk D_8 [] kn0 [0, 2, 3, 4, 5] [] [] [I, O, I, I, I, I, O, O, O, O] [(6, vp 3 0), (50, .g (C_api_Friend ({ f_1 with Queue := l_5, Bit := bit_2, Sent := decide ((len l_5) > 0), Polled := now_3 }) (.s 4) (.s 1))), (52, vs 4), (55, vi .i64 (imin 1 (len l_5)))] rfl (by kernel_rfl) (by kernel_rfl) (by kernel_rfl) ?_
       obtain ⟨l_489, e_l_489, hp⟩ := bind_inv hp
       obtain ⟨l_569, e_l_569, hp⟩ := bind_inv hp
       refine SD.lay 0 [I, I, I, I, I, I, I, I, I, I] [(6, vp 3 0), (7, vs 7)] [.rd 18 R_T_api_Queued f_1.Queue, .rd 1 (RInt .u16) f_1.Subs, .blk 28 (C_api_Friend ({ f_1 with Queue := l_5, Bit := bit_2, Sent := decide ((len l_5) > 0), Polled := now_3 }) (.s 4) (.s 1)), .blk 28 (C_api_Friend ({ f_1 with Queue := l_5, Bit := bit_2, Sent := decide ((len l_5) > 0), Polled := now_3 }) (.s 4) (.s 1)), .rd 18 R_T_api_Queued l_5, .gone, .gone, .own 18 38 R_T_api_Queued l_569] ?_ (fun c_8_0 => ?_)
       · refine SD.done (by kernel_rfl) fun a w h => ?_
         exact ⟨l_569, hp, h.at (js := [.g 0, .g 1, .g 3, .g 4, .g 7]) (by kernel_rfl)⟩
       · refine SD.lay 2 [I, I, I, I, I, I, I, I, O, O] [(6, vp 3 0), (50, .g (C_api_Friend ({ f_1 with Queue := l_5, Bit := bit_2, Sent := decide ((len l_5) > 0), Polled := now_3 }) (.s 4) (.s 1))), (57, vs 7)] [.rd 18 R_T_api_Queued f_1.Queue, .rd 1 (RInt .u16) f_1.Subs, .blk 28 (C_api_Friend ({ f_1 with Queue := l_5, Bit := bit_2, Sent := decide ((len l_5) > 0), Polled := now_3 }) (.s 4) (.s 1)), .blk 28 (C_api_Friend (T_api_Friend.mk 0 [] [] 0 false 0 0 0) nl nl), .rd 18 R_T_api_Queued l_5, .gone, .gone, .own 18 38 R_T_api_Queued l_569] ?_ (fun c_8_1 => ?_)
         · refine SD.all1 (i := 8) (by kernel_rfl) ?_
           refine SW.store D_8 tk (i := 8) (q := 3) (T := 28) (cs := (C_api_Friend ({ f_1 with Queue := l_5, Bit := bit_2, Sent := decide ((len l_5) > 0), Polled := now_3 }) (.s 4) (.s 1))) (bs' := [I, I, I, I, I, I, I, I, I, O]) rfl (by kernel_rfl) rfl rfl (by kernel_rfl) ?_
           refine SD.takes tk D_8 [] kn0 [9] [] [] [I, I, I, I, I, I, I, I, I, I] [(6, vp 3 0), (7, vs 7)] rfl (by kernel_rfl) (by kernel_rfl) (by kernel_rfl) ?_
           exact SD.vie D_8 [.g 0, .g 1, .g 2, .g 3, .g 4, .n, .n, .g 7] c_8_0 (by kernel_rfl)
         · refine SD.lay 3 [I, I, I, I, I, I, I, O, O, O] [(6, vp 3 0), (50, .g (C_api_Friend ({ f_1 with Queue := l_5, Bit := bit_2, Sent := decide ((len l_5) > 0), Polled := now_3 }) (.s 4) (.s 1))), (51, vs 5), (56, vs 6)] [.rd 18 R_T_api_Queued f_1.Queue, .rd 1 (RInt .u16) f_1.Subs, .blk 28 (C_api_Friend ({ f_1 with Queue := l_5, Bit := bit_2, Sent := decide ((len l_5) > 0), Polled := now_3 }) (.s 4) (.s 1)), .blk 28 (C_api_Friend (T_api_Friend.mk 0 [] [] 0 false 0 0 0) nl nl), .rd 18 R_T_api_Queued l_5, .own 18 38 R_T_api_Queued ([] : (List T_api_Queued)), .rd 18 R_T_api_Queued l_489] ?_ (fun c_8_2 => ?_)
           · refine SD.all1 (i := 7) (by kernel_rfl) ?_
             refine SW.eff D_8 (i := 7) (bs' := [I, I, I, I, I, I, I, I, O, O]) rfl (.inl rfl) rfl (e_app (i := 5) (l := ([] : (List T_api_Queued))) (sz := 18) (E := 38) (R := R_T_api_Queued) (by_ := 136) (m := l_489) tk rfl (by kernel_rfl) rfl (.r (by kernel_rfl)) e_l_569 (by kernel_rfl)) (by kernel_rfl) rfl (by kernel_rfl) ?_
             exact SD.vie D_8 [.g 0, .g 1, .g 2, .g 3, .g 4, .n, .n, .g 7] c_8_1 (by kernel_rfl)
           · refine SD.lay 4 [I, I, I, I, I, I, O, O, O, O] [(6, vp 3 0), (50, .g (C_api_Friend ({ f_1 with Queue := l_5, Bit := bit_2, Sent := decide ((len l_5) > 0), Polled := now_3 }) (.s 4) (.s 1))), (51, vs 5), (52, vs 4), (55, vi .i64 (imin 1 (len l_5)))] [.rd 18 R_T_api_Queued f_1.Queue, .rd 1 (RInt .u16) f_1.Subs, .blk 28 (C_api_Friend ({ f_1 with Queue := l_5, Bit := bit_2, Sent := decide ((len l_5) > 0), Polled := now_3 }) (.s 4) (.s 1)), .blk 28 (C_api_Friend (T_api_Friend.mk 0 [] [] 0 false 0 0 0) nl nl), .rd 18 R_T_api_Queued l_5, .own 18 38 R_T_api_Queued ([] : (List T_api_Queued))] ?_ (fun c_8_3 => ?_)
             · refine SD.all1 (i := 6) (by kernel_rfl) ?_
               refine SW.eff D_8 (i := 6) (bs' := [I, I, I, I, I, I, I, O, O, O]) rfl (.inl rfl) rfl (e_sub (sz := 18) (E := 38) (R := R_T_api_Queued) (by_ := 136) (l := l_5) tk rfl (.inl ⟨4, rfl, (by kernel_rfl)⟩) rfl rfl e_l_489 (by kernel_rfl)) (by kernel_rfl) rfl (by kernel_rfl) ?_
               exact SD.vie D_8 [.g 0, .g 1, .g 2, .g 3, .g 4, .g 5, .g 6] c_8_2 (by kernel_rfl)
             · refine SD.lay 4 [I, O, I, I, I, I, I, O, O, O] [(6, vp 3 0), (50, .g (C_api_Friend ({ f_1 with Queue := l_5, Bit := bit_2, Sent := decide ((len l_5) > 0), Polled := now_3 }) (.s 4) (.s 1))), (56, vs 5)] [.rd 18 R_T_api_Queued f_1.Queue, .rd 1 (RInt .u16) f_1.Subs, .blk 28 (C_api_Friend ({ f_1 with Queue := l_5, Bit := bit_2, Sent := decide ((len l_5) > 0), Polled := now_3 }) (.s 4) (.s 1)), .blk 28 (C_api_Friend (T_api_Friend.mk 0 [] [] 0 false 0 0 0) nl nl), .rd 18 R_T_api_Queued l_5, .rd 18 R_T_api_Queued l_489] ?_ (fun c_8_4 => ?_)
               · refine SD.all1 (i := 1) (by kernel_rfl) ?_
                 refine SW.eff D_8 (i := 1) (bs' := [I, I, I, I, I, I, I, O, O, O]) rfl (.inl rfl) rfl (e_lit (sz := 18) (E := 38) (R := R_T_api_Queued) (by_ := 136) tk [] ([] : (List T_api_Queued)) (by kernel_rfl) trivial rfl (by kernel_rfl) (by kernel_rfl)) (by kernel_rfl) rfl (by kernel_rfl) ?_
                 exact SD.vie D_8 [.g 0, .g 1, .g 2, .g 3, .g 4, .g 6, .g 5] c_8_2 (by kernel_rfl)
               · refine SD.all2 (i := 1) (j := 6) (by kernel_rfl) ?_ ?_
                 · refine SW.eff D_8 (i := 1) (bs' := [I, I, I, I, I, I, O, O, O, O]) rfl (.inl rfl) rfl (e_lit (sz := 18) (E := 38) (R := R_T_api_Queued) (by_ := 136) tk [] ([] : (List T_api_Queued)) (by kernel_rfl) trivial rfl (by kernel_rfl) (by kernel_rfl)) (by kernel_rfl) rfl (by kernel_rfl) ?_
                   refine SD.norm (itsN := [.rd 18 R_T_api_Queued f_1.Queue, .rd 1 (RInt .u16) f_1.Subs, .blk 28 (C_api_Friend ({ f_1 with Queue := l_5, Bit := bit_2, Sent := decide ((len l_5) > 0), Polled := now_3 }) (.s 4) (.s 1)), .blk 28 (C_api_Friend (T_api_Friend.mk 0 [] [] 0 false 0 0 0) nl nl), .rd 18 R_T_api_Queued l_5, .own 18 38 R_T_api_Queued ([] : (List T_api_Queued))]) (by kernel_rfl) ?_
                   exact SD.vie D_8 [.g 0, .g 1, .g 2, .g 3, .g 4, .g 5] c_8_3 (by kernel_rfl)
                 · refine SW.eff D_8 (i := 6) (bs' := [I, O, I, I, I, I, I, O, O, O]) rfl (.inl rfl) rfl (e_sub (sz := 18) (E := 38) (R := R_T_api_Queued) (by_ := 136) (l := l_5) tk rfl (.inl ⟨4, rfl, (by kernel_rfl)⟩) rfl rfl e_l_489 (by kernel_rfl)) (by kernel_rfl) rfl (by kernel_rfl) ?_
                   refine SD.norm (itsN := [.rd 18 R_T_api_Queued f_1.Queue, .rd 1 (RInt .u16) f_1.Subs, .blk 28 (C_api_Friend ({ f_1 with Queue := l_5, Bit := bit_2, Sent := decide ((len l_5) > 0), Polled := now_3 }) (.s 4) (.s 1)), .blk 28 (C_api_Friend (T_api_Friend.mk 0 [] [] 0 false 0 0 0) nl nl), .rd 18 R_T_api_Queued l_5, .rd 18 R_T_api_Queued l_489]) (by kernel_rfl) ?_
                   exact SD.vie D_8 [.g 0, .g 1, .g 2, .g 3, .g 4, .g 5] c_8_4 (by kernel_rfl)
     · rintro a w ⟨l_6, hp, h⟩
       refine h.go ?_
       obtain rfl := some_inv' hp
       exact SC.re (js := [.g 0, .g 1, .g 3, .g 1, .z 4]) tk (by kernel_rfl)

theorem ok_netpdu_Group (F : Nat) (a_1 : Int) (r : Bool) (hp : netpdu_Group F a_1 = some r) : Spec Try.prog 66 [vi .u16 a_1] [] (vb r) [] := by
 refine Spec.enter Try.func66 rfl Try.ntmps66 rfl rfl fun fx => ?_
 refine SC.r tk [(0, vi .u16 a_1)] [] [] [] (by kernel_rfl) ?_
 refine SC.r tk [(2, vb (decide (a_1 ≥ 49152)))] [] [] [] (by kernel_rfl) ?_
 obtain rfl := some_inv' hp
 exact SC.re (js := []) tk (by kernel_rfl)

theorem ok_cmp_isNaN_uint16 (F : Nat) (x_1 : Int) (r : Bool) (hp : cmp_isNaN_uint16 F x_1 = some r) : Spec Try.prog 77 [vi .u16 x_1] [] (vb r) [] := by
 refine Spec.enter Try.func77 rfl Try.ntmps77 rfl rfl fun fx => ?_
 refine SC.r tk [(0, vi .u16 x_1)] [] [] [] (by kernel_rfl) ?_
 refine SC.r tk [(2, vb (x_1 != x_1))] [] [] [] (by kernel_rfl) ?_
 obtain rfl := some_inv' hp
 exact SC.re (js := []) tk (by kernel_rfl)

theorem ok_cmp_Less_uint16 (F : Nat) (x_1 : Int) (y_2 : Int) (r : Bool) (hp : cmp_Less_uint16 F x_1 y_2 = some r) : Spec Try.prog 73 [vi .u16 x_1, vi .u16 y_2] [] (vb r) [] := by
 refine Spec.enter Try.func73 rfl Try.ntmps73 rfl rfl fun fx => ?_
 refine SC.r tk [(0, vi .u16 x_1), (1, vi .u16 y_2)] [] [] [] (by kernel_rfl) ?_
 refine SC.seq ?_
 refine SC.reg ?_
 refine SL.sim tk 1 [(0, vi .u16 x_1), (1, vi .u16 y_2), (5, vi .u16 x_1)] [] [] [] (by kernel_rfl) ?_
 obtain ⟨x_3, e_x_3, hp⟩ := bind_inv hp
 refine SL.eff (e_c Try.call77 (ok_cmp_isNaN_uint16 F x_1 _ e_x_3) [] [vi .u16 x_1] (vb x_3) (by kernel_rfl) (.inl rfl)) rfl (by kernel_rfl) ?_
 refine SL.sim tk 1 [(0, vi .u16 x_1), (1, vi .u16 y_2), (7, vb x_3)] [] [] [] (by kernel_rfl) ?_
 obtain ⟨z_5, hz, hpr⟩ := bind_inv hp
 clear hp
 refine SL.cutAt 4 (fun a w => A 17 0 fx [(0, vi .u16 x_1), (1, vi .u16 y_2), (11, vb z_5)] [] a w) ?_ ?_
 · have hp := hz
   rcases Bool.eq_false_or_eq_true (x_3) with hg_4 | hg_4
   · replace hp := if_t hp hg_4
     refine SL.yes rfl rfl hg_4 ?_
     refine SL.sim tk 1 [(0, vi .u16 x_1), (1, vi .u16 y_2), (7, vb x_3), (8, vi .u16 y_2)] [] [] [] (by kernel_rfl) ?_
     refine SL.yes rfl rfl hg_4 ?_
     obtain ⟨x_7, e_x_7, hp⟩ := bind_inv hp
     refine SL.eff (e_c Try.call77 (ok_cmp_isNaN_uint16 F y_2 _ e_x_7) [] [vi .u16 y_2] (vb x_7) (by kernel_rfl) (.inl rfl)) rfl (by kernel_rfl) ?_
     refine SL.norm (itsN := []) (by kernel_rfl) ?_
     refine SL.yes rfl rfl hg_4 ?_
     refine SL.sim tk 1 [(0, vi .u16 x_1), (1, vi .u16 y_2), (7, vb x_3), (10, vb (!x_7))] [] [] [] (by kernel_rfl) ?_
     refine SL.pickt rfl hg_4 rfl rfl ?_
     refine SL.nilJ fun a w h => ?_
     obtain rfl := some_inv' hp
     exact h.at (js := []) (by kernel_rfl)
   · replace hp := if_f hp hg_4
     refine SL.no rfl rfl hg_4 rfl ?_
     refine SL.no rfl rfl hg_4 rfl ?_
     refine SL.no rfl rfl hg_4 rfl ?_
     refine SL.pickf rfl hg_4 rfl rfl ?_
     refine SL.nilJ fun a w h => ?_
     obtain rfl := some_inv' hp
     exact h.at (js := []) (by kernel_rfl)
 · intro a w h
   have hp := hpr; clear hpr hz
   refine h.goL ?_
   refine SL.sim tk 6 [(4, vb (z_5 || (decide (x_1 < y_2))))] [] [] [] (by kernel_rfl) ?_
   refine SL.nilThen ?_
   obtain rfl := some_inv' hp
   exact SC.re (js := []) tk (by kernel_rfl)

theorem ok_slices_isNaN_uint16 (F : Nat) (x_1 : Int) (r : Bool) (hp : slices_isNaN_uint16 F x_1 = some r) : Spec Try.prog 74 [vi .u16 x_1] [] (vb r) [] := by
 refine Spec.enter Try.func74 rfl Try.ntmps74 rfl rfl fun fx => ?_
 refine SC.r tk [(0, vi .u16 x_1)] [] [] [] (by kernel_rfl) ?_
 refine SC.r tk [(2, vb (x_1 != x_1))] [] [] [] (by kernel_rfl) ?_
 obtain rfl := some_inv' hp
 exact SC.re (js := []) tk (by kernel_rfl)

theorem ok_slices_BinarySearch_uint16_uint16 (F : Nat) (x_1 : (List Int)) (target_2 : Int) (r : Int × Bool) (hp : slices_BinarySearch_uint16_uint16 F x_1 target_2 = some r) : Spec Try.prog 67 [vs 0, vi .u16 target_2] [.rd 1 (RInt .u16) x_1] (.u [.inl (ci .i64 r.1), .inl (cb r.2)]) [.gone] := by
 refine Spec.enter Try.func67 rfl Try.ntmps67 rfl rfl fun fx => ?_
 refine SC.r tk [(0, vs 0), (1, vi .u16 target_2)] [] [] [] (by kernel_rfl) ?_
 refine SC.r tk [(0, vs 0), (1, vi .u16 target_2), (6, vi .i64 (len x_1))] [] [] [] (by kernel_rfl) ?_
 refine SC.r tk [(0, vs 0), (1, vi .u16 target_2), (6, vi .i64 (len x_1)), (7, vi .i64 0), (8, vi .i64 (len x_1))] [] [] [] (by kernel_rfl) ?_
 refine SC.cut (fun a w => ∃ (x_3 : Int), slices_BinarySearch_uint16_uint16_j1 F x_1 target_2 x_3 = some r ∧ A 54 1 fx [(0, vs 0), (1, vi .u16 target_2), (6, vi .i64 (len x_1)), (7, vi .i64 x_3)] [.rd 1 (RInt .u16) x_1] a w) ?_ ?_
 · refine SC.block ?_
   obtain ⟨o1, hi1, ho1⟩ := bind_inv hp
   clear hp
   refine SC.loop (fun n a w => ∃ (x_13 : Int) (x_14 : Int), iter (fun s => slices_BinarySearch_uint16_uint16_l1 F x_1 target_2 s.1 s.2) n (x_13, x_14) = some o1 ∧ A 54 1 fx [(0, vs 0), (1, vi .u16 target_2), (6, vi .i64 (len x_1)), (7, vi .i64 x_13), (8, vi .i64 x_14)] [.rd 1 (RInt .u16) x_1] a w) F (fun a w h => ⟨0, len x_1, hi1, h.at (js := [.g 0]) (by kernel_rfl)⟩) ?_
   rintro n1 a w ⟨x_13, x_14, hi1, h⟩
   obtain ⟨n1, q1, rfl, hp, hs1⟩ := iter_inv hi1
   replace hp : slices_BinarySearch_uint16_uint16_l1 F x_1 target_2 x_13 x_14 = some q1 := hp
   clear hi1
   refine h.go ?_
   refine SC.seq ?_
   refine SC.r tk [(0, vs 0), (1, vi .u16 target_2), (6, vi .i64 (len x_1)), (7, vi .i64 x_13), (8, vi .i64 x_14), (15, vb (decide (x_13 < x_14)))] [] [] [] (by kernel_rfl) ?_
   refine SC.if' rfl hp (fun hp => ?_) (fun hp => ?_)
   · refine SC.skipThen ?_
     refine SC.block ?_
     refine SC.r tk [(0, vs 0), (1, vi .u16 target_2), (6, vi .i64 (len x_1)), (7, vi .i64 x_13), (8, vi .i64 x_14), (9, vi .i64 (w64 (shrp (wu64 (w64 (x_13 + x_14))) 1)))] [] [.bin .shr .u64 (wu64 (w64 (x_13 + x_14))) 1 (shrp (wu64 (w64 (x_13 + x_14))) 1) (by kernel_rfl)] [wu64 (w64 (x_13 + x_14)), 1] (by kernel_rfl) ?_
     refine SC.seq ?_
     refine SC.reg ?_
     obtain ⟨x_15, e_x_15, hp⟩ := bind_inv hp
     refine SL.pre (pre_ix (i := 0) (iv := w64 (shrp (wu64 (w64 (x_13 + x_14))) 1)) (sz := 1) (R := (RInt .u16)) (l := x_1) (by kernel_rfl) rfl e_x_15) ?_
     refine SL.sim tk 5 [(0, vs 0), (1, vi .u16 target_2), (6, vi .i64 (len x_1)), (7, vi .i64 x_13), (8, vi .i64 x_14), (9, vi .i64 (w64 (shrp (wu64 (w64 (x_13 + x_14))) 1))), (25, vi .u16 x_15), (26, vi .u16 target_2)] [] [.el 1] [w64 (shrp (wu64 (w64 (x_13 + x_14))) 1)] (by kernel_rfl) ?_
     obtain ⟨x_16, e_x_16, hp⟩ := bind_inv hp
     refine SL.eff (e_c Try.call73 (ok_cmp_Less_uint16 F x_15 target_2 _ e_x_16) [] [vi .u16 x_15, vi .u16 target_2] (vb x_16) (by kernel_rfl) (.inl rfl)) rfl (by kernel_rfl) ?_
     refine SL.nilThen ?_
     refine SC.if' rfl hp (fun hp => ?_) (fun hp => ?_)
     · refine SC.reg ?_
       refine SL.sim tk 3 [(0, vs 0), (1, vi .u16 target_2), (6, vi .i64 (len x_1)), (7, vi .i64 (w64 ((w64 (shrp (wu64 (w64 (x_13 + x_14))) 1)) + 1))), (8, vi .i64 x_14)] [] [] [] (by kernel_rfl) ?_
       refine SL.nilJ fun a w h => ?_
       exact ⟨n1, Nat.lt_succ_self _, w64 ((w64 (shrp (wu64 (w64 (x_13 + x_14))) 1)) + 1), x_14, next_inv hp hs1, h.at (js := [.g 0]) (by kernel_rfl)⟩
     · refine SC.reg ?_
       refine SL.sim tk 2 [(0, vs 0), (1, vi .u16 target_2), (6, vi .i64 (len x_1)), (7, vi .i64 x_13), (8, vi .i64 (w64 (shrp (wu64 (w64 (x_13 + x_14))) 1)))] [] [] [] (by kernel_rfl) ?_
       refine SL.nilJ fun a w h => ?_
       exact ⟨n1, Nat.lt_succ_self _, x_13, w64 (shrp (wu64 (w64 (x_13 + x_14))) 1), next_inv hp hs1, h.at (js := [.g 0]) (by kernel_rfl)⟩
   · refine SC.exitJ rfl fun a w h => ?_
     have ho := done_inv hp hs1
     replace hp := ho1
     try rw [ho] at hp
     exact ⟨x_13, hp, h.at (js := [.g 0]) (by kernel_rfl)⟩
 · rintro a w ⟨x_3, hp, h⟩
   refine h.go ?_
   refine SC.seq ?_
   refine SC.reg ?_
   refine SL.sim tk 5 [(0, vs 0), (1, vi .u16 target_2), (7, vi .i64 x_3), (31, vi .i64 x_3), (35, vb (decide (x_3 < (len x_1))))] [] [] [] (by kernel_rfl) ?_
   obtain ⟨z_5, hz, hpr⟩ := bind_inv hp
   clear hp
   refine SL.cutAt 18 (fun a w => A 54 1 fx [(31, vi .i64 x_3), (53, vb z_5)] [.gone] a w) ?_ ?_
   · have hp := hz
     rcases Bool.eq_false_or_eq_true (decide (x_3 < (len x_1))) with hg_4 | hg_4
     · replace hp := if_t hp hg_4
       refine SL.yes rfl rfl hg_4 ?_
       refine SL.sim tk 1 [(0, vs 0), (1, vi .u16 target_2), (7, vi .i64 x_3), (31, vi .i64 x_3), (35, vb (decide (x_3 < (len x_1)))), (36, vs 0)] [] [] [] (by kernel_rfl) ?_
       refine SL.yes rfl rfl hg_4 ?_
       refine SL.sim tk 1 [(0, vs 0), (1, vi .u16 target_2), (7, vi .i64 x_3), (31, vi .i64 x_3), (35, vb (decide (x_3 < (len x_1)))), (36, vs 0), (37, vi .i64 x_3)] [] [] [] (by kernel_rfl) ?_
       refine SL.yes rfl rfl hg_4 ?_
       obtain ⟨x_7, e_x_7, hp⟩ := bind_inv hp
       refine SL.pre (pre_ix (i := 0) (iv := x_3) (sz := 1) (R := (RInt .u16)) (l := x_1) (by kernel_rfl) rfl e_x_7) ?_
       refine SL.sim tk 1 [(0, vs 0), (1, vi .u16 target_2), (7, vi .i64 x_3), (31, vi .i64 x_3), (35, vb (decide (x_3 < (len x_1)))), (38, vp 1 0)] [] [.el 1] [x_3] (by kernel_rfl) ?_
       refine SL.yes rfl rfl hg_4 ?_
       refine SL.sim tk 1 [(0, vs 0), (1, vi .u16 target_2), (7, vi .i64 x_3), (31, vi .i64 x_3), (35, vb (decide (x_3 < (len x_1)))), (39, vi .u16 x_7)] [] [] [] (by kernel_rfl) ?_
       refine SL.yes rfl rfl hg_4 ?_
       refine SL.sim tk 1 [(0, vs 0), (1, vi .u16 target_2), (7, vi .i64 x_3), (31, vi .i64 x_3), (35, vb (decide (x_3 < (len x_1)))), (39, vi .u16 x_7), (40, vi .u16 target_2)] [] [] [] (by kernel_rfl) ?_
       refine SL.yes rfl rfl hg_4 ?_
       refine SL.sim tk 1 [(0, vs 0), (1, vi .u16 target_2), (7, vi .i64 x_3), (31, vi .i64 x_3), (35, vb (decide (x_3 < (len x_1)))), (41, vb (x_7 == target_2))] [] [] [] (by kernel_rfl) ?_
       refine SL.yes rfl rfl hg_4 ?_
       refine SL.sim tk 1 [(0, vs 0), (1, vi .u16 target_2), (7, vi .i64 x_3), (31, vi .i64 x_3), (35, vb (decide (x_3 < (len x_1)))), (42, vb (x_7 == target_2))] [] [] [] (by kernel_rfl) ?_
       rcases Bool.eq_false_or_eq_true ((x_7 == target_2)) with hg_8 | hg_8
       · replace hp := if_t hp hg_8
         refine SL.no rfl rfl hg_8 rfl ?_
         refine SL.no rfl rfl hg_8 rfl ?_
         refine SL.no rfl rfl hg_8 rfl ?_
         refine SL.no rfl rfl hg_8 rfl ?_
         refine SL.no rfl rfl hg_8 rfl ?_
         refine SL.no rfl rfl hg_8 rfl ?_
         refine SL.noU rfl rfl rfl ?_
         refine SL.noU rfl rfl rfl ?_
         refine SL.no rfl rfl hg_8 rfl ?_
         refine SL.yes rfl rfl hg_4 ?_
         refine SL.pickt rfl hg_8 rfl rfl ?_
         refine SL.pickt rfl hg_4 rfl rfl ?_
         refine SL.nilJ fun a w h => ?_
         obtain rfl := some_inv' hp
         exact h.at (js := [.g 0]) (by kernel_rfl)
       · replace hp := if_f hp hg_8
         refine SL.yes rfl rfl hg_8 ?_
         refine SL.sim tk 1 [(1, vi .u16 target_2), (7, vi .i64 x_3), (31, vi .i64 x_3), (35, vb (decide (x_3 < (len x_1)))), (42, vb (x_7 == target_2)), (43, vs 0)] [] [] [] (by kernel_rfl) ?_
         refine SL.yes rfl rfl hg_8 ?_
         refine SL.sim tk 1 [(1, vi .u16 target_2), (31, vi .i64 x_3), (35, vb (decide (x_3 < (len x_1)))), (42, vb (x_7 == target_2)), (43, vs 0), (44, vi .i64 x_3)] [] [] [] (by kernel_rfl) ?_
         refine SL.yes rfl rfl hg_8 ?_
         obtain ⟨x_9, e_x_9, hp⟩ := bind_inv hp
         refine SL.pre (pre_ix (i := 0) (iv := x_3) (sz := 1) (R := (RInt .u16)) (l := x_1) (by kernel_rfl) rfl e_x_9) ?_
         refine SL.sim tk 1 [(1, vi .u16 target_2), (31, vi .i64 x_3), (35, vb (decide (x_3 < (len x_1)))), (42, vb (x_7 == target_2)), (45, vp 2 0)] [] [.el 2] [x_3] (by kernel_rfl) ?_
         refine SL.yes rfl rfl hg_8 ?_
         refine SL.sim tk 1 [(1, vi .u16 target_2), (31, vi .i64 x_3), (35, vb (decide (x_3 < (len x_1)))), (42, vb (x_7 == target_2)), (46, vi .u16 x_9)] [] [] [] (by kernel_rfl) ?_
         refine SL.yes rfl rfl hg_8 ?_
         obtain ⟨x_10, e_x_10, hp⟩ := bind_inv hp
         refine SL.eff (e_c Try.call74 (ok_slices_isNaN_uint16 F x_9 _ e_x_10) [] [vi .u16 x_9] (vb x_10) (by kernel_rfl) (.inl rfl)) rfl (by kernel_rfl) ?_
         refine SL.norm (itsN := [.rd 1 (RInt .u16) x_1, .elt (some (0, x_3)) false [ci .u16 x_7], .elt (some (0, x_3)) false [ci .u16 x_9]]) (by kernel_rfl) ?_
         refine SL.yes rfl rfl hg_8 ?_
         refine SL.sim tk 1 [(1, vi .u16 target_2), (31, vi .i64 x_3), (35, vb (decide (x_3 < (len x_1)))), (42, vb (x_7 == target_2)), (48, vb x_10)] [] [] [] (by kernel_rfl) ?_
         rcases Bool.eq_false_or_eq_true (x_10) with hg_11 | hg_11
         · replace hp := if_t hp hg_11
           refine SL.yes rfl rfl hg_11 ?_
           refine SL.sim tk 1 [(31, vi .i64 x_3), (35, vb (decide (x_3 < (len x_1)))), (42, vb (x_7 == target_2)), (48, vb x_10), (49, vi .u16 target_2)] [] [] [] (by kernel_rfl) ?_
           refine SL.yes rfl rfl hg_11 ?_
           obtain ⟨x_12, e_x_12, hp⟩ := bind_inv hp
           refine SL.eff (e_c Try.call74 (ok_slices_isNaN_uint16 F target_2 _ e_x_12) [] [vi .u16 target_2] (vb x_12) (by kernel_rfl) (.inl rfl)) rfl (by kernel_rfl) ?_
           refine SL.yes rfl rfl hg_8 ?_
           refine SL.pickt rfl hg_11 rfl rfl ?_
           refine SL.yes rfl rfl hg_4 ?_
           refine SL.pickf rfl hg_8 rfl rfl ?_
           refine SL.pickt rfl hg_4 rfl rfl ?_
           refine SL.nilJ fun a w h => ?_
           obtain rfl := some_inv' hp
           exact h.at (js := [.g 0]) (by kernel_rfl)
         · replace hp := if_f hp hg_11
           refine SL.no rfl rfl hg_11 rfl ?_
           refine SL.no rfl rfl hg_11 rfl ?_
           refine SL.yes rfl rfl hg_8 ?_
           refine SL.pickf rfl hg_11 rfl rfl ?_
           refine SL.yes rfl rfl hg_4 ?_
           refine SL.pickf rfl hg_8 rfl rfl ?_
           refine SL.pickt rfl hg_4 rfl rfl ?_
           refine SL.nilJ fun a w h => ?_
           obtain rfl := some_inv' hp
           exact h.at (js := [.g 0]) (by kernel_rfl)
     · replace hp := if_f hp hg_4
       refine SL.no rfl rfl hg_4 rfl ?_
       refine SL.no rfl rfl hg_4 rfl ?_
       refine SL.no rfl rfl hg_4 rfl ?_
       refine SL.no rfl rfl hg_4 rfl ?_
       refine SL.no rfl rfl hg_4 rfl ?_
       refine SL.no rfl rfl hg_4 rfl ?_
       refine SL.no rfl rfl hg_4 rfl ?_
       refine SL.noU rfl rfl rfl ?_
       refine SL.noU rfl rfl rfl ?_
       refine SL.noU rfl rfl rfl ?_
       refine SL.noU rfl rfl rfl ?_
       refine SL.noU rfl rfl rfl ?_
       refine SL.noU rfl rfl rfl ?_
       refine SL.noU rfl rfl rfl ?_
       refine SL.noU rfl rfl rfl ?_
       refine SL.noU rfl rfl rfl ?_
       refine SL.no rfl rfl hg_4 rfl ?_
       refine SL.pickf rfl hg_4 rfl rfl ?_
       refine SL.nilJ fun a w h => ?_
       obtain rfl := some_inv' hp
       exact h.at (js := [.g 0]) (by kernel_rfl)
   · intro a w h
     have hp := hpr; clear hpr hz
     refine h.goL ?_
     refine SL.sim tk 2 [(4, vi .i64 x_3), (5, vb z_5)] [] [] [] (by kernel_rfl) ?_
     refine SL.nilThen ?_
     obtain rfl := some_inv' hp
     exact SC.re (js := [.g 0]) tk (by kernel_rfl)

theorem ok_slices_Insert_uint16_uint16 (F : Nat) (s_1 : (List Int)) (i_2 : Int) (v_3 : (List Int)) (r : (List Int)) (hp : slices_Insert_uint16_uint16 F s_1 i_2 v_3 = some r) : Spec Try.prog 75 [vs 0, vi .i64 i_2, vs 1] [.own 1 24 (RInt .u16) s_1, .own 1 24 (RInt .u16) v_3] (vs 2) [.gone, .gone, .own 1 24 (RInt .u16) r] := by
 unfold slices_Insert_uint16_uint16 at hp
 split at hp
 · rename_i h
   obtain ⟨x, rfl⟩ := List.length_eq_one_iff.1 h.2.2.1
   injection hp with hp
   subst hp
   exact spec_ins75 _ _ _ h.1 h.2.1 h.2.2.2
 · cases hp

theorem ok_friend_with_uint16 (F : Nat) (l_1 : (List Int)) (i_2 : Int) (x_3 : Int) (r : (List Int)) (hp : friend_with_uint16 F l_1 i_2 x_3 = some r) : Spec Try.prog 68 [vs 0, vi .i64 i_2, vi .u16 x_3] [.rd 1 (RInt .u16) l_1] (vs 1) [.gone, .rd 1 (RInt .u16) r] := by
 refine Spec.enter Try.func68 rfl Try.ntmps68 rfl rfl fun fx => ?_
 refine SC.r tk [(0, vs 0), (1, vi .i64 i_2), (2, vi .u16 x_3)] [] [] [] (by kernel_rfl) ?_
 refine SC.seq ?_
 refine SC.reg ?_
 refine SL.sim tk 1 [(1, vi .i64 i_2), (2, vi .u16 x_3), (7, vs 0)] [] [] [] (by kernel_rfl) ?_
 obtain ⟨x_4, e_x_4, hp⟩ := bind_inv hp
 refine SL.eff (e_c Try.call33 (ok_slices_Clone_uint16_uint16 F l_1 _ e_x_4) [.g 0] [vs 0] (vs 1) (by kernel_rfl) (.inl rfl)) rfl (by kernel_rfl) ?_
 refine SL.sim tk 2 [(8, vs 1), (9, vi .i64 i_2), (10, vi .u16 x_3)] [] [] [] (by kernel_rfl) ?_
 refine SL.eff (e_lit (sz := 1) (E := 24) (R := (RInt .u16)) (by_ := 2) tk [[ci .u16 x_3]] [x_3] (by kernel_rfl) ⟨Clo.int, trivial⟩ rfl (by kernel_rfl) (by kernel_rfl)) rfl (by kernel_rfl) ?_
 obtain ⟨x_5, e_x_5, hp⟩ := bind_inv hp
 refine SL.eff (e_c Try.call75 (ok_slices_Insert_uint16_uint16 F x_4 i_2 [x_3] _ e_x_5) [.g 1, .g 2] [vs 1, vi .i64 i_2, vs 2] (vs 3) (by kernel_rfl) (.inl rfl)) rfl (by kernel_rfl) ?_
 refine SL.norm (itsN := [.rd 1 (RInt .u16) l_1, .gone, .gone, .own 1 24 (RInt .u16) x_5]) (by kernel_rfl) ?_
 refine SL.sim tk 1 [(6, vs 3)] [] [] [] (by kernel_rfl) ?_
 refine SL.nilThen ?_
 obtain rfl := some_inv' hp
 exact SC.re (js := [.g 0, .z 3]) tk (by kernel_rfl)

theorem ok_friend_Subscribe (F : Nat) (f_1 : T_api_Friend) (group_2 : Int) (now_3 : Int) (r : T_api_Friend) (hp : friend_Subscribe F f_1 group_2 now_3 = some r) : Spec Try.prog 48 [.g (C_api_Friend f_1 (.s 0) (.s 1)), vi .u16 group_2, vi .i64 now_3] [.rd 18 R_T_api_Queued f_1.Queue, .rd 1 (RInt .u16) f_1.Subs] (.g [ci .u16 r.Low, .s 2, .s 3, ci .i64 r.Bit, cb r.Sent, ci .i64 r.Polled, ci .i64 r.Counter, ci .i64 r.Dropped]) [.gone, .gone, .rd 18 R_T_api_Queued r.Queue, .rd 1 (RInt .u16) r.Subs] := by
 refine Spec.enter Try.func48 rfl Try.ntmps48 rfl rfl fun fx => ?_
 refine SC.seq ?_
 refine SC.reg ?_
 refine SL.eff (e_box (E := 28) (C_api_Friend f_1 (.s 0) (.s 1)) (by kernel_rfl)) rfl (by kernel_rfl) ?_
 refine SL.eff (e_alloc (E := 28) tk (C_api_Friend (T_api_Friend.mk 0 [] [] 0 false 0 0 0) nl nl) (by kernel_rfl)) rfl (by kernel_rfl) ?_
 refine SL.nilThen ?_
 refine SC.seq ?_
 refine SC.reg ?_
 refine SL.sim tk 1 [(1, vi .u16 group_2), (2, vi .i64 now_3), (3, vp 2 0), (6, vp 3 0), (9, .g (C_api_Friend f_1 (.s 0) (.s 1)))] [] [] [] (by kernel_rfl) ?_
 obtain ⟨x_4, e_x_4, hp⟩ := bind_inv hp
 refine SL.eff (e_c Try.call25 (ok_friend_apart F f_1 _ e_x_4) [.g 0, .g 1] [.g (C_api_Friend f_1 (.s 0) (.s 1))] (.g (C_api_Friend x_4 (.s 4) (.s 5))) (by kernel_rfl) (.inl rfl)) rfl (by kernel_rfl) ?_
 refine SL.norm (itsN := [.rd 18 R_T_api_Queued f_1.Queue, .rd 1 (RInt .u16) f_1.Subs, .blk 28 (C_api_Friend f_1 (.s 0) (.s 1)), .blk 28 (C_api_Friend (T_api_Friend.mk 0 [] [] 0 false 0 0 0) nl nl), .rd 18 R_T_api_Queued x_4.Queue, .rd 1 (RInt .u16) x_4.Subs]) (by kernel_rfl) ?_
 refine SL.sim tk 1 [(1, vi .u16 group_2), (2, vi .i64 now_3), (3, vp 2 0), (6, vp 3 0)] [(2, 28, (C_api_Friend x_4 (.s 4) (.s 5)))] [] [] (by kernel_rfl) ?_
 refine SL.nilThen ?_
 refine SC.seq ?_
 refine SC.seq ?_
 refine SC.reg ?_
 refine SL.sim tk 4 [(1, vi .u16 group_2), (2, vi .i64 now_3), (3, vp 2 0), (6, vp 3 0), (14, vb (x_4.Low == 0))] [] [] [] (by kernel_rfl) ?_
 obtain ⟨z_6, hz, hpr⟩ := bind_inv hp
 clear hp
 refine SL.cutAt 4 (fun a w => A 44 2 fx [(1, vi .u16 group_2), (2, vi .i64 now_3), (3, vp 2 0), (6, vp 5 0), (18, vb z_6)] [.gone, .gone, .blk 28 (C_api_Friend x_4 (.s 3) (.s 4)), .rd 18 R_T_api_Queued x_4.Queue, .rd 1 (RInt .u16) x_4.Subs, .blk 28 (C_api_Friend (T_api_Friend.mk 0 [] [] 0 false 0 0 0) nl nl)] a w) ?_ ?_
 · have hp := hz
   rcases Bool.eq_false_or_eq_true ((x_4.Low == 0)) with hg_5 | hg_5
   · replace hp := if_t hp hg_5
     refine SL.no rfl rfl hg_5 rfl ?_
     refine SL.no rfl rfl hg_5 rfl ?_
     refine SL.no rfl rfl hg_5 rfl ?_
     refine SL.pickt rfl hg_5 rfl rfl ?_
     refine SL.nilJ fun a w h => ?_
     obtain rfl := some_inv' hp
     exact h.at (js := [.g 0, .g 1, .g 2, .g 4, .g 5, .g 3]) (by kernel_rfl)
   · replace hp := if_f hp hg_5
     refine SL.yes rfl rfl hg_5 ?_
     refine SL.sim tk 1 [(1, vi .u16 group_2), (2, vi .i64 now_3), (3, vp 2 0), (6, vp 3 0), (14, vb (x_4.Low == 0)), (15, vi .u16 group_2)] [] [] [] (by kernel_rfl) ?_
     refine SL.yes rfl rfl hg_5 ?_
     obtain ⟨x_11, e_x_11, hp⟩ := bind_inv hp
     refine SL.eff (e_c Try.call66 (ok_netpdu_Group F group_2 _ e_x_11) [] [vi .u16 group_2] (vb x_11) (by kernel_rfl) (.inl rfl)) rfl (by kernel_rfl) ?_
     refine SL.yes rfl rfl hg_5 ?_
     refine SL.sim tk 1 [(1, vi .u16 group_2), (2, vi .i64 now_3), (3, vp 2 0), (6, vp 3 0), (14, vb (x_4.Low == 0)), (17, vb (!x_11))] [] [] [] (by kernel_rfl) ?_
     refine SL.pickf rfl hg_5 rfl rfl ?_
     refine SL.nilJ fun a w h => ?_
     obtain rfl := some_inv' hp
     exact h.at (js := [.g 0, .g 1, .g 2, .g 4, .g 5, .g 3]) (by kernel_rfl)
 · intro a w h
   have hp := hpr; clear hpr hz
   refine h.goL ?_
   refine SL.nilThen ?_
   refine SC.if' rfl hp (fun hp => ?_) (fun hp => ?_)
   · refine SC.r tk [(6, vp 5 0)] [(5, 28, (C_api_Friend x_4 (.s 3) (.s 4)))] [] [] (by kernel_rfl) ?_
     obtain rfl := some_inv' hp
     exact SC.re (js := [.g 0, .g 1, .g 3, .g 4]) tk (by kernel_rfl)
   · refine SC.skipThen ?_
     refine SC.r tk [(1, vi .u16 group_2), (3, vp 2 0), (6, vp 5 0)] [(2, 28, (C_api_Friend ({ x_4 with Polled := now_3 }) (.s 3) (.s 4)))] [] [] (by kernel_rfl) ?_
     refine SC.seq ?_
     refine SC.reg ?_
     refine SL.sim tk 3 [(1, vi .u16 group_2), (3, vp 2 0), (6, vp 5 0), (24, vs 4), (25, vi .u16 group_2)] [] [] [] (by kernel_rfl) ?_
     obtain ⟨x_7, e_x_7, hp⟩ := bind_inv hp
     refine SL.eff (e_c Try.call67 (ok_slices_BinarySearch_uint16_uint16 F x_4.Subs group_2 _ e_x_7) [.g 4] [vs 4, vi .u16 group_2] (.u [.inl (ci .i64 x_7.1), .inl (cb x_7.2)]) (by kernel_rfl) (.inl rfl)) rfl (by kernel_rfl) ?_
     refine SL.sim tk 5 [(1, vi .u16 group_2), (3, vp 2 0), (6, vp 5 0), (7, vi .i64 x_7.1), (8, vb x_7.2)] [] [] [] (by kernel_rfl) ?_
     refine SL.nilThen ?_
     refine SC.cut (fun a w => ∃ (l_8 : (List Int)), friend_Subscribe_j1 F now_3 x_4 l_8 = some r ∧ A 44 2 fx [(3, vp 2 0), (6, vp 5 0)] [.gone, .gone, .blk 28 (C_api_Friend ({ x_4 with Subs := l_8, Polled := now_3 }) (.s 3) (.s 4)), .rd 18 R_T_api_Queued x_4.Queue, .rd 1 (RInt .u16) l_8, .blk 28 (C_api_Friend (T_api_Friend.mk 0 [] [] 0 false 0 0 0) nl nl)] a w) ?_ ?_
     · refine SC.r tk [(1, vi .u16 group_2), (3, vp 2 0), (6, vp 5 0), (7, vi .i64 x_7.1), (36, vb ((!x_7.2) && (decide ((len x_4.Subs) < 64))))] [] [] [] (by kernel_rfl) ?_
       refine SC.if' rfl hp (fun hp => ?_) (fun hp => ?_)
       · refine SC.reg ?_
         refine SL.sim tk 4 [(3, vp 2 0), (6, vp 5 0), (38, vs 4), (39, vi .i64 x_7.1), (40, vi .u16 group_2)] [] [] [] (by kernel_rfl) ?_
         obtain ⟨x_9, e_x_9, hp⟩ := bind_inv hp
         refine SL.eff (e_c Try.call68 (ok_friend_with_uint16 F x_4.Subs x_7.1 group_2 _ e_x_9) [.g 4] [vs 4, vi .i64 x_7.1, vi .u16 group_2] (vs 6) (by kernel_rfl) (.inl rfl)) rfl (by kernel_rfl) ?_
         refine SL.norm (itsN := [.gone, .gone, .blk 28 (C_api_Friend ({ x_4 with Polled := now_3 }) (.s 3) (.s 4)), .rd 18 R_T_api_Queued x_4.Queue, .rd 1 (RInt .u16) x_4.Subs, .blk 28 (C_api_Friend (T_api_Friend.mk 0 [] [] 0 false 0 0 0) nl nl), .rd 1 (RInt .u16) x_9]) (by kernel_rfl) ?_
         refine SL.sim tk 2 [(3, vp 2 0), (6, vp 5 0)] [(2, 28, (C_api_Friend ({ x_4 with Subs := x_9, Polled := now_3 }) (.s 3) (.s 6)))] [] [] (by kernel_rfl) ?_
         refine SL.nilJ fun a w h => ?_
         exact ⟨x_9, hp, h.at (js := [.g 0, .g 1, .g 2, .g 3, .g 6, .g 5]) (by kernel_rfl)⟩
       · refine SC.skipJ fun a w h => ?_
         exact ⟨x_4.Subs, hp, h.at (js := [.g 0, .g 1, .g 2, .g 3, .g 4, .g 5]) (by kernel_rfl)⟩
     · rintro a w ⟨l_8, hp, h⟩
       refine h.go ?_
       refine SC.r tk [(6, vp 5 0)] [(5, 28, (C_api_Friend ({ x_4 with Subs := l_8, Polled := now_3 }) (.s 3) (.s 4)))] [] [] (by kernel_rfl) ?_
       obtain rfl := some_inv' hp
       exact SC.re (js := [.g 0, .g 1, .g 3, .g 4]) tk (by kernel_rfl)

theorem ok_wirelessref48_Group (F : Nat) (a_1 : Int) (r : Bool) (hp : wirelessref48_Group F a_1 = some r) : Spec Try.prog 69 [vi .u16 a_1] [] (vb r) [] := by
 refine Spec.enter Try.func69 rfl Try.ntmps69 rfl rfl fun fx => ?_
 refine SC.r tk [(0, vi .u16 a_1)] [] [] [] (by kernel_rfl) ?_
 refine SC.r tk [(2, vb (decide (a_1 ≥ 49152)))] [] [] [] (by kernel_rfl) ?_
 obtain rfl := some_inv' hp
 exact SC.re (js := []) tk (by kernel_rfl)

theorem ok_wirelessref51_in (F : Nat) (l_1 : (List Int)) (a_2 : Int) (r : Bool) (hp : wirelessref51_in F l_1 a_2 = some r) : Spec Try.prog 51 [vs 0, vi .u16 a_2] [.rd 1 (RInt .u16) l_1] (vb r) [.gone] := by
 refine Spec.enter Try.func51 rfl Try.ntmps51 rfl rfl fun fx => ?_
 refine SC.r tk [(0, vs 0), (1, vi .u16 a_2)] [] [] [] (by kernel_rfl) ?_
 refine SC.cut (fun a w => wirelessref51_in_j1 F = some r ∧ A 18 1 fx [] [.gone] a w) ?_ ?_
 · refine SC.r tk [(0, vs 0), (1, vi .u16 a_2), (5, vi .i64 0)] [] [] [] (by kernel_rfl) ?_
   refine SC.block ?_
   obtain ⟨o1, hi1, ho1⟩ := bind_inv hp
   clear hp
   refine SC.loop (fun n a w => ∃ (x_3 : Int), iter (fun s => wirelessref51_in_l1 F l_1 a_2 s) n (x_3) = some o1 ∧ A 18 1 fx [(0, vs 0), (1, vi .u16 a_2), (5, vi .i64 x_3)] [.rd 1 (RInt .u16) l_1] a w) F (fun a w h => ⟨0, hi1, h.at (js := [.g 0]) (by kernel_rfl)⟩) ?_
   rintro n1 a w ⟨x_3, hi1, h⟩
   obtain ⟨n1, q1, rfl, hp, hs1⟩ := iter_inv hi1
   replace hp : wirelessref51_in_l1 F l_1 a_2 x_3 = some q1 := hp
   clear hi1
   refine h.go ?_
   refine SC.seq ?_
   refine SC.r tk [(0, vs 0), (1, vi .u16 a_2), (5, vi .i64 x_3), (9, vb (decide (x_3 < (len l_1))))] [] [] [] (by kernel_rfl) ?_
   refine SC.if' rfl hp (fun hp => ?_) (fun hp => ?_)
   · refine SC.skipThen ?_
     refine SC.seq ?_
     refine SC.block ?_
     obtain ⟨x_4, e_x_4, hp⟩ := bind_inv hp
     refine SC.pre (pre_ix (i := 0) (iv := x_3) (sz := 1) (R := (RInt .u16)) (l := l_1) (by kernel_rfl) rfl e_x_4) ?_
     refine SC.r tk [(0, vs 0), (1, vi .u16 a_2), (5, vi .i64 x_3), (17, vb (x_4 == a_2))] [] [.el 1] [x_3] (by kernel_rfl) ?_
     refine SC.if' rfl hp (fun hp => ?_) (fun hp => ?_)
     · refine SC.r tk [(4, vb true)] [] [] [] (by kernel_rfl) ?_
       have ho := done_inv hp hs1
       replace hp := ho1
       try rw [ho] at hp
       obtain rfl := some_inv' hp
       exact SC.re (js := [.g 0]) tk (by kernel_rfl)
     · refine SC.skipThen ?_
       refine SC.reg ?_
       refine SL.sim tk 3 [(0, vs 0), (1, vi .u16 a_2), (5, vi .i64 (w64 (x_3 + 1)))] [] [] [] (by kernel_rfl) ?_
       refine SL.nilJ fun a w h => ?_
       exact ⟨n1, Nat.lt_succ_self _, w64 (x_3 + 1), next_inv hp hs1, h.at (js := [.g 0]) (by kernel_rfl)⟩
   · refine SC.exitJ rfl fun a w h => ?_
     have ho := done_inv hp hs1
     replace hp := ho1
     try rw [ho] at hp
     exact ⟨hp, h.at (js := [.g 0]) (by kernel_rfl)⟩
 · rintro a w ⟨hp, h⟩
   refine h.go ?_
   refine SC.r tk [(4, vb false)] [] [] [] (by kernel_rfl) ?_
   obtain rfl := some_inv' hp
   exact SC.re (js := [.g 0]) tk (by kernel_rfl)

theorem ok_wirelessref51_Subscribe (F : Nat) (f_1 : T_api_Friend) (group_2 : Int) (now_3 : Int) (r : T_api_Friend) (hp : wirelessref51_Subscribe F f_1 group_2 now_3 = some r) : Spec Try.prog 49 [.g (C_api_Friend f_1 (.s 0) (.s 1)), vi .u16 group_2, vi .i64 now_3] [.rd 18 R_T_api_Queued f_1.Queue, .rd 1 (RInt .u16) f_1.Subs] (.g [ci .u16 r.Low, .s 2, .s 3, ci .i64 r.Bit, cb r.Sent, ci .i64 r.Polled, ci .i64 r.Counter, ci .i64 r.Dropped]) [.gone, .gone, .rd 18 R_T_api_Queued r.Queue, .rd 1 (RInt .u16) r.Subs] := by
 refine Spec.enter Try.func49 rfl Try.ntmps49 rfl rfl fun fx => ?_
 refine SC.seq ?_
 refine SC.reg ?_
 refine SL.eff (e_box (E := 28) (C_api_Friend f_1 (.s 0) (.s 1)) (by kernel_rfl)) rfl (by kernel_rfl) ?_
 refine SL.eff (e_alloc (E := 28) tk (C_api_Friend (T_api_Friend.mk 0 [] [] 0 false 0 0 0) nl nl) (by kernel_rfl)) rfl (by kernel_rfl) ?_
 refine SL.nilThen ?_
 refine SC.seq ?_
 refine SC.seq ?_
 refine SC.reg ?_
 refine SL.sim tk 4 [(1, vi .u16 group_2), (2, vi .i64 now_3), (3, vp 2 0), (6, vp 3 0), (13, vb (f_1.Low == 0))] [] [] [] (by kernel_rfl) ?_
 obtain ⟨z_5, hz, hpr⟩ := bind_inv hp
 clear hp
 refine SL.cutAt 4 (fun a w => A 70 2 fx [(1, vi .u16 group_2), (2, vi .i64 now_3), (3, vp 2 0), (6, vp 3 0), (17, vb z_5)] [.rd 18 R_T_api_Queued f_1.Queue, .rd 1 (RInt .u16) f_1.Subs, .blk 28 (C_api_Friend f_1 (.s 0) (.s 1)), .blk 28 (C_api_Friend (T_api_Friend.mk 0 [] [] 0 false 0 0 0) nl nl)] a w) ?_ ?_
 · have hp := hz
   rcases Bool.eq_false_or_eq_true ((f_1.Low == 0)) with hg_4 | hg_4
   · replace hp := if_t hp hg_4
     refine SL.no rfl rfl hg_4 rfl ?_
     refine SL.no rfl rfl hg_4 rfl ?_
     refine SL.no rfl rfl hg_4 rfl ?_
     refine SL.pickt rfl hg_4 rfl rfl ?_
     refine SL.nilJ fun a w h => ?_
     obtain rfl := some_inv' hp
     exact h.at (js := [.g 0, .g 1, .g 2, .g 3]) (by kernel_rfl)
   · replace hp := if_f hp hg_4
     refine SL.yes rfl rfl hg_4 ?_
     refine SL.sim tk 1 [(1, vi .u16 group_2), (2, vi .i64 now_3), (3, vp 2 0), (6, vp 3 0), (13, vb (f_1.Low == 0)), (14, vi .u16 group_2)] [] [] [] (by kernel_rfl) ?_
     refine SL.yes rfl rfl hg_4 ?_
     obtain ⟨x_20, e_x_20, hp⟩ := bind_inv hp
     refine SL.eff (e_c Try.call69 (ok_wirelessref48_Group F group_2 _ e_x_20) [] [vi .u16 group_2] (vb x_20) (by kernel_rfl) (.inl rfl)) rfl (by kernel_rfl) ?_
     refine SL.norm (itsN := [.rd 18 R_T_api_Queued f_1.Queue, .rd 1 (RInt .u16) f_1.Subs, .blk 28 (C_api_Friend f_1 (.s 0) (.s 1)), .blk 28 (C_api_Friend (T_api_Friend.mk 0 [] [] 0 false 0 0 0) nl nl)]) (by kernel_rfl) ?_
     refine SL.yes rfl rfl hg_4 ?_
     refine SL.sim tk 1 [(1, vi .u16 group_2), (2, vi .i64 now_3), (3, vp 2 0), (6, vp 3 0), (13, vb (f_1.Low == 0)), (16, vb (!x_20))] [] [] [] (by kernel_rfl) ?_
     refine SL.pickf rfl hg_4 rfl rfl ?_
     refine SL.nilJ fun a w h => ?_
     obtain rfl := some_inv' hp
     exact h.at (js := [.g 0, .g 1, .g 2, .g 3]) (by kernel_rfl)
 · intro a w h
   have hp := hpr; clear hpr hz
   refine h.goL ?_
   refine SL.nilThen ?_
   refine SC.if' rfl hp (fun hp => ?_) (fun hp => ?_)
   · refine SC.r tk [(6, vp 3 0)] [(3, 28, (C_api_Friend f_1 (.s 0) (.s 1)))] [] [] (by kernel_rfl) ?_
     obtain rfl := some_inv' hp
     exact SC.re (js := [.g 0, .g 1, .g 0, .g 1]) tk (by kernel_rfl)
   · refine SC.skipThen ?_
     refine SC.r tk [(1, vi .u16 group_2), (3, vp 2 0), (6, vp 3 0)] [(2, 28, (C_api_Friend ({ f_1 with Polled := now_3 }) (.s 0) (.s 1)))] [] [] (by kernel_rfl) ?_
     refine SC.seq ?_
     refine SC.seq ?_
     refine SC.reg ?_
     refine SL.sim tk 3 [(1, vi .u16 group_2), (3, vp 2 0), (6, vp 3 0), (22, vs 1), (23, vi .u16 group_2)] [] [] [] (by kernel_rfl) ?_
     obtain ⟨x_6, e_x_6, hp⟩ := bind_inv hp
     refine SL.eff (e_c Try.call51 (ok_wirelessref51_in F f_1.Subs group_2 _ e_x_6) [.g 1] [vs 1, vi .u16 group_2] (vb x_6) (by kernel_rfl) (.inl rfl)) rfl (by kernel_rfl) ?_
     refine SL.sim tk 6 [(1, vi .u16 group_2), (3, vp 2 0), (6, vp 3 0), (30, vb (x_6 || (decide ((len f_1.Subs) ≥ 64))))] [] [] [] (by kernel_rfl) ?_
     refine SL.nilThen ?_
     refine SC.if' rfl hp (fun hp => ?_) (fun hp => ?_)
     · refine SC.r tk [(6, vp 3 0)] [(3, 28, (C_api_Friend ({ f_1 with Polled := now_3 }) (.s 0) (.s 1)))] [] [] (by kernel_rfl) ?_
       obtain rfl := some_inv' hp
       exact SC.re (js := [.g 0, .g 1, .g 0, .g 1]) tk (by kernel_rfl)
     · refine SC.skipThen ?_
       refine SC.r tk [(1, vi .u16 group_2), (3, vp 2 0), (6, vp 3 0), (7, vn)] [] [] [] (by kernel_rfl) ?_
       refine SC.cut (fun a w => ∃ (l_7 : (List Int)), wirelessref51_Subscribe_j1 F f_1 group_2 now_3 l_7 = some r ∧ A 70 2 fx [(1, vi .u16 group_2), (3, vp 2 0), (6, vp 3 0), (7, vs 4)] [.rd 18 R_T_api_Queued f_1.Queue, .rd 1 (RInt .u16) f_1.Subs, .blk 28 (C_api_Friend ({ f_1 with Polled := now_3 }) (.s 0) (.s 1)), .blk 28 (C_api_Friend (T_api_Friend.mk 0 [] [] 0 false 0 0 0) nl nl), .own 1 24 (RInt .u16) l_7] a w) ?_ ?_
       · refine SC.r tk [(1, vi .u16 group_2), (3, vp 2 0), (6, vp 3 0), (7, vn), (8, vi .i64 0)] [] [] [] (by kernel_rfl) ?_
         refine SC.block ?_
         obtain ⟨o1, hi1, ho1⟩ := bind_inv hp
         clear hp
         refine SC.loop (fun n a w => ∃ (l_11 : (List Int)) (x_12 : Int), iter (fun s => wirelessref51_Subscribe_l1 F f_1 group_2 s.1 s.2) n (l_11, x_12) = some o1 ∧ A 70 2 fx [(1, vi .u16 group_2), (3, vp 2 0), (6, vp 3 0), (7, vs 4), (8, vi .i64 x_12)] [.rd 18 R_T_api_Queued f_1.Queue, .rd 1 (RInt .u16) f_1.Subs, .blk 28 (C_api_Friend ({ f_1 with Polled := now_3 }) (.s 0) (.s 1)), .blk 28 (C_api_Friend (T_api_Friend.mk 0 [] [] 0 false 0 0 0) nl nl), .own 1 24 (RInt .u16) l_11] a w) F (fun a w h => ⟨[], 0, hi1, h.at (js := [.g 0, .g 1, .g 2, .g 3, .n]) (by kernel_rfl)⟩) ?_
         rintro n1 a w ⟨l_11, x_12, hi1, h⟩
         obtain ⟨n1, q1, rfl, hp, hs1⟩ := iter_inv hi1
         replace hp : wirelessref51_Subscribe_l1 F f_1 group_2 l_11 x_12 = some q1 := hp
         clear hi1
         refine h.go ?_
         refine SC.seq ?_
         refine SC.seq ?_
         refine SC.reg ?_
         refine SL.sim tk 6 [(1, vi .u16 group_2), (3, vp 2 0), (6, vp 3 0), (7, vs 4), (8, vi .i64 x_12), (37, vb (decide (x_12 < (len f_1.Subs))))] [] [] [] (by kernel_rfl) ?_
         obtain ⟨z_14, hz, hpr⟩ := bind_inv hp
         clear hp
         refine SL.cutAt 8 (fun a w => A 70 2 fx [(1, vi .u16 group_2), (3, vp 2 0), (6, vp 3 0), (7, vs 4), (8, vi .i64 x_12), (45, vb z_14)] [.rd 18 R_T_api_Queued f_1.Queue, .rd 1 (RInt .u16) f_1.Subs, .blk 28 (C_api_Friend ({ f_1 with Polled := now_3 }) (.s 0) (.s 1)), .blk 28 (C_api_Friend (T_api_Friend.mk 0 [] [] 0 false 0 0 0) nl nl), .own 1 24 (RInt .u16) l_11] a w) ?_ ?_
         · have hp := hz
           rcases Bool.eq_false_or_eq_true (decide (x_12 < (len f_1.Subs))) with hg_13 | hg_13
           · replace hp := if_t hp hg_13
             refine SL.yes rfl rfl hg_13 ?_
             refine SL.sim tk 1 [(1, vi .u16 group_2), (3, vp 2 0), (6, vp 3 0), (7, vs 4), (8, vi .i64 x_12), (37, vb (decide (x_12 < (len f_1.Subs)))), (38, vp 2 2)] [] [] [] (by kernel_rfl) ?_
             refine SL.yes rfl rfl hg_13 ?_
             refine SL.sim tk 1 [(1, vi .u16 group_2), (3, vp 2 0), (6, vp 3 0), (7, vs 4), (8, vi .i64 x_12), (37, vb (decide (x_12 < (len f_1.Subs)))), (38, vp 2 2), (39, vs 1)] [] [] [] (by kernel_rfl) ?_
             refine SL.yes rfl rfl hg_13 ?_
             refine SL.sim tk 1 [(1, vi .u16 group_2), (3, vp 2 0), (6, vp 3 0), (7, vs 4), (8, vi .i64 x_12), (37, vb (decide (x_12 < (len f_1.Subs)))), (38, vp 2 2), (39, vs 1), (40, vi .i64 x_12)] [] [] [] (by kernel_rfl) ?_
             refine SL.yes rfl rfl hg_13 ?_
             obtain ⟨x_18, e_x_18, hp⟩ := bind_inv hp
             refine SL.pre (pre_ix (i := 1) (iv := x_12) (sz := 1) (R := (RInt .u16)) (l := f_1.Subs) (by kernel_rfl) rfl e_x_18) ?_
             refine SL.sim tk 1 [(1, vi .u16 group_2), (3, vp 2 0), (6, vp 3 0), (7, vs 4), (8, vi .i64 x_12), (37, vb (decide (x_12 < (len f_1.Subs)))), (38, vp 2 2), (39, vs 1), (40, vi .i64 x_12), (41, vp 5 0)] [] [.el 5] [x_12] (by kernel_rfl) ?_
             refine SL.yes rfl rfl hg_13 ?_
             refine SL.sim tk 1 [(1, vi .u16 group_2), (3, vp 2 0), (6, vp 3 0), (7, vs 4), (8, vi .i64 x_12), (37, vb (decide (x_12 < (len f_1.Subs)))), (38, vp 2 2), (39, vs 1), (40, vi .i64 x_12), (41, vp 5 0), (42, vi .u16 x_18)] [] [] [] (by kernel_rfl) ?_
             refine SL.yes rfl rfl hg_13 ?_
             refine SL.sim tk 1 [(1, vi .u16 group_2), (3, vp 2 0), (6, vp 3 0), (7, vs 4), (8, vi .i64 x_12), (37, vb (decide (x_12 < (len f_1.Subs)))), (38, vp 2 2), (39, vs 1), (40, vi .i64 x_12), (41, vp 5 0), (42, vi .u16 x_18), (43, vi .u16 group_2)] [] [] [] (by kernel_rfl) ?_
             refine SL.yes rfl rfl hg_13 ?_
             refine SL.sim tk 1 [(1, vi .u16 group_2), (3, vp 2 0), (6, vp 3 0), (7, vs 4), (8, vi .i64 x_12), (37, vb (decide (x_12 < (len f_1.Subs)))), (38, vp 2 2), (39, vs 1), (40, vi .i64 x_12), (41, vp 5 0), (42, vi .u16 x_18), (43, vi .u16 group_2), (44, vb (decide (x_18 < group_2)))] [] [] [] (by kernel_rfl) ?_
             refine SL.pickt rfl hg_13 rfl rfl ?_
             refine SL.nilJ fun a w h => ?_
             obtain rfl := some_inv' hp
             exact h.at (js := [.g 0, .g 1, .g 2, .g 3, .g 4]) (by kernel_rfl)
           · replace hp := if_f hp hg_13
             refine SL.no rfl rfl hg_13 rfl ?_
             refine SL.no rfl rfl hg_13 rfl ?_
             refine SL.no rfl rfl hg_13 rfl ?_
             refine SL.no rfl rfl hg_13 rfl ?_
             refine SL.no rfl rfl hg_13 rfl ?_
             refine SL.no rfl rfl hg_13 rfl ?_
             refine SL.no rfl rfl hg_13 rfl ?_
             refine SL.pickf rfl hg_13 rfl rfl ?_
             refine SL.nilJ fun a w h => ?_
             obtain rfl := some_inv' hp
             exact h.at (js := [.g 0, .g 1, .g 2, .g 3, .g 4]) (by kernel_rfl)
         · intro a w h
           have hp := hpr; clear hpr hz
           refine h.goL ?_
           refine SL.nilThen ?_
           refine SC.if' rfl hp (fun hp => ?_) (fun hp => ?_)
           · refine SC.skipThen ?_
             refine SC.seq ?_
             refine SC.block ?_
             refine SC.reg ?_
             obtain ⟨x_15, e_x_15, hp⟩ := bind_inv hp
             refine SL.pre (pre_ix (i := 1) (iv := x_12) (sz := 1) (R := (RInt .u16)) (l := f_1.Subs) (by kernel_rfl) rfl e_x_15) ?_
             refine SL.sim tk 6 [(1, vi .u16 group_2), (3, vp 2 0), (6, vp 3 0), (7, vs 4), (8, vi .i64 x_12), (48, vs 4), (53, vi .u16 x_15)] [] [.el 5] [x_12] (by kernel_rfl) ?_
             refine SL.eff (e_lit (sz := 1) (E := 24) (R := (RInt .u16)) (by_ := 2) tk [[ci .u16 x_15]] [x_15] (by kernel_rfl) ⟨Clo.int, trivial⟩ rfl (by kernel_rfl) (by kernel_rfl)) rfl (by kernel_rfl) ?_
             obtain ⟨l_16, e_l_16, hp⟩ := bind_inv hp
             refine SL.eff (e_app (i := 4) (l := l_11) (sz := 1) (E := 24) (R := (RInt .u16)) (by_ := 2) (m := [x_15]) tk rfl (by kernel_rfl) rfl (.o 24 (by kernel_rfl)) e_l_16 (by kernel_rfl)) rfl (by kernel_rfl) ?_
             refine SL.sim tk 1 [(1, vi .u16 group_2), (3, vp 2 0), (6, vp 3 0), (7, vs 7), (8, vi .i64 x_12)] [] [] [] (by kernel_rfl) ?_
             refine SL.nilThen ?_
             refine SC.reg ?_
             refine SL.sim tk 3 [(1, vi .u16 group_2), (3, vp 2 0), (6, vp 3 0), (7, vs 7), (8, vi .i64 (w64 (x_12 + 1)))] [] [] [] (by kernel_rfl) ?_
             refine SL.nilJ fun a w h => ?_
             exact ⟨n1, Nat.lt_succ_self _, l_16, w64 (x_12 + 1), next_inv hp hs1, h.at (js := [.g 0, .g 1, .g 2, .g 3, .g 7]) (by kernel_rfl)⟩
           · refine SC.exitJ rfl fun a w h => ?_
             have ho := done_inv hp hs1
             replace hp := ho1
             try rw [ho] at hp
             exact ⟨l_11, hp, h.at (js := [.g 0, .g 1, .g 2, .g 3, .g 4]) (by kernel_rfl)⟩
       · rintro a w ⟨l_7, hp, h⟩
         refine h.go ?_
         refine SC.r tk [(1, vi .u16 group_2), (3, vp 2 0), (6, vp 3 0), (7, vs 4), (9, vi .i64 (len l_7))] [] [] [] (by kernel_rfl) ?_
         refine SC.seq ?_
         refine SC.reg ?_
         refine SL.sim tk 2 [(3, vp 2 0), (6, vp 3 0), (7, vs 4), (9, vi .i64 (len l_7)), (58, vs 4), (59, vi .u16 group_2)] [] [] [] (by kernel_rfl) ?_
         refine SL.eff (e_lit (sz := 1) (E := 24) (R := (RInt .u16)) (by_ := 2) tk [[ci .u16 group_2]] [group_2] (by kernel_rfl) ⟨Clo.int, trivial⟩ rfl (by kernel_rfl) (by kernel_rfl)) rfl (by kernel_rfl) ?_
         obtain ⟨l_8, e_l_8, hp⟩ := bind_inv hp
         refine SL.eff (e_app (i := 4) (l := l_7) (sz := 1) (E := 24) (R := (RInt .u16)) (by_ := 2) (m := [group_2]) tk rfl (by kernel_rfl) rfl (.o 24 (by kernel_rfl)) e_l_8 (by kernel_rfl)) rfl (by kernel_rfl) ?_
         refine SL.sim tk 1 [(3, vp 2 0), (6, vp 3 0), (7, vs 6), (9, vi .i64 (len l_7))] [] [] [] (by kernel_rfl) ?_
         refine SL.nilThen ?_
         refine SC.seq ?_
         refine SC.reg ?_
         refine SL.sim tk 4 [(3, vp 2 0), (6, vp 3 0), (62, vs 6), (64, vs 1), (65, vi .i64 (len l_7))] [] [] [] (by kernel_rfl) ?_
         obtain ⟨l_9, e_l_9, hp⟩ := bind_inv hp
         refine SL.eff (e_sub (sz := 1) (E := 24) (R := (RInt .u16)) (by_ := 2) (l := f_1.Subs) tk rfl (.inl ⟨1, rfl, (by kernel_rfl)⟩) rfl rfl e_l_9 (by kernel_rfl)) rfl (by kernel_rfl) ?_
         obtain ⟨l_10, e_l_10, hp⟩ := bind_inv hp
         refine SL.eff (e_app (i := 6) (l := l_8) (sz := 1) (E := 24) (R := (RInt .u16)) (by_ := 2) (m := l_9) tk rfl (by kernel_rfl) rfl (.r (by kernel_rfl)) e_l_10 (by kernel_rfl)) rfl (by kernel_rfl) ?_
         refine SL.norm (itsN := [.rd 18 R_T_api_Queued f_1.Queue, .rd 1 (RInt .u16) f_1.Subs, .blk 28 (C_api_Friend ({ f_1 with Polled := now_3 }) (.s 0) (.s 1)), .blk 28 (C_api_Friend (T_api_Friend.mk 0 [] [] 0 false 0 0 0) nl nl), .gone, .own 1 24 (RInt .u16) [group_2], .gone, .rd 1 (RInt .u16) l_9, .own 1 24 (RInt .u16) l_10]) (by kernel_rfl) ?_
         refine SL.sim tk 2 [(3, vp 2 0), (6, vp 3 0)] [(2, 28, (C_api_Friend ({ f_1 with Subs := l_10, Polled := now_3 }) (.s 0) (.s 8)))] [] [] (by kernel_rfl) ?_
         refine SL.nilThen ?_
         refine SC.r tk [(6, vp 3 0)] [(3, 28, (C_api_Friend ({ f_1 with Subs := l_10, Polled := now_3 }) (.s 0) (.s 8)))] [] [] (by kernel_rfl) ?_
         obtain rfl := some_inv' hp
         exact SC.re (js := [.g 0, .g 1, .g 0, .z 8]) tk (by kernel_rfl)

theorem ok_wirelesslaw51_serve (F : Nat) (f_1 : T_api_Friend) (o_2 : T_wirelesslaw51_Op) (r : T_api_Friend × Bool) (hp : wirelesslaw51_serve F f_1 o_2 = some r) : Spec Try.prog 17 [.g (C_api_Friend f_1 (.s 0) (.s 1)), .g (C_wirelesslaw51_Op o_2 (.s 2) (.s 3) (.s 4))] [.rd 18 R_T_api_Queued f_1.Queue, .rd 1 (RInt .u16) f_1.Subs, .rd 1 R8 o_2.Q.PDU.Payload, .rd 1 R8 o_2.Q.Lower.Bytes, .rd 1 (RInt .u16) o_2.Subs] (.u [.inr [ci .u16 r.1.Low, .s 5, .s 6, ci .i64 r.1.Bit, cb r.1.Sent, ci .i64 r.1.Polled, ci .i64 r.1.Counter, ci .i64 r.1.Dropped], .inl (cb r.2)]) [.gone, .gone, .gone, .gone, .gone, .rd 18 R_T_api_Queued r.1.Queue, .rd 1 (RInt .u16) r.1.Subs] := by
 refine Spec.enter Try.func17 rfl Try.ntmps17 rfl rfl fun fx => ?_
 refine SC.seq ?_
 refine SC.reg ?_
 refine SL.eff (e_box (E := 28) (C_api_Friend f_1 (.s 0) (.s 1)) (by kernel_rfl)) rfl (by kernel_rfl) ?_
 refine SL.eff (e_box (E := 40) (C_wirelesslaw51_Op o_2 (.s 2) (.s 3) (.s 4)) (by kernel_rfl)) rfl (by kernel_rfl) ?_
 refine SL.eff (e_alloc (E := 28) tk (C_api_Friend (T_api_Friend.mk 0 [] [] 0 false 0 0 0) nl nl) (by kernel_rfl)) rfl (by kernel_rfl) ?_
 refine SL.sim tk 1 [(2, vp 5 0), (3, vp 6 0), (4, vp 7 0)] [] [] [] (by kernel_rfl) ?_
 refine SL.nilThen ?_
 refine SC.seq ?_
 refine SC.r tk [(2, vp 5 0), (3, vp 6 0), (4, vp 7 0), (17, vi .i64 o_2.Kind)] [] [] [] (by kernel_rfl) ?_
 refine SC.block ?_
 refine SC.r tk [(2, vp 5 0), (3, vp 6 0), (4, vp 7 0), (17, vi .i64 o_2.Kind), (18, vb (o_2.Kind == 0))] [] [] [] (by kernel_rfl) ?_
 refine SC.if' rfl hp (fun hp => ?_) (fun hp => ?_)
 · refine SC.seq ?_
   refine SC.reg ?_
   refine SL.sim tk 7 [(2, vp 5 0), (3, vp 6 0), (4, vp 7 0), (21, .g (C_api_Friend f_1 (.s 0) (.s 1))), (23, vi .u16 o_2.Address), (25, vi .i64 o_2.Number), (27, vi .i64 o_2.Now)] [] [] [] (by kernel_rfl) ?_
   obtain ⟨x_3, e_x_3, hp⟩ := bind_inv hp
   refine SL.eff (e_c Try.call8 (ok_friend_Befriend F f_1 o_2.Address o_2.Number o_2.Now _ e_x_3) [.g 0, .g 1] [.g (C_api_Friend f_1 (.s 0) (.s 1)), vi .u16 o_2.Address, vi .i64 o_2.Number, vi .i64 o_2.Now] (.u [.inr (C_api_Friend x_3.1 (.s 8) (.s 9)), .inl (cb x_3.2)]) (by kernel_rfl) (.inl rfl)) rfl (by kernel_rfl) ?_
   refine SL.norm (itsN := [.rd 18 R_T_api_Queued f_1.Queue, .rd 1 (RInt .u16) f_1.Subs, .rd 1 R8 o_2.Q.PDU.Payload, .rd 1 R8 o_2.Q.Lower.Bytes, .rd 1 (RInt .u16) o_2.Subs, .blk 28 (C_api_Friend f_1 (.s 0) (.s 1)), .blk 40 (C_wirelesslaw51_Op o_2 (.s 2) (.s 3) (.s 4)), .blk 28 (C_api_Friend (T_api_Friend.mk 0 [] [] 0 false 0 0 0) nl nl), .rd 18 R_T_api_Queued x_3.1.Queue, .rd 1 (RInt .u16) x_3.1.Subs]) (by kernel_rfl) ?_
   refine SL.sim tk 3 [(2, vp 5 0), (3, vp 6 0), (4, vp 7 0), (29, .g (C_api_Friend x_3.1 (.s 8) (.s 9))), (30, vb x_3.2)] [] [] [] (by kernel_rfl) ?_
   refine SL.eff (e_alloc (E := 28) tk (C_api_Friend (T_api_Friend.mk 0 [] [] 0 false 0 0 0) nl nl) (by kernel_rfl)) rfl (by kernel_rfl) ?_
   refine SL.sim tk 2 [(2, vp 5 0), (3, vp 6 0), (4, vp 7 0), (6, vp 10 0), (7, vb x_3.2)] [(10, 28, (C_api_Friend x_3.1 (.s 8) (.s 9)))] [] [] (by kernel_rfl) ?_
   refine SL.nilThen ?_
   refine SC.seq ?_
   refine SC.reg ?_
   refine SL.sim tk 7 [(4, vp 7 0), (6, vp 10 0), (7, vb x_3.2), (32, .g (C_api_Friend f_1 (.s 0) (.s 1))), (34, vi .u16 o_2.Address), (36, vi .i64 o_2.Number), (38, vi .i64 o_2.Now)] [] [] [] (by kernel_rfl) ?_
   obtain ⟨x_4, e_x_4, hp⟩ := bind_inv hp
   refine SL.eff (e_c Try.call43 (ok_wirelessref51_Befriend F f_1 o_2.Address o_2.Number o_2.Now _ e_x_4) [.g 0, .g 1] [.g (C_api_Friend f_1 (.s 0) (.s 1)), vi .u16 o_2.Address, vi .i64 o_2.Number, vi .i64 o_2.Now] (.u [.inr (C_api_Friend x_4.1 (.s 11) (.s 12)), .inl (cb x_4.2)]) (by kernel_rfl) (.inl rfl)) rfl (by kernel_rfl) ?_
   refine SL.norm (itsN := [.rd 18 R_T_api_Queued f_1.Queue, .rd 1 (RInt .u16) f_1.Subs, .rd 1 R8 o_2.Q.PDU.Payload, .rd 1 R8 o_2.Q.Lower.Bytes, .rd 1 (RInt .u16) o_2.Subs, .blk 28 (C_api_Friend f_1 (.s 0) (.s 1)), .blk 40 (C_wirelesslaw51_Op o_2 (.s 2) (.s 3) (.s 4)), .blk 28 (C_api_Friend (T_api_Friend.mk 0 [] [] 0 false 0 0 0) nl nl), .rd 18 R_T_api_Queued x_3.1.Queue, .rd 1 (RInt .u16) x_3.1.Subs, .blk 28 (C_api_Friend x_3.1 (.s 8) (.s 9)), .rd 18 R_T_api_Queued x_4.1.Queue, .rd 1 (RInt .u16) x_4.1.Subs]) (by kernel_rfl) ?_
   refine SL.sim tk 3 [(4, vp 7 0), (6, vp 10 0), (7, vb x_3.2), (40, .g (C_api_Friend x_4.1 (.s 11) (.s 12))), (41, vb x_4.2)] [] [] [] (by kernel_rfl) ?_
   refine SL.eff (e_alloc (E := 28) tk (C_api_Friend (T_api_Friend.mk 0 [] [] 0 false 0 0 0) nl nl) (by kernel_rfl)) rfl (by kernel_rfl) ?_
   refine SL.sim tk 2 [(4, vp 7 0), (6, vp 10 0), (7, vb x_3.2), (8, vp 13 0), (9, vb x_4.2)] [(13, 28, (C_api_Friend x_4.1 (.s 11) (.s 12)))] [] [] (by kernel_rfl) ?_
   refine SL.nilThen ?_
   refine SC.cut (fun a w => ∃ (z_5 : Bool), wirelesslaw51_serve_j1 F x_3 z_5 = some r ∧ A 108 5 fx [(4, vp 5 0), (5, vb z_5)] [.gone, .gone, .gone, .gone, .gone, .blk 28 (C_api_Friend x_3.1 (.s 6) (.s 7)), .rd 18 R_T_api_Queued x_3.1.Queue, .rd 1 (RInt .u16) x_3.1.Subs] a w) ?_ ?_
   · refine SC.draw MO [I, I, I, I, I, I, I, O, I, I, I, I, I, I] (by kernel_rfl) fun kap_6 D_7 => ?_
     refine SD.takes tk D_7 [] kn0 [0, 1, 2] [] [] [I, I, I, O, O, O, O, O, O, O, O] [(4, vp 7 0), (7, vb x_3.2), (9, vb x_4.2), (42, .g (C_api_Friend x_3.1 (.s 8) (.s 9))), (43, .g (C_api_Friend x_3.1 (.s 8) (.s 9))), (44, .g (C_api_Friend x_4.1 (.s 11) (.s 12)))] rfl (by kernel_rfl) (by kernel_rfl) (by kernel_rfl) ?_
     obtain ⟨x_8, e_x_8, hp⟩ := bind_inv hp
     refine SD.all1 (i := 3) (by kernel_rfl) ?_
     refine SW.eff D_7 (i := 3) (bs' := [I, I, I, I, O, O, O, O, O, O, O]) rfl (.inl rfl) rfl (e_c Try.call44 (ok_wirelesslaw51_SameFriend F x_3.1 x_4.1 _ e_x_8) [.g 8, .g 9, .g 11, .g 12] [.g (C_api_Friend x_3.1 (.s 8) (.s 9)), .g (C_api_Friend x_4.1 (.s 11) (.s 12))] (vb x_8) (by kernel_rfl) (.inl rfl)) (by kernel_rfl) rfl (by kernel_rfl) ?_
     refine SD.norm (itsN := [.rd 18 R_T_api_Queued f_1.Queue, .rd 1 (RInt .u16) f_1.Subs, .rd 1 R8 o_2.Q.PDU.Payload, .rd 1 R8 o_2.Q.Lower.Bytes, .rd 1 (RInt .u16) o_2.Subs, .blk 28 (C_api_Friend f_1 (.s 0) (.s 1)), .blk 40 (C_wirelesslaw51_Op o_2 (.s 2) (.s 3) (.s 4)), .blk 28 (C_api_Friend (T_api_Friend.mk 0 [] [] 0 false 0 0 0) nl nl), .rd 18 R_T_api_Queued x_3.1.Queue, .rd 1 (RInt .u16) x_3.1.Subs, .blk 28 (C_api_Friend x_3.1 (.s 8) (.s 9)), .rd 18 R_T_api_Queued x_4.1.Queue, .rd 1 (RInt .u16) x_4.1.Subs, .blk 28 (C_api_Friend x_4.1 (.s 11) (.s 12))]) (by kernel_rfl) ?_
     refine SD.takes tk D_7 [] kn0 [4, 5, 6, 7, 8] [] [] [I, I, I, I, I, I, I, I, I, O, O] [(4, vp 7 0), (42, .g (C_api_Friend x_3.1 (.s 8) (.s 9))), (50, vb (x_8 && (x_3.2 == x_4.2)))] rfl (by kernel_rfl) (by kernel_rfl) (by kernel_rfl) ?_
     refine SD.all1 (i := 9) (by kernel_rfl) ?_
     refine SW.store D_7 tk (i := 9) (q := 7) (T := 28) (cs := (C_api_Friend x_3.1 (.s 8) (.s 9))) (bs' := [I, I, I, I, I, I, I, I, I, I, O]) rfl (by kernel_rfl) rfl rfl (by kernel_rfl) ?_
     refine SD.takes tk D_7 [] kn0 [10] [] [] [I, I, I, I, I, I, I, I, I, I, I] [(4, vp 7 0), (5, vb (x_8 && (x_3.2 == x_4.2)))] rfl (by kernel_rfl) (by kernel_rfl) (by kernel_rfl) ?_
     refine SD.done (by kernel_rfl) fun a w h => ?_
     exact ⟨(x_8 && (x_3.2 == x_4.2)), hp, h.at (js := [.g 0, .g 1, .g 2, .g 3, .g 4, .g 7, .g 8, .g 9]) (by kernel_rfl)⟩
   · rintro a w ⟨z_5, hp, h⟩
     refine h.go ?_
     obtain rfl := some_inv' hp
     exact SC.re (js := [.g 0, .g 1, .g 2, .g 3, .g 4, .g 6, .g 7]) tk (by kernel_rfl)
 · refine SC.r tk [(2, vp 5 0), (3, vp 6 0), (4, vp 7 0), (17, vi .i64 o_2.Kind), (51, vb (o_2.Kind == 1))] [] [] [] (by kernel_rfl) ?_
   refine SC.if' rfl hp (fun hp => ?_) (fun hp => ?_)
   · refine SC.seq ?_
     refine SC.reg ?_
     refine SL.sim tk 3 [(2, vp 5 0), (3, vp 6 0), (4, vp 7 0), (53, .g (C_api_Friend f_1 (.s 0) (.s 1))), (55, .g (C_api_Queued o_2.Q (.s 2) (.s 3)))] [] [] [] (by kernel_rfl) ?_
     obtain ⟨x_9, e_x_9, hp⟩ := bind_inv hp
     refine SL.eff (e_c Try.call10 (ok_friend_Keep F f_1 o_2.Q _ e_x_9) [.g 0, .g 1, .g 2, .g 3] [.g (C_api_Friend f_1 (.s 0) (.s 1)), .g (C_api_Queued o_2.Q (.s 2) (.s 3))] (.g (C_api_Friend x_9 (.s 8) (.s 9))) (by kernel_rfl) (.inl rfl)) rfl (by kernel_rfl) ?_
     refine SL.norm (itsN := [.rd 18 R_T_api_Queued f_1.Queue, .rd 1 (RInt .u16) f_1.Subs, .rd 1 R8 o_2.Q.PDU.Payload, .rd 1 R8 o_2.Q.Lower.Bytes, .rd 1 (RInt .u16) o_2.Subs, .blk 28 (C_api_Friend f_1 (.s 0) (.s 1)), .blk 40 (C_wirelesslaw51_Op o_2 (.s 2) (.s 3) (.s 4)), .blk 28 (C_api_Friend (T_api_Friend.mk 0 [] [] 0 false 0 0 0) nl nl), .rd 18 R_T_api_Queued x_9.Queue, .rd 1 (RInt .u16) x_9.Subs]) (by kernel_rfl) ?_
     refine SL.eff (e_alloc (E := 28) tk (C_api_Friend (T_api_Friend.mk 0 [] [] 0 false 0 0 0) nl nl) (by kernel_rfl)) rfl (by kernel_rfl) ?_
     refine SL.sim tk 1 [(2, vp 5 0), (3, vp 6 0), (4, vp 7 0), (10, vp 10 0)] [(10, 28, (C_api_Friend x_9 (.s 8) (.s 9)))] [] [] (by kernel_rfl) ?_
     refine SL.nilThen ?_
     refine SC.cut (fun a w => ∃ (z_10 : Bool), wirelesslaw51_serve_j2 F x_9 z_10 = some r ∧ A 108 5 fx [(4, vp 5 0), (5, vb z_10)] [.gone, .gone, .gone, .gone, .gone, .blk 28 (C_api_Friend x_9 (.s 6) (.s 7)), .rd 18 R_T_api_Queued x_9.Queue, .rd 1 (RInt .u16) x_9.Subs] a w) ?_ ?_
     · refine SC.draw MO [I, I, I, I, I, I, I, O, I, I, I] (by kernel_rfl) fun kap_11 D_12 => ?_
       refine SD.takes tk D_12 [] kn0 [0, 1, 2, 3, 4] [] [] [I, I, I, I, I, O, O, O, O] [(4, vp 7 0), (57, .g (C_api_Friend x_9 (.s 8) (.s 9))), (58, .g (C_api_Friend x_9 (.s 8) (.s 9))), (59, .g (C_api_Friend f_1 (.s 0) (.s 1))), (61, .g (C_api_Queued o_2.Q (.s 2) (.s 3)))] rfl (by kernel_rfl) (by kernel_rfl) (by kernel_rfl) ?_
       obtain ⟨x_13, e_x_13, hp⟩ := bind_inv hp
       refine SD.all1 (i := 5) (by kernel_rfl) ?_
       refine SW.eff D_12 (i := 5) (bs' := [I, I, I, I, I, I, O, O, O]) rfl (.inl rfl) rfl (e_c Try.call45 (ok_wirelessref51_Keep F f_1 o_2.Q _ e_x_13) [.g 0, .g 1, .g 2, .g 3] [.g (C_api_Friend f_1 (.s 0) (.s 1)), .g (C_api_Queued o_2.Q (.s 2) (.s 3))] (.g (C_api_Friend x_13 (.s 11) (.s 12))) (by kernel_rfl) (.inl rfl)) (by kernel_rfl) rfl (by kernel_rfl) ?_
       refine SD.norm (itsN := [.rd 18 R_T_api_Queued f_1.Queue, .rd 1 (RInt .u16) f_1.Subs, .rd 1 R8 o_2.Q.PDU.Payload, .rd 1 R8 o_2.Q.Lower.Bytes, .rd 1 (RInt .u16) o_2.Subs, .blk 28 (C_api_Friend f_1 (.s 0) (.s 1)), .blk 40 (C_wirelesslaw51_Op o_2 (.s 2) (.s 3) (.s 4)), .blk 28 (C_api_Friend (T_api_Friend.mk 0 [] [] 0 false 0 0 0) nl nl), .rd 18 R_T_api_Queued x_9.Queue, .rd 1 (RInt .u16) x_9.Subs, .blk 28 (C_api_Friend x_9 (.s 8) (.s 9)), .rd 18 R_T_api_Queued x_13.Queue, .rd 1 (RInt .u16) x_13.Subs]) (by kernel_rfl) ?_
       obtain ⟨x_14, e_x_14, hp⟩ := bind_inv hp
       refine SD.all1 (i := 6) (by kernel_rfl) ?_
       refine SW.eff D_12 (i := 6) (bs' := [I, I, I, I, I, I, I, O, O]) rfl (.inl rfl) rfl (e_c Try.call44 (ok_wirelesslaw51_SameFriend F x_9 x_13 _ e_x_14) [.g 8, .g 9, .g 11, .g 12] [.g (C_api_Friend x_9 (.s 8) (.s 9)), .g (C_api_Friend x_13 (.s 11) (.s 12))] (vb x_14) (by kernel_rfl) (.inl rfl)) (by kernel_rfl) rfl (by kernel_rfl) ?_
       refine SD.all1 (i := 7) (by kernel_rfl) ?_
       refine SW.store D_12 tk (i := 7) (q := 7) (T := 28) (cs := (C_api_Friend x_9 (.s 8) (.s 9))) (bs' := [I, I, I, I, I, I, I, I, O]) rfl (by kernel_rfl) rfl rfl (by kernel_rfl) ?_
       refine SD.norm (itsN := [.rd 18 R_T_api_Queued f_1.Queue, .rd 1 (RInt .u16) f_1.Subs, .rd 1 R8 o_2.Q.PDU.Payload, .rd 1 R8 o_2.Q.Lower.Bytes, .rd 1 (RInt .u16) o_2.Subs, .blk 28 (C_api_Friend f_1 (.s 0) (.s 1)), .blk 40 (C_wirelesslaw51_Op o_2 (.s 2) (.s 3) (.s 4)), .blk 28 (C_api_Friend x_9 (.s 8) (.s 9)), .rd 18 R_T_api_Queued x_9.Queue, .rd 1 (RInt .u16) x_9.Subs, .blk 28 (C_api_Friend x_9 (.s 8) (.s 9)), .rd 18 R_T_api_Queued x_13.Queue, .rd 1 (RInt .u16) x_13.Subs]) (by kernel_rfl) ?_
       refine SD.takes tk D_12 [] kn0 [8] [] [] [I, I, I, I, I, I, I, I, I] [(4, vp 7 0), (5, vb x_14)] rfl (by kernel_rfl) (by kernel_rfl) (by kernel_rfl) ?_
       refine SD.done (by kernel_rfl) fun a w h => ?_
       exact ⟨x_14, hp, h.at (js := [.g 0, .g 1, .g 2, .g 3, .g 4, .g 7, .g 8, .g 9]) (by kernel_rfl)⟩
     · rintro a w ⟨z_10, hp, h⟩
       refine h.go ?_
       obtain rfl := some_inv' hp
       exact SC.re (js := [.g 0, .g 1, .g 2, .g 3, .g 4, .g 6, .g 7]) tk (by kernel_rfl)
   · refine SC.r tk [(2, vp 5 0), (3, vp 6 0), (4, vp 7 0), (64, vb (o_2.Kind == 2))] [] [] [] (by kernel_rfl) ?_
     refine SC.if' rfl hp (fun hp => ?_) (fun hp => ?_)
     · refine SC.seq ?_
       refine SC.reg ?_
       refine SL.sim tk 5 [(2, vp 5 0), (3, vp 6 0), (4, vp 7 0), (67, .g (C_api_Friend f_1 (.s 0) (.s 1))), (69, vi .i64 o_2.Number), (71, vi .i64 o_2.Now)] [] [] [] (by kernel_rfl) ?_
       obtain ⟨x_15, e_x_15, hp⟩ := bind_inv hp
       refine SL.eff (e_c Try.call9 (ok_friend_Poll F f_1 o_2.Number o_2.Now _ e_x_15) [.g 0, .g 1] [.g (C_api_Friend f_1 (.s 0) (.s 1)), vi .i64 o_2.Number, vi .i64 o_2.Now] (.u [.inr (C_api_Friend x_15.1 (.s 8) (.s 9)), .inl (.s 10)]) (by kernel_rfl) (.inl rfl)) rfl (by kernel_rfl) ?_
       refine SL.norm (itsN := [.rd 18 R_T_api_Queued f_1.Queue, .rd 1 (RInt .u16) f_1.Subs, .rd 1 R8 o_2.Q.PDU.Payload, .rd 1 R8 o_2.Q.Lower.Bytes, .rd 1 (RInt .u16) o_2.Subs, .blk 28 (C_api_Friend f_1 (.s 0) (.s 1)), .blk 40 (C_wirelesslaw51_Op o_2 (.s 2) (.s 3) (.s 4)), .blk 28 (C_api_Friend (T_api_Friend.mk 0 [] [] 0 false 0 0 0) nl nl), .rd 18 R_T_api_Queued x_15.1.Queue, .rd 1 (RInt .u16) x_15.1.Subs, .rd 18 R_T_api_Queued x_15.2]) (by kernel_rfl) ?_
       refine SL.sim tk 3 [(2, vp 5 0), (3, vp 6 0), (4, vp 7 0), (73, .g (C_api_Friend x_15.1 (.s 8) (.s 9))), (74, vs 10)] [] [] [] (by kernel_rfl) ?_
       refine SL.eff (e_alloc (E := 28) tk (C_api_Friend (T_api_Friend.mk 0 [] [] 0 false 0 0 0) nl nl) (by kernel_rfl)) rfl (by kernel_rfl) ?_
       refine SL.sim tk 2 [(2, vp 5 0), (3, vp 6 0), (4, vp 7 0), (11, vp 11 0), (12, vs 10)] [(11, 28, (C_api_Friend x_15.1 (.s 8) (.s 9)))] [] [] (by kernel_rfl) ?_
       refine SL.nilThen ?_
       refine SC.seq ?_
       refine SC.reg ?_
       refine SL.sim tk 5 [(4, vp 7 0), (11, vp 11 0), (12, vs 10), (76, .g (C_api_Friend f_1 (.s 0) (.s 1))), (78, vi .i64 o_2.Number), (80, vi .i64 o_2.Now)] [] [] [] (by kernel_rfl) ?_
       obtain ⟨x_16, e_x_16, hp⟩ := bind_inv hp
       refine SL.eff (e_c Try.call46 (ok_wirelessref51_Poll F f_1 o_2.Number o_2.Now _ e_x_16) [.g 0, .g 1] [.g (C_api_Friend f_1 (.s 0) (.s 1)), vi .i64 o_2.Number, vi .i64 o_2.Now] (.u [.inr (C_api_Friend x_16.1 (.s 12) (.s 13)), .inl (.s 14)]) (by kernel_rfl) (.inl rfl)) rfl (by kernel_rfl) ?_
       refine SL.norm (itsN := [.rd 18 R_T_api_Queued f_1.Queue, .rd 1 (RInt .u16) f_1.Subs, .rd 1 R8 o_2.Q.PDU.Payload, .rd 1 R8 o_2.Q.Lower.Bytes, .rd 1 (RInt .u16) o_2.Subs, .blk 28 (C_api_Friend f_1 (.s 0) (.s 1)), .blk 40 (C_wirelesslaw51_Op o_2 (.s 2) (.s 3) (.s 4)), .blk 28 (C_api_Friend (T_api_Friend.mk 0 [] [] 0 false 0 0 0) nl nl), .rd 18 R_T_api_Queued x_15.1.Queue, .rd 1 (RInt .u16) x_15.1.Subs, .rd 18 R_T_api_Queued x_15.2, .blk 28 (C_api_Friend x_15.1 (.s 8) (.s 9)), .rd 18 R_T_api_Queued x_16.1.Queue, .rd 1 (RInt .u16) x_16.1.Subs, .rd 18 R_T_api_Queued x_16.2]) (by kernel_rfl) ?_
       refine SL.sim tk 3 [(4, vp 7 0), (11, vp 11 0), (12, vs 10), (82, .g (C_api_Friend x_16.1 (.s 12) (.s 13))), (83, vs 14)] [] [] [] (by kernel_rfl) ?_
       refine SL.eff (e_alloc (E := 28) tk (C_api_Friend (T_api_Friend.mk 0 [] [] 0 false 0 0 0) nl nl) (by kernel_rfl)) rfl (by kernel_rfl) ?_
       refine SL.sim tk 2 [(4, vp 7 0), (11, vp 11 0), (12, vs 10), (13, vp 15 0), (14, vs 14)] [(15, 28, (C_api_Friend x_16.1 (.s 12) (.s 13)))] [] [] (by kernel_rfl) ?_
       refine SL.nilThen ?_
       refine SC.cut (fun a w => ∃ (z_17 : Bool), wirelesslaw51_serve_j3 F x_15 z_17 = some r ∧ A 108 5 fx [(4, vp 5 0), (5, vb z_17)] [.gone, .gone, .gone, .gone, .gone, .blk 28 (C_api_Friend x_15.1 (.s 6) (.s 7)), .rd 18 R_T_api_Queued x_15.1.Queue, .rd 1 (RInt .u16) x_15.1.Subs] a w) ?_ ?_
       · refine SC.draw MO [I, I, I, I, I, I, I, O, I, I, I, I, I, I, I, I] (by kernel_rfl) fun kap_18 D_19 => ?_
         refine SD.takes tk D_19 [] kn0 [0, 1, 2] [] [] [I, I, I, O, O, O, O, O, O, O, O] [(4, vp 7 0), (12, vs 10), (14, vs 14), (84, .g (C_api_Friend x_15.1 (.s 8) (.s 9))), (85, .g (C_api_Friend x_15.1 (.s 8) (.s 9))), (86, .g (C_api_Friend x_16.1 (.s 12) (.s 13)))] rfl (by kernel_rfl) (by kernel_rfl) (by kernel_rfl) ?_
         obtain ⟨x_20, e_x_20, hp⟩ := bind_inv hp
         refine SD.all1 (i := 3) (by kernel_rfl) ?_
         refine SW.eff D_19 (i := 3) (bs' := [I, I, I, I, O, O, O, O, O, O, O]) rfl (.inl rfl) rfl (e_c Try.call44 (ok_wirelesslaw51_SameFriend F x_15.1 x_16.1 _ e_x_20) [.g 8, .g 9, .g 12, .g 13] [.g (C_api_Friend x_15.1 (.s 8) (.s 9)), .g (C_api_Friend x_16.1 (.s 12) (.s 13))] (vb x_20) (by kernel_rfl) (.inl rfl)) (by kernel_rfl) rfl (by kernel_rfl) ?_
         refine SD.norm (itsN := [.rd 18 R_T_api_Queued f_1.Queue, .rd 1 (RInt .u16) f_1.Subs, .rd 1 R8 o_2.Q.PDU.Payload, .rd 1 R8 o_2.Q.Lower.Bytes, .rd 1 (RInt .u16) o_2.Subs, .blk 28 (C_api_Friend f_1 (.s 0) (.s 1)), .blk 40 (C_wirelesslaw51_Op o_2 (.s 2) (.s 3) (.s 4)), .blk 28 (C_api_Friend (T_api_Friend.mk 0 [] [] 0 false 0 0 0) nl nl), .rd 18 R_T_api_Queued x_15.1.Queue, .rd 1 (RInt .u16) x_15.1.Subs, .rd 18 R_T_api_Queued x_15.2, .blk 28 (C_api_Friend x_15.1 (.s 8) (.s 9)), .rd 18 R_T_api_Queued x_16.1.Queue, .rd 1 (RInt .u16) x_16.1.Subs, .rd 18 R_T_api_Queued x_16.2, .blk 28 (C_api_Friend x_16.1 (.s 12) (.s 13))]) (by kernel_rfl) ?_
         refine SD.takes tk D_19 [] kn0 [4] [] [] [I, I, I, I, I, O, O, O, O, O, O] [(4, vp 7 0), (12, vs 10), (14, vs 14), (84, .g (C_api_Friend x_15.1 (.s 8) (.s 9))), (88, vb x_20)] rfl (by kernel_rfl) (by kernel_rfl) (by kernel_rfl) ?_
         rcases Bool.eq_false_or_eq_true (x_20) with hg_21 | hg_21
         · replace hp := if_t hp hg_21
           refine SD.takes tk D_19 [(88, true)] (knS rfl hg_21 kn0) [5, 6] [] [] [I, I, I, I, I, I, I, O, O, O, O] [(4, vp 7 0), (84, .g (C_api_Friend x_15.1 (.s 8) (.s 9))), (88, vb x_20), (89, vs 10), (90, vs 14)] rfl (by kernel_rfl) (by kernel_rfl) (by kernel_rfl) ?_
           obtain ⟨x_22, e_x_22, hp⟩ := bind_inv hp
           refine SD.all1 (i := 7) (by kernel_rfl) ?_
           refine SW.eff D_19 (i := 7) (bs' := [I, I, I, I, I, I, I, I, O, O, O]) rfl (.inr ⟨_, _, _, _, rfl, rfl, rfl, hg_21⟩) rfl (e_c Try.call47 (ok_wirelesslaw51_sameQueue F x_15.2 x_16.2 _ e_x_22) [.g 10, .g 14] [vs 10, vs 14] (vb x_22) (by kernel_rfl) (.inl rfl)) (by kernel_rfl) rfl (by kernel_rfl) ?_
           refine SD.takes tk D_19 [(88, true)] (knS rfl hg_21 kn0) [8] [] [] [I, I, I, I, I, I, I, I, I, O, O] [(4, vp 7 0), (84, .g (C_api_Friend x_15.1 (.s 8) (.s 9))), (92, vb x_22)] rfl (by kernel_rfl) (by kernel_rfl) (by kernel_rfl) ?_
           refine SD.all1 (i := 9) (by kernel_rfl) ?_
           refine SW.store D_19 tk (i := 9) (q := 7) (T := 28) (cs := (C_api_Friend x_15.1 (.s 8) (.s 9))) (bs' := [I, I, I, I, I, I, I, I, I, I, O]) rfl (by kernel_rfl) rfl rfl (by kernel_rfl) ?_
           refine SD.norm (itsN := [.rd 18 R_T_api_Queued f_1.Queue, .rd 1 (RInt .u16) f_1.Subs, .rd 1 R8 o_2.Q.PDU.Payload, .rd 1 R8 o_2.Q.Lower.Bytes, .rd 1 (RInt .u16) o_2.Subs, .blk 28 (C_api_Friend f_1 (.s 0) (.s 1)), .blk 40 (C_wirelesslaw51_Op o_2 (.s 2) (.s 3) (.s 4)), .blk 28 (C_api_Friend x_15.1 (.s 8) (.s 9)), .rd 18 R_T_api_Queued x_15.1.Queue, .rd 1 (RInt .u16) x_15.1.Subs, .rd 18 R_T_api_Queued x_15.2, .blk 28 (C_api_Friend x_15.1 (.s 8) (.s 9)), .rd 18 R_T_api_Queued x_16.1.Queue, .rd 1 (RInt .u16) x_16.1.Subs, .rd 18 R_T_api_Queued x_16.2, .blk 28 (C_api_Friend x_16.1 (.s 12) (.s 13))]) (by kernel_rfl) ?_
           refine SD.takes tk D_19 [] kn0 [10] [] [] [I, I, I, I, I, I, I, I, I, I, I] [(4, vp 7 0), (5, vb x_22)] rfl (by kernel_rfl) (by kernel_rfl) (by kernel_rfl) ?_
           refine SD.done (by kernel_rfl) fun a w h => ?_
           exact ⟨x_22, hp, h.at (js := [.g 0, .g 1, .g 2, .g 3, .g 4, .g 7, .g 8, .g 9]) (by kernel_rfl)⟩
         · replace hp := if_f hp hg_21
           refine SD.takes tk D_19 [(88, false)] (knS rfl hg_21 kn0) [5, 6, 7, 8] [] [] [I, I, I, I, I, I, I, I, I, O, O] [(4, vp 7 0), (84, .g (C_api_Friend x_15.1 (.s 8) (.s 9))), (92, vb false)] rfl (by kernel_rfl) (by kernel_rfl) (by kernel_rfl) ?_
           refine SD.all1 (i := 9) (by kernel_rfl) ?_
           refine SW.store D_19 tk (i := 9) (q := 7) (T := 28) (cs := (C_api_Friend x_15.1 (.s 8) (.s 9))) (bs' := [I, I, I, I, I, I, I, I, I, I, O]) rfl (by kernel_rfl) rfl rfl (by kernel_rfl) ?_
           refine SD.takes tk D_19 [] kn0 [10] [] [] [I, I, I, I, I, I, I, I, I, I, I] [(4, vp 7 0), (5, vb false)] rfl (by kernel_rfl) (by kernel_rfl) (by kernel_rfl) ?_
           refine SD.done (by kernel_rfl) fun a w h => ?_
           exact ⟨false, hp, h.at (js := [.g 0, .g 1, .g 2, .g 3, .g 4, .g 7, .g 8, .g 9]) (by kernel_rfl)⟩
       · rintro a w ⟨z_17, hp, h⟩
         refine h.go ?_
         obtain rfl := some_inv' hp
         exact SC.re (js := [.g 0, .g 1, .g 2, .g 3, .g 4, .g 6, .g 7]) tk (by kernel_rfl)
     · refine SC.skipThen ?_
       refine SC.seq ?_
       refine SC.reg ?_
       refine SL.sim tk 5 [(2, vp 5 0), (3, vp 6 0), (4, vp 7 0), (93, .g (C_api_Friend f_1 (.s 0) (.s 1))), (95, vi .u16 o_2.Group), (97, vi .i64 o_2.Now)] [] [] [] (by kernel_rfl) ?_
       obtain ⟨x_23, e_x_23, hp⟩ := bind_inv hp
       refine SL.eff (e_c Try.call48 (ok_friend_Subscribe F f_1 o_2.Group o_2.Now _ e_x_23) [.g 0, .g 1] [.g (C_api_Friend f_1 (.s 0) (.s 1)), vi .u16 o_2.Group, vi .i64 o_2.Now] (.g (C_api_Friend x_23 (.s 8) (.s 9))) (by kernel_rfl) (.inl rfl)) rfl (by kernel_rfl) ?_
       refine SL.norm (itsN := [.rd 18 R_T_api_Queued f_1.Queue, .rd 1 (RInt .u16) f_1.Subs, .rd 1 R8 o_2.Q.PDU.Payload, .rd 1 R8 o_2.Q.Lower.Bytes, .rd 1 (RInt .u16) o_2.Subs, .blk 28 (C_api_Friend f_1 (.s 0) (.s 1)), .blk 40 (C_wirelesslaw51_Op o_2 (.s 2) (.s 3) (.s 4)), .blk 28 (C_api_Friend (T_api_Friend.mk 0 [] [] 0 false 0 0 0) nl nl), .rd 18 R_T_api_Queued x_23.Queue, .rd 1 (RInt .u16) x_23.Subs]) (by kernel_rfl) ?_
       refine SL.eff (e_alloc (E := 28) tk (C_api_Friend (T_api_Friend.mk 0 [] [] 0 false 0 0 0) nl nl) (by kernel_rfl)) rfl (by kernel_rfl) ?_
       refine SL.sim tk 1 [(2, vp 5 0), (3, vp 6 0), (4, vp 7 0), (15, vp 10 0)] [(10, 28, (C_api_Friend x_23 (.s 8) (.s 9)))] [] [] (by kernel_rfl) ?_
       refine SL.nilThen ?_
       refine SC.cut (fun a w => ∃ (z_24 : Bool), wirelesslaw51_serve_j4 F x_23 z_24 = some r ∧ A 108 5 fx [(4, vp 5 0), (5, vb z_24)] [.gone, .gone, .gone, .gone, .gone, .blk 28 (C_api_Friend x_23 (.s 6) (.s 7)), .rd 18 R_T_api_Queued x_23.Queue, .rd 1 (RInt .u16) x_23.Subs] a w) ?_ ?_
       · refine SC.draw MO [I, I, I, I, I, I, I, O, I, I, I] (by kernel_rfl) fun kap_25 D_26 => ?_
         refine SD.takes tk D_26 [] kn0 [0, 1, 2, 3, 4, 5, 6] [] [] [I, I, I, I, I, I, I, O, O, O, O] [(4, vp 7 0), (99, .g (C_api_Friend x_23 (.s 8) (.s 9))), (100, .g (C_api_Friend x_23 (.s 8) (.s 9))), (101, .g (C_api_Friend f_1 (.s 0) (.s 1))), (103, vi .u16 o_2.Group), (105, vi .i64 o_2.Now)] rfl (by kernel_rfl) (by kernel_rfl) (by kernel_rfl) ?_
         obtain ⟨x_27, e_x_27, hp⟩ := bind_inv hp
         refine SD.all1 (i := 7) (by kernel_rfl) ?_
         refine SW.eff D_26 (i := 7) (bs' := [I, I, I, I, I, I, I, I, O, O, O]) rfl (.inl rfl) rfl (e_c Try.call49 (ok_wirelessref51_Subscribe F f_1 o_2.Group o_2.Now _ e_x_27) [.g 0, .g 1] [.g (C_api_Friend f_1 (.s 0) (.s 1)), vi .u16 o_2.Group, vi .i64 o_2.Now] (.g (C_api_Friend x_27 (.s 11) (.s 12))) (by kernel_rfl) (.inl rfl)) (by kernel_rfl) rfl (by kernel_rfl) ?_
         refine SD.norm (itsN := [.rd 18 R_T_api_Queued f_1.Queue, .rd 1 (RInt .u16) f_1.Subs, .rd 1 R8 o_2.Q.PDU.Payload, .rd 1 R8 o_2.Q.Lower.Bytes, .rd 1 (RInt .u16) o_2.Subs, .blk 28 (C_api_Friend f_1 (.s 0) (.s 1)), .blk 40 (C_wirelesslaw51_Op o_2 (.s 2) (.s 3) (.s 4)), .blk 28 (C_api_Friend (T_api_Friend.mk 0 [] [] 0 false 0 0 0) nl nl), .rd 18 R_T_api_Queued x_23.Queue, .rd 1 (RInt .u16) x_23.Subs, .blk 28 (C_api_Friend x_23 (.s 8) (.s 9)), .rd 18 R_T_api_Queued x_27.Queue, .rd 1 (RInt .u16) x_27.Subs]) (by kernel_rfl) ?_
         obtain ⟨x_28, e_x_28, hp⟩ := bind_inv hp
         refine SD.all1 (i := 8) (by kernel_rfl) ?_
         refine SW.eff D_26 (i := 8) (bs' := [I, I, I, I, I, I, I, I, I, O, O]) rfl (.inl rfl) rfl (e_c Try.call44 (ok_wirelesslaw51_SameFriend F x_23 x_27 _ e_x_28) [.g 8, .g 9, .g 11, .g 12] [.g (C_api_Friend x_23 (.s 8) (.s 9)), .g (C_api_Friend x_27 (.s 11) (.s 12))] (vb x_28) (by kernel_rfl) (.inl rfl)) (by kernel_rfl) rfl (by kernel_rfl) ?_
         refine SD.all1 (i := 9) (by kernel_rfl) ?_
         refine SW.store D_26 tk (i := 9) (q := 7) (T := 28) (cs := (C_api_Friend x_23 (.s 8) (.s 9))) (bs' := [I, I, I, I, I, I, I, I, I, I, O]) rfl (by kernel_rfl) rfl rfl (by kernel_rfl) ?_
         refine SD.norm (itsN := [.rd 18 R_T_api_Queued f_1.Queue, .rd 1 (RInt .u16) f_1.Subs, .rd 1 R8 o_2.Q.PDU.Payload, .rd 1 R8 o_2.Q.Lower.Bytes, .rd 1 (RInt .u16) o_2.Subs, .blk 28 (C_api_Friend f_1 (.s 0) (.s 1)), .blk 40 (C_wirelesslaw51_Op o_2 (.s 2) (.s 3) (.s 4)), .blk 28 (C_api_Friend x_23 (.s 8) (.s 9)), .rd 18 R_T_api_Queued x_23.Queue, .rd 1 (RInt .u16) x_23.Subs, .blk 28 (C_api_Friend x_23 (.s 8) (.s 9)), .rd 18 R_T_api_Queued x_27.Queue, .rd 1 (RInt .u16) x_27.Subs]) (by kernel_rfl) ?_
         refine SD.takes tk D_26 [] kn0 [10] [] [] [I, I, I, I, I, I, I, I, I, I, I] [(4, vp 7 0), (5, vb x_28)] rfl (by kernel_rfl) (by kernel_rfl) (by kernel_rfl) ?_
         refine SD.done (by kernel_rfl) fun a w h => ?_
         exact ⟨x_28, hp, h.at (js := [.g 0, .g 1, .g 2, .g 3, .g 4, .g 7, .g 8, .g 9]) (by kernel_rfl)⟩
       · rintro a w ⟨z_24, hp, h⟩
         refine h.go ?_
         obtain rfl := some_inv' hp
         exact SC.re (js := [.g 0, .g 1, .g 2, .g 3, .g 4, .g 6, .g 7]) tk (by kernel_rfl)

theorem ok_wirelessref51_Wants (F : Nat) (f_1 : T_api_Friend) (dst_2 : Int) (r : Bool) (hp : wirelessref51_Wants F f_1 dst_2 = some r) : Spec Try.prog 19 [.g (C_api_Friend f_1 (.s 0) (.s 1)), vi .u16 dst_2] [.rd 18 R_T_api_Queued f_1.Queue, .rd 1 (RInt .u16) f_1.Subs] (vb r) [.gone, .gone] := by
 refine Spec.enter Try.func19 rfl Try.ntmps19 rfl rfl fun fx => ?_
 refine SC.seq ?_
 refine SC.reg ?_
 refine SL.eff (e_box (E := 28) (C_api_Friend f_1 (.s 0) (.s 1)) (by kernel_rfl)) rfl (by kernel_rfl) ?_
 refine SL.sim tk 1 [(1, vi .u16 dst_2), (2, vp 2 0)] [] [] [] (by kernel_rfl) ?_
 refine SL.nilThen ?_
 refine SC.seq ?_
 refine SC.reg ?_
 refine SL.sim tk 4 [(1, vi .u16 dst_2), (2, vp 2 0), (8, vb (f_1.Low != 0))] [] [] [] (by kernel_rfl) ?_
 obtain ⟨z_4, hz, hpr⟩ := bind_inv hp
 clear hp
 refine SL.cutAt 15 (fun a w => A 24 2 fx [(23, vb z_4)] [.gone, .gone] a w) ?_ ?_
 · have hp := hz
   rcases Bool.eq_false_or_eq_true ((f_1.Low != 0)) with hg_3 | hg_3
   · replace hp := if_t hp hg_3
     refine SL.yes rfl rfl hg_3 ?_
     refine SL.sim tk 1 [(1, vi .u16 dst_2), (2, vp 2 0), (8, vb (f_1.Low != 0)), (9, vi .u16 dst_2)] [] [] [] (by kernel_rfl) ?_
     refine SL.yes rfl rfl hg_3 ?_
     refine SL.sim tk 1 [(1, vi .u16 dst_2), (2, vp 2 0), (8, vb (f_1.Low != 0)), (9, vi .u16 dst_2), (10, vp 2 0)] [] [] [] (by kernel_rfl) ?_
     refine SL.yes rfl rfl hg_3 ?_
     refine SL.sim tk 1 [(1, vi .u16 dst_2), (2, vp 2 0), (8, vb (f_1.Low != 0)), (9, vi .u16 dst_2), (11, vi .u16 f_1.Low)] [] [] [] (by kernel_rfl) ?_
     refine SL.yes rfl rfl hg_3 ?_
     refine SL.sim tk 1 [(1, vi .u16 dst_2), (2, vp 2 0), (8, vb (f_1.Low != 0)), (12, vb (dst_2 == f_1.Low))] [] [] [] (by kernel_rfl) ?_
     refine SL.yes rfl rfl hg_3 ?_
     refine SL.sim tk 1 [(1, vi .u16 dst_2), (2, vp 2 0), (8, vb (f_1.Low != 0)), (13, vb (dst_2 == f_1.Low))] [] [] [] (by kernel_rfl) ?_
     rcases Bool.eq_false_or_eq_true ((dst_2 == f_1.Low)) with hg_6 | hg_6
     · replace hp := if_t hp hg_6
       refine SL.no rfl rfl hg_6 rfl ?_
       refine SL.no rfl rfl hg_6 rfl ?_
       refine SL.yes rfl rfl hg_3 ?_
       refine SL.pickt rfl hg_6 rfl rfl ?_
       refine SL.yes rfl rfl hg_3 ?_
       refine SL.sim tk 1 [(1, vi .u16 dst_2), (2, vp 2 0), (8, vb (f_1.Low != 0)), (17, vb true)] [] [] [] (by kernel_rfl) ?_
       rcases Bool.eq_false_or_eq_true (true) with hg_7 | hg_7
       · replace hp := if_t hp hg_7
         refine SL.no rfl rfl hg_7 rfl ?_
         refine SL.no rfl rfl hg_7 rfl ?_
         refine SL.no rfl rfl hg_7 rfl ?_
         refine SL.no rfl rfl hg_7 rfl ?_
         refine SL.yes rfl rfl hg_3 ?_
         refine SL.pickt rfl hg_7 rfl rfl ?_
         refine SL.pickt rfl hg_3 rfl rfl ?_
         refine SL.nilJ fun a w h => ?_
         obtain rfl := some_inv' hp
         exact h.at (js := [.g 0, .g 1]) (by kernel_rfl)
       · replace hp := if_f hp hg_7
         refine SL.yes rfl rfl hg_7 ?_
         refine SL.sim tk 1 [(1, vi .u16 dst_2), (8, vb (f_1.Low != 0)), (17, vb true), (18, vp 2 2)] [] [] [] (by kernel_rfl) ?_
         refine SL.yes rfl rfl hg_7 ?_
         refine SL.sim tk 1 [(1, vi .u16 dst_2), (8, vb (f_1.Low != 0)), (17, vb true), (19, vs 1)] [] [] [] (by kernel_rfl) ?_
         refine SL.yes rfl rfl hg_7 ?_
         refine SL.sim tk 1 [(8, vb (f_1.Low != 0)), (17, vb true), (19, vs 1), (20, vi .u16 dst_2)] [] [] [] (by kernel_rfl) ?_
         refine SL.yes rfl rfl hg_7 ?_
         obtain ⟨x_8, e_x_8, hp⟩ := bind_inv hp
         refine SL.eff (e_c Try.call51 (ok_wirelessref51_in F f_1.Subs dst_2 _ e_x_8) [.g 1] [vs 1, vi .u16 dst_2] (vb x_8) (by kernel_rfl) (.inl rfl)) rfl (by kernel_rfl) ?_
         refine SL.yes rfl rfl hg_3 ?_
         refine SL.pickf rfl hg_7 rfl rfl ?_
         refine SL.pickt rfl hg_3 rfl rfl ?_
         refine SL.nilJ fun a w h => ?_
         obtain rfl := some_inv' hp
         exact h.at (js := [.g 0, .g 1]) (by kernel_rfl)
     · replace hp := if_f hp hg_6
       refine SL.yes rfl rfl hg_6 ?_
       refine SL.sim tk 1 [(1, vi .u16 dst_2), (2, vp 2 0), (8, vb (f_1.Low != 0)), (13, vb (dst_2 == f_1.Low)), (14, vi .u16 dst_2)] [] [] [] (by kernel_rfl) ?_
       refine SL.yes rfl rfl hg_6 ?_
       refine SL.sim tk 1 [(1, vi .u16 dst_2), (2, vp 2 0), (8, vb (f_1.Low != 0)), (13, vb (dst_2 == f_1.Low)), (15, vb (dst_2 == 65535))] [] [] [] (by kernel_rfl) ?_
       refine SL.yes rfl rfl hg_3 ?_
       refine SL.pickf rfl hg_6 rfl rfl ?_
       refine SL.yes rfl rfl hg_3 ?_
       refine SL.sim tk 1 [(1, vi .u16 dst_2), (2, vp 2 0), (8, vb (f_1.Low != 0)), (17, vb (dst_2 == 65535))] [] [] [] (by kernel_rfl) ?_
       rcases Bool.eq_false_or_eq_true ((dst_2 == 65535)) with hg_9 | hg_9
       · replace hp := if_t hp hg_9
         refine SL.no rfl rfl hg_9 rfl ?_
         refine SL.no rfl rfl hg_9 rfl ?_
         refine SL.no rfl rfl hg_9 rfl ?_
         refine SL.no rfl rfl hg_9 rfl ?_
         refine SL.yes rfl rfl hg_3 ?_
         refine SL.pickt rfl hg_9 rfl rfl ?_
         refine SL.pickt rfl hg_3 rfl rfl ?_
         refine SL.nilJ fun a w h => ?_
         obtain rfl := some_inv' hp
         exact h.at (js := [.g 0, .g 1]) (by kernel_rfl)
       · replace hp := if_f hp hg_9
         refine SL.yes rfl rfl hg_9 ?_
         refine SL.sim tk 1 [(1, vi .u16 dst_2), (8, vb (f_1.Low != 0)), (17, vb (dst_2 == 65535)), (18, vp 2 2)] [] [] [] (by kernel_rfl) ?_
         refine SL.yes rfl rfl hg_9 ?_
         refine SL.sim tk 1 [(1, vi .u16 dst_2), (8, vb (f_1.Low != 0)), (17, vb (dst_2 == 65535)), (19, vs 1)] [] [] [] (by kernel_rfl) ?_
         refine SL.yes rfl rfl hg_9 ?_
         refine SL.sim tk 1 [(8, vb (f_1.Low != 0)), (17, vb (dst_2 == 65535)), (19, vs 1), (20, vi .u16 dst_2)] [] [] [] (by kernel_rfl) ?_
         refine SL.yes rfl rfl hg_9 ?_
         obtain ⟨x_10, e_x_10, hp⟩ := bind_inv hp
         refine SL.eff (e_c Try.call51 (ok_wirelessref51_in F f_1.Subs dst_2 _ e_x_10) [.g 1] [vs 1, vi .u16 dst_2] (vb x_10) (by kernel_rfl) (.inl rfl)) rfl (by kernel_rfl) ?_
         refine SL.yes rfl rfl hg_3 ?_
         refine SL.pickf rfl hg_9 rfl rfl ?_
         refine SL.pickt rfl hg_3 rfl rfl ?_
         refine SL.nilJ fun a w h => ?_
         obtain rfl := some_inv' hp
         exact h.at (js := [.g 0, .g 1]) (by kernel_rfl)
   · replace hp := if_f hp hg_3
     refine SL.no rfl rfl hg_3 rfl ?_
     refine SL.no rfl rfl hg_3 rfl ?_
     refine SL.no rfl rfl hg_3 rfl ?_
     refine SL.no rfl rfl hg_3 rfl ?_
     refine SL.no rfl rfl hg_3 rfl ?_
     refine SL.noU rfl rfl rfl ?_
     refine SL.noU rfl rfl rfl ?_
     refine SL.no rfl rfl hg_3 rfl ?_
     refine SL.no rfl rfl hg_3 rfl ?_
     refine SL.noU rfl rfl rfl ?_
     refine SL.noU rfl rfl rfl ?_
     refine SL.noU rfl rfl rfl ?_
     refine SL.noU rfl rfl rfl ?_
     refine SL.no rfl rfl hg_3 rfl ?_
     refine SL.pickf rfl hg_3 rfl rfl ?_
     refine SL.nilJ fun a w h => ?_
     obtain rfl := some_inv' hp
     exact h.at (js := [.g 0, .g 1]) (by kernel_rfl)
 · intro a w h
   have hp := hpr; clear hpr hz
   refine h.goL ?_
   refine SL.sim tk 1 [(4, vb z_4)] [] [] [] (by kernel_rfl) ?_
   refine SL.nilThen ?_
   obtain rfl := some_inv' hp
   exact SC.re (js := [.g 0, .g 1]) tk (by kernel_rfl)

theorem ok_wirelesslaw51_FriendServes (F : Nat) (l_1 : (List T_wirelesslaw51_Op)) (r : Bool) (hp : wirelesslaw51_FriendServes F l_1 = some r) : Spec Try.prog 6 [vs 0] [.rd 25 R_T_wirelesslaw51_Op l_1] (vb r) [.gone] := by
 refine Spec.enter Try.func6 rfl Try.ntmps6 rfl rfl fun fx => ?_
 refine SC.r tk [(0, vs 0)] [] [] [] (by kernel_rfl) ?_
 refine SC.seq ?_
 refine SC.r tk [(0, vs 0), (11, vb (decide ((len l_1) > 200)))] [] [] [] (by kernel_rfl) ?_
 refine SC.if' rfl hp (fun hp => ?_) (fun hp => ?_)
 · refine SC.seq ?_
   refine SC.reg ?_
   obtain ⟨x_2, e_x_2, hp⟩ := bind_inv hp
   refine SL.eff (e_c Try.call7 (ok_wirelesslaw51_lives F  _ e_x_2) [] [] (vb x_2) (by kernel_rfl) (.inl rfl)) rfl (by kernel_rfl) ?_
   refine SL.sim tk 1 [(2, vb x_2)] [] [] [] (by kernel_rfl) ?_
   refine SL.nilThen ?_
   obtain rfl := some_inv' hp
   exact SC.re (js := [.g 0]) tk (by kernel_rfl)
 · refine SC.skipThen ?_
   refine SC.seq ?_
   refine SC.reg ?_
   refine SL.eff (e_alloc (E := 28) tk (C_api_Friend (T_api_Friend.mk 0 [] [] 0 false 0 0 0) nl nl) (by kernel_rfl)) rfl (by kernel_rfl) ?_
   refine SL.nilThen ?_
   refine SC.r tk [(0, vs 0), (3, vp 1 0), (4, vi .i64 0)] [] [] [] (by kernel_rfl) ?_
   refine SC.cut (fun a w => wirelesslaw51_FriendServes_j1 F = some r ∧ A 61 1 fx [] [.gone] a w) ?_ ?_
   · refine SC.r tk [(0, vs 0), (3, vp 1 0), (4, vi .i64 0), (5, vi .i64 0)] [] [] [] (by kernel_rfl) ?_
     refine SC.block ?_
     obtain ⟨o1, hi1, ho1⟩ := bind_inv hp
     clear hp
     refine SC.loop (fun n a w => ∃ (c_12 : T_api_Friend) (x_13 : Int) (x_14 : Int), iter (fun s => wirelesslaw51_FriendServes_l1 F l_1 s.1 s.2.1 s.2.2) n (c_12, x_13, x_14) = some o1 ∧ A 61 1 fx [(0, vs 0), (3, vp 1 0), (4, vi .i64 x_13), (5, vi .i64 x_14)] [.rd 25 R_T_wirelesslaw51_Op l_1, .blk 28 (C_api_Friend c_12 (.s 2) (.s 3)), .rd 18 R_T_api_Queued c_12.Queue, .rd 1 (RInt .u16) c_12.Subs] a w) F (fun a w h => ⟨(T_api_Friend.mk 0 [] [] 0 false 0 0 0), 0, 0, hi1, h.at (js := [.g 0, .g 1, .n, .n]) (by kernel_rfl)⟩) ?_
     rintro n1 a w ⟨c_12, x_13, x_14, hi1, h⟩
     obtain ⟨n1, q1, rfl, hp, hs1⟩ := iter_inv hi1
     replace hp : wirelesslaw51_FriendServes_l1 F l_1 c_12 x_13 x_14 = some q1 := hp
     clear hi1
     refine h.go ?_
     refine SC.seq ?_
     refine SC.r tk [(0, vs 0), (3, vp 1 0), (4, vi .i64 x_13), (5, vi .i64 x_14), (16, vb (decide (x_14 < (len l_1))))] [] [] [] (by kernel_rfl) ?_
     refine SC.if' rfl hp (fun hp => ?_) (fun hp => ?_)
     · refine SC.skipThen ?_
       refine SC.cut (fun a w => ∃ (c_23 : T_api_Friend) (x_24 : Int), wirelesslaw51_FriendServes_j2 F x_14 c_23 x_24 = some q1 ∧ A 61 1 fx [(0, vs 0), (3, vp 1 0), (4, vi .i64 x_24), (5, vi .i64 x_14)] [.rd 25 R_T_wirelesslaw51_Op l_1, .blk 28 (C_api_Friend c_23 (.s 2) (.s 3)), .rd 18 R_T_api_Queued c_23.Queue, .rd 1 (RInt .u16) c_23.Subs] a w) ?_ ?_
       · refine SC.block ?_
         refine SC.seq ?_
         refine SC.reg ?_
         obtain ⟨x_25, e_x_25, hp⟩ := bind_inv hp
         refine SL.pre (pre_ix (i := 0) (iv := x_14) (sz := 25) (R := R_T_wirelesslaw51_Op) (l := l_1) (by kernel_rfl) rfl e_x_25) ?_
         refine SL.sim tk 4 [(0, vs 0), (3, vp 1 0), (4, vi .i64 x_13), (5, vi .i64 x_14), (22, .g (C_wirelesslaw51_Op x_25 (.s 5) (.s 6) (.s 7)))] [] [.el 4] [x_14] (by kernel_rfl) ?_
         refine SL.eff (e_alloc (E := 40) tk (C_wirelesslaw51_Op (T_wirelesslaw51_Op.mk 0 0 0 0 false (T_api_Queued.mk (T_api_NetPDU.mk 0 0 false 0 0 0 0 []) (T_api_Lower.mk false false false 0 0 0 0 0 false [])) [] 0) nl nl nl) (by kernel_rfl)) rfl (by kernel_rfl) ?_
         refine SL.sim tk 1 [(0, vs 0), (3, vp 1 0), (4, vi .i64 x_13), (5, vi .i64 x_14), (6, vp 8 0)] [(8, 40, (C_wirelesslaw51_Op x_25 (.s 5) (.s 6) (.s 7)))] [] [] (by kernel_rfl) ?_
         refine SL.nilThen ?_
         refine SC.seq ?_
         refine SC.seq ?_
         refine SC.reg ?_
         refine SL.sim tk 2 [(0, vs 0), (3, vp 1 0), (4, vi .i64 x_13), (5, vi .i64 x_14), (6, vp 8 0), (23, .g (C_wirelesslaw51_Op x_25 (.s 5) (.s 6) (.s 7))), (24, vi .i64 x_13)] [] [] [] (by kernel_rfl) ?_
         obtain ⟨x_26, e_x_26, hp⟩ := bind_inv hp
         refine SL.eff (e_c Try.call15 (ok_wirelesslaw51_fits F x_25 x_13 _ e_x_26) [.g 5, .g 6, .g 7] [.g (C_wirelesslaw51_Op x_25 (.s 5) (.s 6) (.s 7)), vi .i64 x_13] (vb x_26) (by kernel_rfl) (.inl rfl)) rfl (by kernel_rfl) ?_
         refine SL.norm (itsN := [.rd 25 R_T_wirelesslaw51_Op l_1, .blk 28 (C_api_Friend c_12 (.s 2) (.s 3)), .rd 18 R_T_api_Queued c_12.Queue, .rd 1 (RInt .u16) c_12.Subs, .elt (some (0, x_14)) false (C_wirelesslaw51_Op x_25 (.s 5) (.s 6) (.s 7)), .rd 1 R8 x_25.Q.PDU.Payload, .rd 1 R8 x_25.Q.Lower.Bytes, .rd 1 (RInt .u16) x_25.Subs, .blk 40 (C_wirelesslaw51_Op x_25 (.s 5) (.s 6) (.s 7))]) (by kernel_rfl) ?_
         refine SL.sim tk 1 [(0, vs 0), (3, vp 1 0), (4, vi .i64 x_13), (5, vi .i64 x_14), (6, vp 8 0), (26, vb (!x_26))] [] [] [] (by kernel_rfl) ?_
         refine SL.nilThen ?_
         refine SC.if' rfl hp (fun hp => ?_) (fun hp => ?_)
         · refine SC.exitJ rfl fun a w h => ?_
           exact ⟨c_12, x_13, hp, h.at (js := [.g 0, .g 1, .g 2, .g 3]) (by kernel_rfl)⟩
         · refine SC.skipThen ?_
           refine SC.r tk [(0, vs 0), (3, vp 1 0), (4, vi .i64 x_25.Now), (5, vi .i64 x_14), (6, vp 8 0)] [] [] [] (by kernel_rfl) ?_
           refine SC.seq ?_
           refine SC.reg ?_
           refine SL.sim tk 2 [(0, vs 0), (3, vp 1 0), (4, vi .i64 x_25.Now), (5, vi .i64 x_14), (6, vp 8 0), (30, .g (C_api_Friend c_12 (.s 2) (.s 3))), (31, .g (C_wirelesslaw51_Op x_25 (.s 5) (.s 6) (.s 7)))] [] [] [] (by kernel_rfl) ?_
           obtain ⟨x_27, e_x_27, hp⟩ := bind_inv hp
           refine SL.eff (e_c Try.call17 (ok_wirelesslaw51_serve F c_12 x_25 _ e_x_27) [.g 2, .g 3, .g 5, .g 6, .g 7] [.g (C_api_Friend c_12 (.s 2) (.s 3)), .g (C_wirelesslaw51_Op x_25 (.s 5) (.s 6) (.s 7))] (.u [.inr (C_api_Friend x_27.1 (.s 9) (.s 10)), .inl (cb x_27.2)]) (by kernel_rfl) (.inl rfl)) rfl (by kernel_rfl) ?_
           refine SL.sim tk 3 [(0, vs 0), (3, vp 1 0), (4, vi .i64 x_25.Now), (5, vi .i64 x_14), (6, vp 8 0), (33, .g (C_api_Friend x_27.1 (.s 9) (.s 10))), (34, vb x_27.2)] [] [] [] (by kernel_rfl) ?_
           refine SL.eff (e_alloc (E := 28) tk (C_api_Friend (T_api_Friend.mk 0 [] [] 0 false 0 0 0) nl nl) (by kernel_rfl)) rfl (by kernel_rfl) ?_
           refine SL.sim tk 2 [(0, vs 0), (3, vp 1 0), (4, vi .i64 x_25.Now), (5, vi .i64 x_14), (6, vp 8 0), (7, vp 11 0), (8, vb x_27.2)] [(11, 28, (C_api_Friend x_27.1 (.s 9) (.s 10)))] [] [] (by kernel_rfl) ?_
           refine SL.nilThen ?_
           refine SC.seq ?_
           refine SC.cut (fun a w => ∃ (z_28 : Bool), wirelesslaw51_FriendServes_j3 F x_14 x_25 x_27 z_28 = some q1 ∧ A 61 1 fx [(0, vs 0), (3, vp 1 0), (4, vi .i64 x_25.Now), (5, vi .i64 x_14), (7, vp 4 0), (58, vb z_28)] [.rd 25 R_T_wirelesslaw51_Op l_1, .blk 28 (C_api_Friend c_12 (.s 2) (.s 3)), .rd 18 R_T_api_Queued c_12.Queue, .rd 1 (RInt .u16) c_12.Subs, .blk 28 (C_api_Friend x_27.1 (.s 5) (.s 6)), .rd 18 R_T_api_Queued x_27.1.Queue, .rd 1 (RInt .u16) x_27.1.Subs] a w) ?_ ?_
           · refine SC.draw MO [I, I, I, I, I, I, I, I, I, I, I, I] (by kernel_rfl) fun kap_29 D_30 => ?_
             refine SD.takes tk D_30 [] kn0 [0, 1, 2] [] [] [I, I, I, O, O, O, O, O, O, O, O, O, O, O, O, O, O, O, O, O, O, O, O, O] [(0, vs 0), (3, vp 1 0), (4, vi .i64 x_25.Now), (5, vi .i64 x_14), (6, vp 8 0), (7, vp 11 0), (37, vb (!x_27.2))] rfl (by kernel_rfl) (by kernel_rfl) (by kernel_rfl) ?_
             rcases Bool.eq_false_or_eq_true ((!x_27.2)) with hg_31 | hg_31
             · replace hp := if_t hp hg_31
               refine SD.takes tk D_30 [(37, true)] (knS rfl hg_31 kn0) [3, 4, 5, 6, 7, 8, 9, 10, 11, 12, 13] [] [] [I, I, I, I, I, I, I, I, I, I, I, I, I, I, O, O, O, O, O, O, O, O, O, O] [(0, vs 0), (3, vp 1 0), (4, vi .i64 x_25.Now), (5, vi .i64 x_14), (6, vp 8 0), (7, vp 11 0), (38, .u []), (39, .u []), (40, .u []), (41, .u []), (42, .u []), (43, .u []), (44, .u []), (45, .u []), (46, .u []), (48, vb true)] rfl (by kernel_rfl) (by kernel_rfl) (by kernel_rfl) ?_
               refine SD.takes tk D_30 [(48, true)] (knS rfl rfl kn0) [14, 15, 16, 17, 18, 19, 20, 21, 22, 23] [] [] [I, I, I, I, I, I, I, I, I, I, I, I, I, I, I, I, I, I, I, I, I, I, I, I] [(0, vs 0), (3, vp 1 0), (4, vi .i64 x_25.Now), (5, vi .i64 x_14), (7, vp 11 0), (38, .u []), (39, .u []), (40, .u []), (41, .u []), (42, .u []), (43, .u []), (44, .u []), (45, .u []), (46, .u []), (49, .u []), (50, .u []), (51, .u []), (52, .u []), (53, .u []), (54, .u []), (55, .u []), (56, .u []), (57, .u []), (58, vb true)] rfl (by kernel_rfl) (by kernel_rfl) (by kernel_rfl) ?_
               refine SD.done (by kernel_rfl) fun a w h => ?_
               exact ⟨true, hp, h.at (js := [.g 0, .g 1, .g 2, .g 3, .g 11, .g 9, .g 10]) (by kernel_rfl)⟩
             · replace hp := if_f hp hg_31
               refine SD.takes tk D_30 [(37, false)] (knS rfl hg_31 kn0) [3, 4, 5, 7, 8, 9] [] [] [I, I, I, I, I, I, O, I, I, I, O, O, O, O, O, O, O, O, O, O, O, O, O, O] [(0, vs 0), (3, vp 1 0), (4, vi .i64 x_25.Now), (5, vi .i64 x_14), (6, vp 8 0), (7, vp 11 0), (37, vb (!x_27.2)), (38, .g (C_api_Friend x_27.1 (.s 9) (.s 10))), (39, vp 8 3), (40, vi .u16 x_25.Group), (42, .g (C_api_Friend x_27.1 (.s 9) (.s 10))), (43, vp 8 3), (44, vi .u16 x_25.Group)] rfl (by kernel_rfl) (by kernel_rfl) (by kernel_rfl) ?_
               obtain ⟨x_32, e_x_32, hp⟩ := bind_inv hp
               refine SD.all1 (i := 6) (by kernel_rfl) ?_
               refine SW.eff D_30 (i := 6) (bs' := [I, I, I, I, I, I, I, I, I, I, O, O, O, O, O, O, O, O, O, O, O, O, O, O]) rfl (.inr ⟨_, _, _, _, rfl, rfl, rfl, hg_31⟩) rfl (e_c Try.call18 (ok_friend_Wants F x_27.1 x_25.Group _ e_x_32) [.g 9, .g 10] [.g (C_api_Friend x_27.1 (.s 9) (.s 10)), vi .u16 x_25.Group] (vb x_32) (by kernel_rfl) (.inl rfl)) (by kernel_rfl) rfl (by kernel_rfl) ?_
               refine SD.norm (itsN := [.rd 25 R_T_wirelesslaw51_Op l_1, .blk 28 (C_api_Friend c_12 (.s 2) (.s 3)), .rd 18 R_T_api_Queued c_12.Queue, .rd 1 (RInt .u16) c_12.Subs, .elt (some (0, x_14)) false (C_wirelesslaw51_Op x_25 (.s 5) (.s 6) (.s 7)), .rd 1 R8 x_25.Q.PDU.Payload, .rd 1 R8 x_25.Q.Lower.Bytes, .rd 1 (RInt .u16) x_25.Subs, .blk 40 (C_wirelesslaw51_Op x_25 (.s 5) (.s 6) (.s 7)), .rd 18 R_T_api_Queued x_27.1.Queue, .rd 1 (RInt .u16) x_27.1.Subs, .blk 28 (C_api_Friend x_27.1 (.s 9) (.s 10))]) (by kernel_rfl) ?_
               obtain ⟨x_33, e_x_33, hp⟩ := bind_inv hp
               refine SD.all1 (i := 10) (by kernel_rfl) ?_
               refine SW.eff D_30 (i := 10) (bs' := [I, I, I, I, I, I, I, I, I, I, I, O, O, O, O, O, O, O, O, O, O, O, O, O]) rfl (.inr ⟨_, _, _, _, rfl, rfl, rfl, hg_31⟩) rfl (e_c Try.call19 (ok_wirelessref51_Wants F x_27.1 x_25.Group _ e_x_33) [.g 9, .g 10] [.g (C_api_Friend x_27.1 (.s 9) (.s 10)), vi .u16 x_25.Group] (vb x_33) (by kernel_rfl) (.inl rfl)) (by kernel_rfl) rfl (by kernel_rfl) ?_
               refine SD.takes tk D_30 [(37, false)] (knS rfl hg_31 kn0) [11, 12, 13] [] [] [I, I, I, I, I, I, I, I, I, I, I, I, I, I, O, O, O, O, O, O, O, O, O, O] [(0, vs 0), (3, vp 1 0), (4, vi .i64 x_25.Now), (5, vi .i64 x_14), (6, vp 8 0), (7, vp 11 0), (38, .g (C_api_Friend x_27.1 (.s 9) (.s 10))), (39, vp 8 3), (40, vi .u16 x_25.Group), (41, vb x_32), (42, .g (C_api_Friend x_27.1 (.s 9) (.s 10))), (43, vp 8 3), (44, vi .u16 x_25.Group), (45, vb x_33), (46, vb (x_32 != x_33)), (48, vb (x_32 != x_33))] rfl (by kernel_rfl) (by kernel_rfl) (by kernel_rfl) ?_
               rcases Bool.eq_false_or_eq_true ((x_32 != x_33)) with hg_34 | hg_34
               · replace hp := if_t hp hg_34
                 refine SD.takes tk D_30 [(48, true)] (knS rfl hg_34 kn0) [14, 15, 16, 17, 18, 19, 20, 21, 22, 23] [] [] [I, I, I, I, I, I, I, I, I, I, I, I, I, I, I, I, I, I, I, I, I, I, I, I] [(0, vs 0), (3, vp 1 0), (4, vi .i64 x_25.Now), (5, vi .i64 x_14), (7, vp 11 0), (38, .g (C_api_Friend x_27.1 (.s 9) (.s 10))), (39, vp 8 3), (40, vi .u16 x_25.Group), (41, vb x_32), (42, .g (C_api_Friend x_27.1 (.s 9) (.s 10))), (43, vp 8 3), (44, vi .u16 x_25.Group), (45, vb x_33), (46, vb (x_32 != x_33)), (49, .u []), (50, .u []), (51, .u []), (52, .u []), (53, .u []), (54, .u []), (55, .u []), (56, .u []), (57, .u []), (58, vb true)] rfl (by kernel_rfl) (by kernel_rfl) (by kernel_rfl) ?_
                 refine SD.done (by kernel_rfl) fun a w h => ?_
                 exact ⟨true, hp, h.at (js := [.g 0, .g 1, .g 2, .g 3, .g 11, .g 9, .g 10]) (by kernel_rfl)⟩
               · replace hp := if_f hp hg_34
                 refine SD.takes tk D_30 [(48, false)] (knS rfl hg_34 kn0) [14, 15, 16, 18, 19, 20] [] [] [I, I, I, I, I, I, I, I, I, I, I, I, I, I, I, I, I, O, I, I, I, O, O, O] [(0, vs 0), (3, vp 1 0), (4, vi .i64 x_25.Now), (5, vi .i64 x_14), (7, vp 11 0), (38, .g (C_api_Friend x_27.1 (.s 9) (.s 10))), (39, vp 8 3), (40, vi .u16 x_25.Group), (41, vb x_32), (42, .g (C_api_Friend x_27.1 (.s 9) (.s 10))), (43, vp 8 3), (44, vi .u16 x_25.Group), (45, vb x_33), (46, vb (x_32 != x_33)), (48, vb (x_32 != x_33)), (49, .g (C_api_Friend x_27.1 (.s 9) (.s 10))), (50, vp 8 24), (51, vi .i64 x_25.Now), (53, .g (C_api_Friend x_27.1 (.s 9) (.s 10))), (54, vp 8 24), (55, vi .i64 x_25.Now)] rfl (by kernel_rfl) (by kernel_rfl) (by kernel_rfl) ?_
                 obtain ⟨x_35, e_x_35, hp⟩ := bind_inv hp
                 refine SD.all1 (i := 17) (by kernel_rfl) ?_
                 refine SW.eff D_30 (i := 17) (bs' := [I, I, I, I, I, I, I, I, I, I, I, I, I, I, I, I, I, I, I, I, I, O, O, O]) rfl (.inr ⟨_, _, _, _, rfl, rfl, rfl, hg_34⟩) rfl (e_c Try.call20 (ok_friend_Over F x_27.1 x_25.Now _ e_x_35) [.g 9, .g 10] [.g (C_api_Friend x_27.1 (.s 9) (.s 10)), vi .i64 x_25.Now] (vb x_35) (by kernel_rfl) (.inl rfl)) (by kernel_rfl) rfl (by kernel_rfl) ?_
                 refine SD.norm (itsN := [.rd 25 R_T_wirelesslaw51_Op l_1, .blk 28 (C_api_Friend c_12 (.s 2) (.s 3)), .rd 18 R_T_api_Queued c_12.Queue, .rd 1 (RInt .u16) c_12.Subs, .elt (some (0, x_14)) false (C_wirelesslaw51_Op x_25 (.s 5) (.s 6) (.s 7)), .rd 1 R8 x_25.Q.PDU.Payload, .rd 1 R8 x_25.Q.Lower.Bytes, .rd 1 (RInt .u16) x_25.Subs, .blk 40 (C_wirelesslaw51_Op x_25 (.s 5) (.s 6) (.s 7)), .rd 18 R_T_api_Queued x_27.1.Queue, .rd 1 (RInt .u16) x_27.1.Subs, .blk 28 (C_api_Friend x_27.1 (.s 9) (.s 10))]) (by kernel_rfl) ?_
                 obtain ⟨x_36, e_x_36, hp⟩ := bind_inv hp
                 refine SD.all1 (i := 21) (by kernel_rfl) ?_
                 refine SW.eff D_30 (i := 21) (bs' := [I, I, I, I, I, I, I, I, I, I, I, I, I, I, I, I, I, I, I, I, I, I, O, O]) rfl (.inr ⟨_, _, _, _, rfl, rfl, rfl, hg_34⟩) rfl (e_c Try.call21 (ok_wirelessref51_Over F x_27.1 x_25.Now _ e_x_36) [.g 9, .g 10] [.g (C_api_Friend x_27.1 (.s 9) (.s 10)), vi .i64 x_25.Now] (vb x_36) (by kernel_rfl) (.inl rfl)) (by kernel_rfl) rfl (by kernel_rfl) ?_
                 refine SD.takes tk D_30 [(48, false)] (knS rfl hg_34 kn0) [22, 23] [] [] [I, I, I, I, I, I, I, I, I, I, I, I, I, I, I, I, I, I, I, I, I, I, I, I] [(0, vs 0), (3, vp 1 0), (4, vi .i64 x_25.Now), (5, vi .i64 x_14), (7, vp 11 0), (38, .g (C_api_Friend x_27.1 (.s 9) (.s 10))), (39, vp 8 3), (40, vi .u16 x_25.Group), (41, vb x_32), (42, .g (C_api_Friend x_27.1 (.s 9) (.s 10))), (43, vp 8 3), (44, vi .u16 x_25.Group), (45, vb x_33), (46, vb (x_32 != x_33)), (49, .g (C_api_Friend x_27.1 (.s 9) (.s 10))), (50, vp 8 24), (51, vi .i64 x_25.Now), (52, vb x_35), (53, .g (C_api_Friend x_27.1 (.s 9) (.s 10))), (54, vp 8 24), (55, vi .i64 x_25.Now), (56, vb x_36), (57, vb (x_35 != x_36)), (58, vb (x_35 != x_36))] rfl (by kernel_rfl) (by kernel_rfl) (by kernel_rfl) ?_
                 refine SD.done (by kernel_rfl) fun a w h => ?_
                 exact ⟨(x_35 != x_36), hp, h.at (js := [.g 0, .g 1, .g 2, .g 3, .g 11, .g 9, .g 10]) (by kernel_rfl)⟩
           · rintro a w ⟨z_28, hp, h⟩
             refine h.go ?_
             refine SC.if' rfl hp (fun hp => ?_) (fun hp => ?_)
             · refine SC.r tk [(2, vb false)] [] [] [] (by kernel_rfl) ?_
               have ho := done_inv hp hs1
               replace hp := ho1
               try rw [ho] at hp
               obtain rfl := some_inv' hp
               exact SC.re (js := [.g 0]) tk (by kernel_rfl)
             · refine SC.skipThen ?_
               refine SC.reg ?_
               refine SL.sim tk 2 [(0, vs 0), (3, vp 1 0), (4, vi .i64 x_25.Now), (5, vi .i64 x_14)] [(1, 28, (C_api_Friend x_27.1 (.s 5) (.s 6)))] [] [] (by kernel_rfl) ?_
               refine SL.nilJ fun a w h => ?_
               exact ⟨x_27.1, x_25.Now, hp, h.at (js := [.g 0, .g 1, .g 5, .g 6]) (by kernel_rfl)⟩
       · rintro a w ⟨c_23, x_24, hp, h⟩
         refine h.go ?_
         refine SC.reg ?_
         refine SL.sim tk 3 [(0, vs 0), (3, vp 1 0), (4, vi .i64 x_24), (5, vi .i64 (w64 (x_14 + 1)))] [] [] [] (by kernel_rfl) ?_
         refine SL.nilJ fun a w h => ?_
         exact ⟨n1, Nat.lt_succ_self _, c_23, x_24, w64 (x_14 + 1), next_inv hp hs1, h.at (js := [.g 0, .g 1, .g 2, .g 3]) (by kernel_rfl)⟩
     · refine SC.exitJ rfl fun a w h => ?_
       have ho := done_inv hp hs1
       replace hp := ho1
       try rw [ho] at hp
       exact ⟨hp, h.at (js := [.g 0]) (by kernel_rfl)⟩
   · rintro a w ⟨hp, h⟩
     refine h.go ?_
     refine SC.seq ?_
     refine SC.reg ?_
     obtain ⟨x_3, e_x_3, hp⟩ := bind_inv hp
     refine SL.eff (e_c Try.call7 (ok_wirelesslaw51_lives F  _ e_x_3) [] [] (vb x_3) (by kernel_rfl) (.inl rfl)) rfl (by kernel_rfl) ?_
     refine SL.sim tk 1 [(2, vb x_3)] [] [] [] (by kernel_rfl) ?_
     refine SL.nilThen ?_
     obtain rfl := some_inv' hp
     exact SC.re (js := [.g 0]) tk (by kernel_rfl)
end V
end Go.Proofs.Ytphigebccfoppaa
