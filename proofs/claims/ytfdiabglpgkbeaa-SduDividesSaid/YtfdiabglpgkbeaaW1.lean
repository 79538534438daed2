/-
  Walks, written by program: each Go function returns what its pure twin says.
-/
import Derived.Test.YtfdiabglpgkbeaaW0
namespace Go.Proofs.Ytfdiabglpgkbeaa
namespace V
theorem ok_sdu_Grant (F : Nat) (c_1 : T_api_Channel) (n_2 : Int) (r : T_api_Channel × Int) (hp : sdu_Grant F c_1 n_2 = some r) : Spec Try.prog 22 [.g (C_api_Channel c_1 (.s 0) (.s 1)), vi .i64 n_2] [.rd 1 (RSl 1 R8) c_1.Out, .rd 1 R8 c_1.In] (.u [.inr (C_api_Channel (T_api_Channel.mk r.1.Local r.1.Remote r.1.PSM r.1.MTU r.1.MPS r.1.PeerMTU r.1.PeerMPS r.1.TxCredits r.1.RxCredits r.1.Given r.1.Out r.1.Sent r.1.In r.1.Want r.1.Failed) (.s 2) (.s 3)), .inl (ci .i64 r.2)]) [.gone, .gone, .rd 1 (RSl 1 R8) r.1.Out, .rd 1 R8 r.1.In] := by
 refine Spec.enter Try.func22 rfl Try.ntmps22 rfl rfl fun fx => ?_
 refine SC.seq ?_
 refine SC.reg ?_
 refine SL.eff (e_box (E := 26) (C_api_Channel c_1 (.s 0) (.s 1)) (by kernel_rfl)) rfl (by kernel_rfl) ?_
 refine SL.eff (e_alloc (E := 26) tk (C_api_Channel (T_api_Channel.mk 0 0 0 0 0 0 0 0 0 0 [] 0 [] 0 false) nl nl) (by kernel_rfl)) rfl (by kernel_rfl) ?_
 refine SL.sim tk 1 [(1, vi .i64 n_2), (2, vp 2 0), (4, vp 3 0)] [] [] [] (by kernel_rfl) ?_
 refine SL.nilThen ?_
 refine SC.seq ?_
 refine SC.reg ?_
 refine SL.sim tk 1 [(1, vi .i64 n_2), (2, vp 2 0), (4, vp 3 0), (7, .g (C_api_Channel c_1 (.s 0) (.s 1)))] [] [] [] (by kernel_rfl) ?_
 obtain ⟨x_3, e_x_3, hp⟩ := bind_inv hp
 refine SL.eff (e_c Try.call32 (ok_sdu_copied F c_1 _ e_x_3) [.g 0, .g 1] [.g (C_api_Channel c_1 (.s 0) (.s 1))] (.g (C_api_Channel x_3 (.s 4) (.s 5))) (by kernel_rfl) (.inl rfl)) rfl (by kernel_rfl) ?_
 refine SL.norm (itsN := [.rd 1 (RSl 1 R8) c_1.Out, .rd 1 R8 c_1.In, .blk 26 (C_api_Channel c_1 (.s 0) (.s 1)), .blk 26 (C_api_Channel (T_api_Channel.mk 0 0 0 0 0 0 0 0 0 0 [] 0 [] 0 false) nl nl), .own 1 24 (RSl 1 R8) x_3.Out, .rd 1 R8 x_3.In]) (by kernel_rfl) ?_
 refine SL.sim tk 1 [(1, vi .i64 n_2), (2, vp 2 0), (4, vp 3 0)] [(2, 26, (C_api_Channel x_3 (.s 4) (.s 5)))] [] [] (by kernel_rfl) ?_
 refine SL.nilThen ?_
 refine SC.seq ?_
 refine SC.r tk [(1, vi .i64 n_2), (2, vp 2 0), (4, vp 3 0), (10, vb x_3.Failed)] [] [] [] (by kernel_rfl) ?_
 refine SC.if' rfl hp (fun hp => ?_) (fun hp => ?_)
 · refine SC.r tk [(4, vp 3 0), (5, vi .i64 9)] [(3, 26, (C_api_Channel x_3 (.s 4) (.s 5)))] [] [] (by kernel_rfl) ?_
   obtain rfl := some_inv' hp
   exact SC.re (js := [.g 0, .g 1, .z 4, .g 5]) tk (by kernel_rfl)
 · refine SC.skipThen ?_
   refine SC.seq ?_
   refine SC.reg ?_
   refine SL.sim tk 3 [(1, vi .i64 n_2), (2, vp 2 0), (4, vp 3 0), (13, vi .i64 x_3.RxCredits), (14, vi .i64 n_2)] [] [] [] (by kernel_rfl) ?_
   obtain ⟨x_4, e_x_4, hp⟩ := bind_inv hp
   refine SL.eff (e_c Try.call40 (ok_sdu_more F x_3.RxCredits n_2 _ e_x_4) [] [vi .i64 x_3.RxCredits, vi .i64 n_2] (vi .i64 x_4) (by kernel_rfl) (.inl rfl)) rfl (by kernel_rfl) ?_
   refine SL.sim tk 1 [(1, vi .i64 n_2), (2, vp 2 0), (4, vp 3 0), (6, vi .i64 x_4)] [] [] [] (by kernel_rfl) ?_
   refine SL.nilThen ?_
   refine SC.cut (fun a w => ∃ (x_5 : Int), sdu_Grant_j1 F x_3 x_4 x_5 = some r ∧ A 25 2 fx [(2, vp 2 0), (4, vp 5 0), (6, vi .i64 x_4)] [.gone, .gone, .blk 26 (C_api_Channel ({ x_3 with RxCredits := x_5 }) (.s 3) (.s 4)), .own 1 24 (RSl 1 R8) x_3.Out, .rd 1 R8 x_3.In, .blk 26 (C_api_Channel (T_api_Channel.mk 0 0 0 0 0 0 0 0 0 0 [] 0 [] 0 false) nl nl)] a w) ?_ ?_
   · refine SC.r tk [(1, vi .i64 n_2), (2, vp 2 0), (4, vp 3 0), (6, vi .i64 x_4), (17, vb (x_4 == 0))] [] [] [] (by kernel_rfl) ?_
     refine SC.if' rfl hp (fun hp => ?_) (fun hp => ?_)
     · refine SC.reg ?_
       refine SL.sim tk 6 [(2, vp 2 0), (4, vp 3 0), (6, vi .i64 x_4)] [(2, 26, (C_api_Channel ({ x_3 with RxCredits := w64 (x_3.RxCredits + n_2) }) (.s 4) (.s 5)))] [] [] (by kernel_rfl) ?_
       refine SL.nilJ fun a w h => ?_
       exact ⟨w64 (x_3.RxCredits + n_2), hp, h.at (js := [.g 0, .g 1, .g 2, .g 4, .g 5, .g 3]) (by kernel_rfl)⟩
     · refine SC.skipJ fun a w h => ?_
       exact ⟨x_3.RxCredits, hp, h.at (js := [.g 0, .g 1, .g 2, .g 4, .g 5, .g 3]) (by kernel_rfl)⟩
   · rintro a w ⟨x_5, hp, h⟩
     refine h.go ?_
     refine SC.r tk [(4, vp 5 0), (5, vi .i64 x_4)] [(5, 26, (C_api_Channel ({ x_3 with RxCredits := x_5 }) (.s 3) (.s 4)))] [] [] (by kernel_rfl) ?_
     obtain rfl := some_inv' hp
     exact SC.re (js := [.g 0, .g 1, .z 3, .g 4]) tk (by kernel_rfl)

theorem ok_wirelessref33_Grant (F : Nat) (c_1 : T_api_Channel) (n_2 : Int) (r : T_api_Channel × Int) (hp : wirelessref33_Grant F c_1 n_2 = some r) : Spec Try.prog 23 [.g (C_api_Channel c_1 (.s 0) (.s 1)), vi .i64 n_2] [.rd 1 (RSl 1 R8) c_1.Out, .rd 1 R8 c_1.In] (.u [.inr (C_api_Channel (T_api_Channel.mk r.1.Local r.1.Remote r.1.PSM r.1.MTU r.1.MPS r.1.PeerMTU r.1.PeerMPS r.1.TxCredits r.1.RxCredits r.1.Given r.1.Out r.1.Sent r.1.In r.1.Want r.1.Failed) (.s 2) (.s 3)), .inl (ci .i64 r.2)]) [.gone, .gone, .rd 1 (RSl 1 R8) r.1.Out, .rd 1 R8 r.1.In] := by
 refine Spec.enter Try.func23 rfl Try.ntmps23 rfl rfl fun fx => ?_
 refine SC.seq ?_
 refine SC.reg ?_
 refine SL.eff (e_box (E := 26) (C_api_Channel c_1 (.s 0) (.s 1)) (by kernel_rfl)) rfl (by kernel_rfl) ?_
 refine SL.eff (e_alloc (E := 26) tk (C_api_Channel (T_api_Channel.mk 0 0 0 0 0 0 0 0 0 0 [] 0 [] 0 false) nl nl) (by kernel_rfl)) rfl (by kernel_rfl) ?_
 refine SL.sim tk 1 [(1, vi .i64 n_2), (2, vp 2 0), (4, vp 3 0)] [] [] [] (by kernel_rfl) ?_
 refine SL.nilThen ?_
 refine SC.seq ?_
 refine SC.r tk [(1, vi .i64 n_2), (2, vp 2 0), (4, vp 3 0), (7, vb c_1.Failed)] [] [] [] (by kernel_rfl) ?_
 refine SC.if' rfl hp (fun hp => ?_) (fun hp => ?_)
 · refine SC.r tk [(4, vp 3 0), (5, vi .i64 9)] [(3, 26, (C_api_Channel c_1 (.s 0) (.s 1)))] [] [] (by kernel_rfl) ?_
   obtain rfl := some_inv' hp
   exact SC.re (js := [.g 0, .g 1, .g 0, .g 1]) tk (by kernel_rfl)
 · refine SC.skipThen ?_
   refine SC.seq ?_
   refine SC.r tk [(1, vi .i64 n_2), (2, vp 2 0), (4, vp 3 0), (10, vb (decide (n_2 < 1)))] [] [] [] (by kernel_rfl) ?_
   refine SC.if' rfl hp (fun hp => ?_) (fun hp => ?_)
   · refine SC.r tk [(4, vp 3 0), (5, vi .i64 5)] [(3, 26, (C_api_Channel c_1 (.s 0) (.s 1)))] [] [] (by kernel_rfl) ?_
     obtain rfl := some_inv' hp
     exact SC.re (js := [.g 0, .g 1, .g 0, .g 1]) tk (by kernel_rfl)
   · refine SC.skipThen ?_
     refine SC.seq ?_
     refine SC.r tk [(1, vi .i64 n_2), (2, vp 2 0), (4, vp 3 0), (16, vb (decide (n_2 > (w64 (65535 - c_1.RxCredits)))))] [] [] [] (by kernel_rfl) ?_
     refine SC.if' rfl hp (fun hp => ?_) (fun hp => ?_)
     · refine SC.r tk [(4, vp 3 0), (5, vi .i64 19)] [(3, 26, (C_api_Channel c_1 (.s 0) (.s 1)))] [] [] (by kernel_rfl) ?_
       obtain rfl := some_inv' hp
       exact SC.re (js := [.g 0, .g 1, .g 0, .g 1]) tk (by kernel_rfl)
     · refine SC.skipThen ?_
       refine SC.r tk [(2, vp 2 0), (4, vp 3 0)] [(2, 26, (C_api_Channel ({ c_1 with RxCredits := w64 (c_1.RxCredits + n_2) }) (.s 0) (.s 1)))] [] [] (by kernel_rfl) ?_
       refine SC.r tk [(4, vp 3 0), (5, vi .i64 0)] [(3, 26, (C_api_Channel ({ c_1 with RxCredits := w64 (c_1.RxCredits + n_2) }) (.s 0) (.s 1)))] [] [] (by kernel_rfl) ?_
       obtain rfl := some_inv' hp
       exact SC.re (js := [.g 0, .g 1, .g 0, .g 1]) tk (by kernel_rfl)

theorem ok_sdu_Credit (F : Nat) (c_1 : T_api_Channel) (n_2 : Int) (r : T_api_Channel × Int) (hp : sdu_Credit F c_1 n_2 = some r) : Spec Try.prog 24 [.g (C_api_Channel c_1 (.s 0) (.s 1)), vi .i64 n_2] [.rd 1 (RSl 1 R8) c_1.Out, .rd 1 R8 c_1.In] (.u [.inr (C_api_Channel (T_api_Channel.mk r.1.Local r.1.Remote r.1.PSM r.1.MTU r.1.MPS r.1.PeerMTU r.1.PeerMPS r.1.TxCredits r.1.RxCredits r.1.Given r.1.Out r.1.Sent r.1.In r.1.Want r.1.Failed) (.s 2) (.s 3)), .inl (ci .i64 r.2)]) [.gone, .gone, .rd 1 (RSl 1 R8) r.1.Out, .rd 1 R8 r.1.In] := by
 refine Spec.enter Try.func24 rfl Try.ntmps24 rfl rfl fun fx => ?_
 refine SC.seq ?_
 refine SC.reg ?_
 refine SL.eff (e_box (E := 26) (C_api_Channel c_1 (.s 0) (.s 1)) (by kernel_rfl)) rfl (by kernel_rfl) ?_
 refine SL.eff (e_alloc (E := 26) tk (C_api_Channel (T_api_Channel.mk 0 0 0 0 0 0 0 0 0 0 [] 0 [] 0 false) nl nl) (by kernel_rfl)) rfl (by kernel_rfl) ?_
 refine SL.sim tk 1 [(1, vi .i64 n_2), (2, vp 2 0), (4, vp 3 0)] [] [] [] (by kernel_rfl) ?_
 refine SL.nilThen ?_
 refine SC.seq ?_
 refine SC.reg ?_
 refine SL.sim tk 1 [(1, vi .i64 n_2), (2, vp 2 0), (4, vp 3 0), (7, .g (C_api_Channel c_1 (.s 0) (.s 1)))] [] [] [] (by kernel_rfl) ?_
 obtain ⟨x_3, e_x_3, hp⟩ := bind_inv hp
 refine SL.eff (e_c Try.call32 (ok_sdu_copied F c_1 _ e_x_3) [.g 0, .g 1] [.g (C_api_Channel c_1 (.s 0) (.s 1))] (.g (C_api_Channel x_3 (.s 4) (.s 5))) (by kernel_rfl) (.inl rfl)) rfl (by kernel_rfl) ?_
 refine SL.norm (itsN := [.rd 1 (RSl 1 R8) c_1.Out, .rd 1 R8 c_1.In, .blk 26 (C_api_Channel c_1 (.s 0) (.s 1)), .blk 26 (C_api_Channel (T_api_Channel.mk 0 0 0 0 0 0 0 0 0 0 [] 0 [] 0 false) nl nl), .own 1 24 (RSl 1 R8) x_3.Out, .rd 1 R8 x_3.In]) (by kernel_rfl) ?_
 refine SL.sim tk 1 [(1, vi .i64 n_2), (2, vp 2 0), (4, vp 3 0)] [(2, 26, (C_api_Channel x_3 (.s 4) (.s 5)))] [] [] (by kernel_rfl) ?_
 refine SL.nilThen ?_
 refine SC.seq ?_
 refine SC.r tk [(1, vi .i64 n_2), (2, vp 2 0), (4, vp 3 0), (10, vb x_3.Failed)] [] [] [] (by kernel_rfl) ?_
 refine SC.if' rfl hp (fun hp => ?_) (fun hp => ?_)
 · refine SC.r tk [(4, vp 3 0), (5, vi .i64 9)] [(3, 26, (C_api_Channel x_3 (.s 4) (.s 5)))] [] [] (by kernel_rfl) ?_
   obtain rfl := some_inv' hp
   exact SC.re (js := [.g 0, .g 1, .z 4, .g 5]) tk (by kernel_rfl)
 · refine SC.skipThen ?_
   refine SC.seq ?_
   refine SC.reg ?_
   refine SL.sim tk 3 [(1, vi .i64 n_2), (2, vp 2 0), (4, vp 3 0), (13, vi .i64 x_3.TxCredits), (14, vi .i64 n_2)] [] [] [] (by kernel_rfl) ?_
   obtain ⟨x_4, e_x_4, hp⟩ := bind_inv hp
   refine SL.eff (e_c Try.call40 (ok_sdu_more F x_3.TxCredits n_2 _ e_x_4) [] [vi .i64 x_3.TxCredits, vi .i64 n_2] (vi .i64 x_4) (by kernel_rfl) (.inl rfl)) rfl (by kernel_rfl) ?_
   refine SL.sim tk 1 [(1, vi .i64 n_2), (2, vp 2 0), (4, vp 3 0), (6, vi .i64 x_4)] [] [] [] (by kernel_rfl) ?_
   refine SL.nilThen ?_
   refine SC.cut (fun a w => ∃ (c_7 : T_api_Channel), sdu_Credit_j1 F x_3 x_4 c_7 = some r ∧ A 26 2 fx [(2, vp 2 0), (4, vp 5 0), (6, vi .i64 x_4)] [.gone, .gone, .blk 26 (C_api_Channel ({ x_3 with TxCredits := c_7.TxCredits, Failed := c_7.Failed }) (.s 3) (.s 4)), .own 1 24 (RSl 1 R8) x_3.Out, .rd 1 R8 x_3.In, .blk 26 (C_api_Channel (T_api_Channel.mk 0 0 0 0 0 0 0 0 0 0 [] 0 [] 0 false) nl nl)] a w) ?_ ?_
   · refine SC.r tk [(1, vi .i64 n_2), (2, vp 2 0), (4, vp 3 0), (6, vi .i64 x_4), (17, vb (x_4 == 0))] [] [] [] (by kernel_rfl) ?_
     refine SC.if' rfl hp (fun hp => ?_) (fun hp => ?_)
     · refine SC.reg ?_
       refine SL.sim tk 6 [(2, vp 2 0), (4, vp 3 0), (6, vi .i64 x_4)] [(2, 26, (C_api_Channel ({ x_3 with TxCredits := w64 (x_3.TxCredits + n_2) }) (.s 4) (.s 5)))] [] [] (by kernel_rfl) ?_
       refine SL.nilJ fun a w h => ?_
       exact ⟨{ x_3 with TxCredits := w64 (x_3.TxCredits + n_2) }, hp, h.at (js := [.g 0, .g 1, .g 2, .g 4, .g 5, .g 3]) (by kernel_rfl)⟩
     · refine SC.reg ?_
       refine SL.sim tk 2 [(2, vp 2 0), (4, vp 3 0), (6, vi .i64 x_4)] [(2, 26, (C_api_Channel ({ x_3 with Failed := true }) (.s 4) (.s 5)))] [] [] (by kernel_rfl) ?_
       refine SL.nilJ fun a w h => ?_
       exact ⟨{ x_3 with Failed := true }, hp, h.at (js := [.g 0, .g 1, .g 2, .g 4, .g 5, .g 3]) (by kernel_rfl)⟩
   · rintro a w ⟨c_7, hp, h⟩
     refine h.go ?_
     refine SC.r tk [(4, vp 5 0), (5, vi .i64 x_4)] [(5, 26, (C_api_Channel ({ x_3 with TxCredits := c_7.TxCredits, Failed := c_7.Failed }) (.s 3) (.s 4)))] [] [] (by kernel_rfl) ?_
     obtain rfl := some_inv' hp
     exact SC.re (js := [.g 0, .g 1, .z 3, .g 4]) tk (by kernel_rfl)

theorem ok_wirelessref33_Credit (F : Nat) (c_1 : T_api_Channel) (n_2 : Int) (r : T_api_Channel × Int) (hp : wirelessref33_Credit F c_1 n_2 = some r) : Spec Try.prog 25 [.g (C_api_Channel c_1 (.s 0) (.s 1)), vi .i64 n_2] [.rd 1 (RSl 1 R8) c_1.Out, .rd 1 R8 c_1.In] (.u [.inr (C_api_Channel (T_api_Channel.mk r.1.Local r.1.Remote r.1.PSM r.1.MTU r.1.MPS r.1.PeerMTU r.1.PeerMPS r.1.TxCredits r.1.RxCredits r.1.Given r.1.Out r.1.Sent r.1.In r.1.Want r.1.Failed) (.s 2) (.s 3)), .inl (ci .i64 r.2)]) [.gone, .gone, .rd 1 (RSl 1 R8) r.1.Out, .rd 1 R8 r.1.In] := by
 refine Spec.enter Try.func25 rfl Try.ntmps25 rfl rfl fun fx => ?_
 refine SC.seq ?_
 refine SC.reg ?_
 refine SL.eff (e_box (E := 26) (C_api_Channel c_1 (.s 0) (.s 1)) (by kernel_rfl)) rfl (by kernel_rfl) ?_
 refine SL.eff (e_alloc (E := 26) tk (C_api_Channel (T_api_Channel.mk 0 0 0 0 0 0 0 0 0 0 [] 0 [] 0 false) nl nl) (by kernel_rfl)) rfl (by kernel_rfl) ?_
 refine SL.sim tk 1 [(1, vi .i64 n_2), (2, vp 2 0), (4, vp 3 0)] [] [] [] (by kernel_rfl) ?_
 refine SL.nilThen ?_
 refine SC.seq ?_
 refine SC.r tk [(1, vi .i64 n_2), (2, vp 2 0), (4, vp 3 0), (7, vb c_1.Failed)] [] [] [] (by kernel_rfl) ?_
 refine SC.if' rfl hp (fun hp => ?_) (fun hp => ?_)
 · refine SC.r tk [(4, vp 3 0), (5, vi .i64 9)] [(3, 26, (C_api_Channel c_1 (.s 0) (.s 1)))] [] [] (by kernel_rfl) ?_
   obtain rfl := some_inv' hp
   exact SC.re (js := [.g 0, .g 1, .g 0, .g 1]) tk (by kernel_rfl)
 · refine SC.skipThen ?_
   refine SC.seq ?_
   refine SC.r tk [(1, vi .i64 n_2), (2, vp 2 0), (4, vp 3 0), (17, vb ((decide (n_2 < 1)) || (decide (n_2 > (w64 (65535 - c_1.TxCredits))))))] [] [] [] (by kernel_rfl) ?_
   refine SC.if' rfl hp (fun hp => ?_) (fun hp => ?_)
   · refine SC.r tk [(1, vi .i64 n_2), (2, vp 2 0), (4, vp 3 0)] [(2, 26, (C_api_Channel ({ c_1 with Failed := true }) (.s 0) (.s 1)))] [] [] (by kernel_rfl) ?_
     refine SC.seq ?_
     refine SC.r tk [(2, vp 2 0), (4, vp 3 0), (20, vb (decide (n_2 < 1)))] [] [] [] (by kernel_rfl) ?_
     refine SC.if' rfl hp (fun hp => ?_) (fun hp => ?_)
     · refine SC.r tk [(4, vp 3 0), (5, vi .i64 5)] [(3, 26, (C_api_Channel ({ c_1 with Failed := true }) (.s 0) (.s 1)))] [] [] (by kernel_rfl) ?_
       obtain rfl := some_inv' hp
       exact SC.re (js := [.g 0, .g 1, .g 0, .g 1]) tk (by kernel_rfl)
     · refine SC.skipThen ?_
       refine SC.r tk [(4, vp 3 0), (5, vi .i64 19)] [(3, 26, (C_api_Channel ({ c_1 with Failed := true }) (.s 0) (.s 1)))] [] [] (by kernel_rfl) ?_
       obtain rfl := some_inv' hp
       exact SC.re (js := [.g 0, .g 1, .g 0, .g 1]) tk (by kernel_rfl)
   · refine SC.skipThen ?_
     refine SC.r tk [(2, vp 2 0), (4, vp 3 0)] [(2, 26, (C_api_Channel ({ c_1 with TxCredits := w64 (c_1.TxCredits + n_2) }) (.s 0) (.s 1)))] [] [] (by kernel_rfl) ?_
     refine SC.r tk [(4, vp 3 0), (5, vi .i64 0)] [(3, 26, (C_api_Channel ({ c_1 with TxCredits := w64 (c_1.TxCredits + n_2) }) (.s 0) (.s 1)))] [] [] (by kernel_rfl) ?_
     obtain rfl := some_inv' hp
     exact SC.re (js := [.g 0, .g 1, .g 0, .g 1]) tk (by kernel_rfl)

theorem ok_wirelesslaw33_SduQueues (F : Nat) (c_1 : T_api_Channel) (b_2 : (List Int)) (n_3 : Int) (r : Bool) (hp : wirelesslaw33_SduQueues F c_1 b_2 n_3 = some r) : Spec Try.prog 6 [.g (C_api_Channel c_1 (.s 0) (.s 1)), vs 2, vi .i64 n_3] [.rd 1 (RSl 1 R8) c_1.Out, .rd 1 R8 c_1.In, .rd 1 R8 b_2] (vb r) [.gone, .gone, .gone] := by
 refine Spec.enter Try.func6 rfl Try.ntmps6 rfl rfl fun fx => ?_
 refine SC.seq ?_
 refine SC.reg ?_
 refine SL.eff (e_box (E := 26) (C_api_Channel c_1 (.s 0) (.s 1)) (by kernel_rfl)) rfl (by kernel_rfl) ?_
 refine SL.sim tk 1 [(1, vs 2), (2, vi .i64 n_3), (3, vp 3 0)] [] [] [] (by kernel_rfl) ?_
 refine SL.nilThen ?_
 refine SC.seq ?_
 refine SC.seq ?_
 refine SC.reg ?_
 refine SL.sim tk 1 [(1, vs 2), (2, vi .i64 n_3), (3, vp 3 0), (11, .g (C_api_Channel c_1 (.s 0) (.s 1)))] [] [] [] (by kernel_rfl) ?_
 obtain ⟨x_4, e_x_4, hp⟩ := bind_inv hp
 refine SL.eff (e_c Try.call9 (ok_wirelesslaw33_light F c_1 _ e_x_4) [.g 0, .g 1] [.g (C_api_Channel c_1 (.s 0) (.s 1))] (vb x_4) (by kernel_rfl) (.inl rfl)) rfl (by kernel_rfl) ?_
 refine SL.sim tk 7 [(1, vs 2), (2, vi .i64 n_3), (3, vp 3 0), (19, vb ((!x_4) || (decide ((len b_2) > 16384))))] [] [] [] (by kernel_rfl) ?_
 obtain ⟨z_6, hz, hpr⟩ := bind_inv hp
 clear hp
 refine SL.cutAt 4 (fun a w => A 105 3 fx [(1, vs 2), (2, vi .i64 n_3), (3, vp 3 0), (23, vb z_6)] [.rd 1 (RSl 1 R8) c_1.Out, .rd 1 R8 c_1.In, .rd 1 R8 b_2, .blk 26 (C_api_Channel c_1 (.s 0) (.s 1))] a w) ?_ ?_
 · have hp := hz
   rcases Bool.eq_false_or_eq_true (((!x_4) || (decide ((len b_2) > 16384)))) with hg_5 | hg_5
   · replace hp := if_t hp hg_5
     refine SL.no rfl rfl hg_5 rfl ?_
     refine SL.no rfl rfl hg_5 rfl ?_
     refine SL.no rfl rfl hg_5 rfl ?_
     refine SL.pickt rfl hg_5 rfl rfl ?_
     refine SL.nilJ fun a w h => ?_
     obtain rfl := some_inv' hp
     exact h.at (js := [.g 0, .g 1, .g 2, .g 3]) (by kernel_rfl)
   · replace hp := if_f hp hg_5
     refine SL.yes rfl rfl hg_5 ?_
     refine SL.sim tk 1 [(1, vs 2), (2, vi .i64 n_3), (3, vp 3 0), (19, vb ((!x_4) || (decide ((len b_2) > 16384)))), (20, .g (C_api_Channel c_1 (.s 0) (.s 1)))] [] [] [] (by kernel_rfl) ?_
     refine SL.yes rfl rfl hg_5 ?_
     obtain ⟨x_43, e_x_43, hp⟩ := bind_inv hp
     refine SL.eff (e_c Try.call10 (ok_wirelessref33_Check F c_1 _ e_x_43) [.g 0, .g 1] [.g (C_api_Channel c_1 (.s 0) (.s 1))] (vi .i64 x_43) (by kernel_rfl) (.inl rfl)) rfl (by kernel_rfl) ?_
     refine SL.norm (itsN := [.rd 1 (RSl 1 R8) c_1.Out, .rd 1 R8 c_1.In, .rd 1 R8 b_2, .blk 26 (C_api_Channel c_1 (.s 0) (.s 1))]) (by kernel_rfl) ?_
     refine SL.yes rfl rfl hg_5 ?_
     refine SL.sim tk 1 [(1, vs 2), (2, vi .i64 n_3), (3, vp 3 0), (19, vb ((!x_4) || (decide ((len b_2) > 16384)))), (22, vb (x_43 != 0))] [] [] [] (by kernel_rfl) ?_
     refine SL.pickf rfl hg_5 rfl rfl ?_
     refine SL.nilJ fun a w h => ?_
     obtain rfl := some_inv' hp
     exact h.at (js := [.g 0, .g 1, .g 2, .g 3]) (by kernel_rfl)
 · intro a w h
   have hp := hpr; clear hpr hz
   refine h.goL ?_
   refine SL.nilThen ?_
   refine SC.if' rfl hp (fun hp => ?_) (fun hp => ?_)
   · refine SC.seq ?_
     refine SC.reg ?_
     obtain ⟨x_7, e_x_7, hp⟩ := bind_inv hp
     refine SL.eff (e_c Try.call11 (ok_wirelesslaw33_exampleHolds F  _ e_x_7) [] [] (vb x_7) (by kernel_rfl) (.inl rfl)) rfl (by kernel_rfl) ?_
     refine SL.sim tk 1 [(6, vb x_7)] [] [] [] (by kernel_rfl) ?_
     refine SL.nilThen ?_
     obtain rfl := some_inv' hp
     exact SC.re (js := [.g 0, .g 1, .g 2]) tk (by kernel_rfl)
   · refine SC.skipThen ?_
     refine SC.seq ?_
     refine SC.reg ?_
     refine SL.sim tk 2 [(1, vs 2), (2, vi .i64 n_3), (3, vp 3 0), (26, .g (C_api_Channel c_1 (.s 0) (.s 1))), (27, vs 2)] [] [] [] (by kernel_rfl) ?_
     obtain ⟨x_8, e_x_8, hp⟩ := bind_inv hp
     refine SL.eff (e_c Try.call18 (ok_sdu_Queue F c_1 b_2 _ e_x_8) [.g 0, .g 1, .g 2] [.g (C_api_Channel c_1 (.s 0) (.s 1)), vs 2] (.u [.inr (C_api_Channel x_8.1 (.s 4) (.s 5)), .inl (ci .i64 x_8.2)]) (by kernel_rfl) (.inl rfl)) rfl (by kernel_rfl) ?_
     refine SL.sim tk 3 [(1, vs 2), (2, vi .i64 n_3), (3, vp 3 0), (29, .g (C_api_Channel x_8.1 (.s 4) (.s 5))), (30, vi .i64 x_8.2)] [] [] [] (by kernel_rfl) ?_
     refine SL.eff (e_alloc (E := 26) tk (C_api_Channel (T_api_Channel.mk 0 0 0 0 0 0 0 0 0 0 [] 0 [] 0 false) nl nl) (by kernel_rfl)) rfl (by kernel_rfl) ?_
     refine SL.sim tk 2 [(1, vs 2), (2, vi .i64 n_3), (3, vp 3 0), (7, vp 6 0), (8, vi .i64 x_8.2)] [(6, 26, (C_api_Channel x_8.1 (.s 4) (.s 5)))] [] [] (by kernel_rfl) ?_
     refine SL.nilThen ?_
     refine SC.seq ?_
     refine SC.reg ?_
     refine SL.sim tk 2 [(2, vi .i64 n_3), (3, vp 3 0), (7, vp 6 0), (8, vi .i64 x_8.2), (32, .g (C_api_Channel c_1 (.s 0) (.s 1))), (33, vs 2)] [] [] [] (by kernel_rfl) ?_
     obtain ⟨x_9, e_x_9, hp⟩ := bind_inv hp
     refine SL.eff (e_c Try.call21 (ok_wirelessref33_Queue F c_1 b_2 _ e_x_9) [.g 0, .g 1, .g 2] [.g (C_api_Channel c_1 (.s 0) (.s 1)), vs 2] (.u [.inr (C_api_Channel x_9.1 (.s 7) (.s 8)), .inl (ci .i64 x_9.2)]) (by kernel_rfl) (.inl rfl)) rfl (by kernel_rfl) ?_
     refine SL.norm (itsN := [.rd 1 (RSl 1 R8) c_1.Out, .rd 1 R8 c_1.In, .rd 1 R8 b_2, .blk 26 (C_api_Channel c_1 (.s 0) (.s 1)), .rd 1 (RSl 1 R8) x_8.1.Out, .rd 1 R8 x_8.1.In, .blk 26 (C_api_Channel x_8.1 (.s 4) (.s 5)), .rd 1 (RSl 1 R8) x_9.1.Out, .rd 1 R8 x_9.1.In]) (by kernel_rfl) ?_
     refine SL.sim tk 3 [(2, vi .i64 n_3), (3, vp 3 0), (7, vp 6 0), (8, vi .i64 x_8.2), (35, .g (C_api_Channel x_9.1 (.s 7) (.s 8))), (36, vi .i64 x_9.2)] [] [] [] (by kernel_rfl) ?_
     refine SL.eff (e_alloc (E := 26) tk (C_api_Channel (T_api_Channel.mk 0 0 0 0 0 0 0 0 0 0 [] 0 [] 0 false) nl nl) (by kernel_rfl)) rfl (by kernel_rfl) ?_
     refine SL.sim tk 2 [(2, vi .i64 n_3), (3, vp 3 0), (7, vp 6 0), (8, vi .i64 x_8.2), (9, vp 9 0), (10, vi .i64 x_9.2)] [(9, 26, (C_api_Channel x_9.1 (.s 7) (.s 8)))] [] [] (by kernel_rfl) ?_
     refine SL.nilThen ?_
     refine SC.seq ?_
     refine SC.seq ?_
     refine SC.reg ?_
     refine SL.sim tk 4 [(2, vi .i64 n_3), (3, vp 3 0), (7, vp 6 0), (9, vp 9 0), (40, vb (x_8.2 != x_9.2))] [] [] [] (by kernel_rfl) ?_
     obtain ⟨z_11, hz, hpr⟩ := bind_inv hp
     clear hp
     refine SL.cutAt 5 (fun a w => A 105 3 fx [(2, vi .i64 n_3), (3, vp 3 0), (7, vp 4 0), (9, vp 7 0), (45, vb z_11)] [.rd 1 (RSl 1 R8) c_1.Out, .rd 1 R8 c_1.In, .gone, .blk 26 (C_api_Channel c_1 (.s 0) (.s 1)), .blk 26 (C_api_Channel x_8.1 (.s 5) (.s 6)), .rd 1 (RSl 1 R8) x_8.1.Out, .rd 1 R8 x_8.1.In, .blk 26 (C_api_Channel x_9.1 (.s 8) (.s 9)), .rd 1 (RSl 1 R8) x_9.1.Out, .rd 1 R8 x_9.1.In] a w) ?_ ?_
     · have hp := hz
       rcases Bool.eq_false_or_eq_true ((x_8.2 != x_9.2)) with hg_10 | hg_10
       · replace hp := if_t hp hg_10
         refine SL.no rfl rfl hg_10 rfl ?_
         refine SL.no rfl rfl hg_10 rfl ?_
         refine SL.no rfl rfl hg_10 rfl ?_
         refine SL.no rfl rfl hg_10 rfl ?_
         refine SL.pickt rfl hg_10 rfl rfl ?_
         refine SL.nilJ fun a w h => ?_
         obtain rfl := some_inv' hp
         exact h.at (js := [.g 0, .g 1, .g 2, .g 3, .g 6, .g 4, .g 5, .g 9, .g 7, .g 8]) (by kernel_rfl)
       · replace hp := if_f hp hg_10
         refine SL.yes rfl rfl hg_10 ?_
         refine SL.sim tk 1 [(2, vi .i64 n_3), (3, vp 3 0), (7, vp 6 0), (9, vp 9 0), (40, vb (x_8.2 != x_9.2)), (41, .g (C_api_Channel x_8.1 (.s 4) (.s 5)))] [] [] [] (by kernel_rfl) ?_
         refine SL.yes rfl rfl hg_10 ?_
         refine SL.sim tk 1 [(2, vi .i64 n_3), (3, vp 3 0), (7, vp 6 0), (9, vp 9 0), (40, vb (x_8.2 != x_9.2)), (41, .g (C_api_Channel x_8.1 (.s 4) (.s 5))), (42, .g (C_api_Channel x_9.1 (.s 7) (.s 8)))] [] [] [] (by kernel_rfl) ?_
         refine SL.yes rfl rfl hg_10 ?_
         obtain ⟨x_41, e_x_41, hp⟩ := bind_inv hp
         refine SL.eff (e_c Try.call14 (ok_wirelessref33_SameChannel F x_8.1 x_9.1 _ e_x_41) [.g 4, .g 5, .g 7, .g 8] [.g (C_api_Channel x_8.1 (.s 4) (.s 5)), .g (C_api_Channel x_9.1 (.s 7) (.s 8))] (vb x_41) (by kernel_rfl) (.inl rfl)) rfl (by kernel_rfl) ?_
         refine SL.norm (itsN := [.rd 1 (RSl 1 R8) c_1.Out, .rd 1 R8 c_1.In, .rd 1 R8 b_2, .blk 26 (C_api_Channel c_1 (.s 0) (.s 1)), .rd 1 (RSl 1 R8) x_8.1.Out, .rd 1 R8 x_8.1.In, .blk 26 (C_api_Channel x_8.1 (.s 4) (.s 5)), .rd 1 (RSl 1 R8) x_9.1.Out, .rd 1 R8 x_9.1.In, .blk 26 (C_api_Channel x_9.1 (.s 7) (.s 8))]) (by kernel_rfl) ?_
         refine SL.yes rfl rfl hg_10 ?_
         refine SL.sim tk 1 [(2, vi .i64 n_3), (3, vp 3 0), (7, vp 6 0), (9, vp 9 0), (40, vb (x_8.2 != x_9.2)), (44, vb (!x_41))] [] [] [] (by kernel_rfl) ?_
         refine SL.pickf rfl hg_10 rfl rfl ?_
         refine SL.nilJ fun a w h => ?_
         obtain rfl := some_inv' hp
         exact h.at (js := [.g 0, .g 1, .g 2, .g 3, .g 6, .g 4, .g 5, .g 9, .g 7, .g 8]) (by kernel_rfl)
     · intro a w h
       have hp := hpr; clear hpr hz
       refine h.goL ?_
       refine SL.sim tk 1 [(2, vi .i64 n_3), (3, vp 3 0), (7, vp 4 0), (9, vp 7 0), (46, vb z_11)] [] [] [] (by kernel_rfl) ?_
       obtain ⟨z_13, hz, hpr⟩ := bind_inv hp
       clear hp
       refine SL.cutAt 4 (fun a w => A 105 3 fx [(2, vi .i64 n_3), (3, vp 3 0), (7, vp 4 0), (9, vp 7 0), (50, vb z_13)] [.rd 1 (RSl 1 R8) c_1.Out, .rd 1 R8 c_1.In, .gone, .blk 26 (C_api_Channel c_1 (.s 0) (.s 1)), .blk 26 (C_api_Channel x_8.1 (.s 5) (.s 6)), .rd 1 (RSl 1 R8) x_8.1.Out, .rd 1 R8 x_8.1.In, .blk 26 (C_api_Channel x_9.1 (.s 8) (.s 9)), .rd 1 (RSl 1 R8) x_9.1.Out, .rd 1 R8 x_9.1.In] a w) ?_ ?_
       · have hp := hz
         rcases Bool.eq_false_or_eq_true (z_11) with hg_12 | hg_12
         · replace hp := if_t hp hg_12
           refine SL.no rfl rfl hg_12 rfl ?_
           refine SL.no rfl rfl hg_12 rfl ?_
           refine SL.no rfl rfl hg_12 rfl ?_
           refine SL.pickt rfl hg_12 rfl rfl ?_
           refine SL.nilJ fun a w h => ?_
           obtain rfl := some_inv' hp
           exact h.at (js := [.g 0, .g 1, .g 2, .g 3, .g 4, .g 5, .g 6, .g 7, .g 8, .g 9]) (by kernel_rfl)
         · replace hp := if_f hp hg_12
           refine SL.yes rfl rfl hg_12 ?_
           refine SL.sim tk 1 [(2, vi .i64 n_3), (3, vp 3 0), (7, vp 4 0), (9, vp 7 0), (46, vb z_11), (47, .g (C_api_Channel x_8.1 (.s 5) (.s 6)))] [] [] [] (by kernel_rfl) ?_
           refine SL.yes rfl rfl hg_12 ?_
           obtain ⟨x_39, e_x_39, hp⟩ := bind_inv hp
           refine SL.eff (e_c Try.call10 (ok_wirelessref33_Check F x_8.1 _ e_x_39) [.g 5, .g 6] [.g (C_api_Channel x_8.1 (.s 5) (.s 6))] (vi .i64 x_39) (by kernel_rfl) (.inl rfl)) rfl (by kernel_rfl) ?_
           refine SL.yes rfl rfl hg_12 ?_
           refine SL.sim tk 1 [(2, vi .i64 n_3), (3, vp 3 0), (7, vp 4 0), (9, vp 7 0), (46, vb z_11), (49, vb (x_39 != 0))] [] [] [] (by kernel_rfl) ?_
           refine SL.pickf rfl hg_12 rfl rfl ?_
           refine SL.nilJ fun a w h => ?_
           obtain rfl := some_inv' hp
           exact h.at (js := [.g 0, .g 1, .g 2, .g 3, .g 4, .g 5, .g 6, .g 7, .g 8, .g 9]) (by kernel_rfl)
       · intro a w h
         have hp := hpr; clear hpr hz
         refine h.goL ?_
         refine SL.nilThen ?_
         refine SC.if' rfl hp (fun hp => ?_) (fun hp => ?_)
         · refine SC.r tk [(6, vb false)] [] [] [] (by kernel_rfl) ?_
           obtain rfl := some_inv' hp
           exact SC.re (js := [.g 0, .g 1, .g 2]) tk (by kernel_rfl)
         · refine SC.skipThen ?_
           refine SC.seq ?_
           refine SC.reg ?_
           refine SL.sim tk 2 [(2, vi .i64 n_3), (3, vp 3 0), (7, vp 4 0), (9, vp 7 0), (52, .g (C_api_Channel c_1 (.s 0) (.s 1))), (53, vi .i64 n_3)] [] [] [] (by kernel_rfl) ?_
           obtain ⟨x_14, e_x_14, hp⟩ := bind_inv hp
           refine SL.eff (e_c Try.call22 (ok_sdu_Grant F c_1 n_3 _ e_x_14) [.g 0, .g 1] [.g (C_api_Channel c_1 (.s 0) (.s 1)), vi .i64 n_3] (.u [.inr (C_api_Channel x_14.1 (.s 10) (.s 11)), .inl (ci .i64 x_14.2)]) (by kernel_rfl) (.inl rfl)) rfl (by kernel_rfl) ?_
           refine SL.sim tk 5 [(2, vi .i64 n_3), (3, vp 3 0), (7, vp 4 0), (8, vi .i64 x_14.2), (9, vp 7 0)] [(4, 26, (C_api_Channel x_14.1 (.s 10) (.s 11)))] [] [] (by kernel_rfl) ?_
           refine SL.nilThen ?_
           refine SC.seq ?_
           refine SC.reg ?_
           refine SL.sim tk 2 [(2, vi .i64 n_3), (3, vp 3 0), (7, vp 4 0), (8, vi .i64 x_14.2), (9, vp 7 0), (58, .g (C_api_Channel c_1 (.s 0) (.s 1))), (59, vi .i64 n_3)] [] [] [] (by kernel_rfl) ?_
           obtain ⟨x_15, e_x_15, hp⟩ := bind_inv hp
           refine SL.eff (e_c Try.call23 (ok_wirelessref33_Grant F c_1 n_3 _ e_x_15) [.g 0, .g 1] [.g (C_api_Channel c_1 (.s 0) (.s 1)), vi .i64 n_3] (.u [.inr (C_api_Channel x_15.1 (.s 12) (.s 13)), .inl (ci .i64 x_15.2)]) (by kernel_rfl) (.inl rfl)) rfl (by kernel_rfl) ?_
           refine SL.norm (itsN := [.rd 1 (RSl 1 R8) c_1.Out, .rd 1 R8 c_1.In, .gone, .blk 26 (C_api_Channel c_1 (.s 0) (.s 1)), .blk 26 (C_api_Channel x_14.1 (.s 10) (.s 11)), .rd 1 (RSl 1 R8) x_8.1.Out, .rd 1 R8 x_8.1.In, .blk 26 (C_api_Channel x_9.1 (.s 8) (.s 9)), .rd 1 (RSl 1 R8) x_9.1.Out, .rd 1 R8 x_9.1.In, .rd 1 (RSl 1 R8) x_14.1.Out, .rd 1 R8 x_14.1.In, .rd 1 (RSl 1 R8) x_15.1.Out, .rd 1 R8 x_15.1.In]) (by kernel_rfl) ?_
           refine SL.sim tk 5 [(2, vi .i64 n_3), (3, vp 3 0), (7, vp 4 0), (8, vi .i64 x_14.2), (9, vp 7 0), (10, vi .i64 x_15.2)] [(7, 26, (C_api_Channel x_15.1 (.s 12) (.s 13)))] [] [] (by kernel_rfl) ?_
           refine SL.nilThen ?_
           refine SC.seq ?_
           refine SC.seq ?_
           refine SC.reg ?_
           refine SL.sim tk 4 [(2, vi .i64 n_3), (3, vp 3 0), (7, vp 4 0), (9, vp 7 0), (66, vb (x_14.2 != x_15.2))] [] [] [] (by kernel_rfl) ?_
           obtain ⟨z_17, hz, hpr⟩ := bind_inv hp
           clear hp
           refine SL.cutAt 5 (fun a w => A 105 3 fx [(2, vi .i64 n_3), (3, vp 3 0), (7, vp 4 0), (9, vp 7 0), (71, vb z_17)] [.rd 1 (RSl 1 R8) c_1.Out, .rd 1 R8 c_1.In, .gone, .blk 26 (C_api_Channel c_1 (.s 0) (.s 1)), .blk 26 (C_api_Channel x_14.1 (.s 5) (.s 6)), .rd 1 (RSl 1 R8) x_14.1.Out, .rd 1 R8 x_14.1.In, .blk 26 (C_api_Channel x_15.1 (.s 8) (.s 9)), .rd 1 (RSl 1 R8) x_15.1.Out, .rd 1 R8 x_15.1.In] a w) ?_ ?_
           · have hp := hz
             rcases Bool.eq_false_or_eq_true ((x_14.2 != x_15.2)) with hg_16 | hg_16
             · replace hp := if_t hp hg_16
               refine SL.no rfl rfl hg_16 rfl ?_
               refine SL.no rfl rfl hg_16 rfl ?_
               refine SL.no rfl rfl hg_16 rfl ?_
               refine SL.no rfl rfl hg_16 rfl ?_
               refine SL.pickt rfl hg_16 rfl rfl ?_
               refine SL.nilJ fun a w h => ?_
               obtain rfl := some_inv' hp
               exact h.at (js := [.g 0, .g 1, .g 2, .g 3, .g 4, .g 10, .g 11, .g 7, .g 12, .g 13]) (by kernel_rfl)
             · replace hp := if_f hp hg_16
               refine SL.yes rfl rfl hg_16 ?_
               refine SL.sim tk 1 [(2, vi .i64 n_3), (3, vp 3 0), (7, vp 4 0), (9, vp 7 0), (66, vb (x_14.2 != x_15.2)), (67, .g (C_api_Channel x_14.1 (.s 10) (.s 11)))] [] [] [] (by kernel_rfl) ?_
               refine SL.yes rfl rfl hg_16 ?_
               refine SL.sim tk 1 [(2, vi .i64 n_3), (3, vp 3 0), (7, vp 4 0), (9, vp 7 0), (66, vb (x_14.2 != x_15.2)), (67, .g (C_api_Channel x_14.1 (.s 10) (.s 11))), (68, .g (C_api_Channel x_15.1 (.s 12) (.s 13)))] [] [] [] (by kernel_rfl) ?_
               refine SL.yes rfl rfl hg_16 ?_
               obtain ⟨x_37, e_x_37, hp⟩ := bind_inv hp
               refine SL.eff (e_c Try.call14 (ok_wirelessref33_SameChannel F x_14.1 x_15.1 _ e_x_37) [.g 10, .g 11, .g 12, .g 13] [.g (C_api_Channel x_14.1 (.s 10) (.s 11)), .g (C_api_Channel x_15.1 (.s 12) (.s 13))] (vb x_37) (by kernel_rfl) (.inl rfl)) rfl (by kernel_rfl) ?_
               refine SL.yes rfl rfl hg_16 ?_
               refine SL.sim tk 1 [(2, vi .i64 n_3), (3, vp 3 0), (7, vp 4 0), (9, vp 7 0), (66, vb (x_14.2 != x_15.2)), (70, vb (!x_37))] [] [] [] (by kernel_rfl) ?_
               refine SL.pickf rfl hg_16 rfl rfl ?_
               refine SL.nilJ fun a w h => ?_
               obtain rfl := some_inv' hp
               exact h.at (js := [.g 0, .g 1, .g 2, .g 3, .g 4, .g 10, .g 11, .g 7, .g 12, .g 13]) (by kernel_rfl)
           · intro a w h
             have hp := hpr; clear hpr hz
             refine h.goL ?_
             refine SL.sim tk 1 [(2, vi .i64 n_3), (3, vp 3 0), (7, vp 4 0), (9, vp 7 0), (72, vb z_17)] [] [] [] (by kernel_rfl) ?_
             obtain ⟨z_19, hz, hpr⟩ := bind_inv hp
             clear hp
             refine SL.cutAt 4 (fun a w => A 105 3 fx [(2, vi .i64 n_3), (3, vp 3 0), (7, vp 4 0), (9, vp 7 0), (76, vb z_19)] [.rd 1 (RSl 1 R8) c_1.Out, .rd 1 R8 c_1.In, .gone, .blk 26 (C_api_Channel c_1 (.s 0) (.s 1)), .blk 26 (C_api_Channel x_14.1 (.s 5) (.s 6)), .rd 1 (RSl 1 R8) x_14.1.Out, .rd 1 R8 x_14.1.In, .blk 26 (C_api_Channel x_15.1 (.s 8) (.s 9)), .rd 1 (RSl 1 R8) x_15.1.Out, .rd 1 R8 x_15.1.In] a w) ?_ ?_
             · have hp := hz
               rcases Bool.eq_false_or_eq_true (z_17) with hg_18 | hg_18
               · replace hp := if_t hp hg_18
                 refine SL.no rfl rfl hg_18 rfl ?_
                 refine SL.no rfl rfl hg_18 rfl ?_
                 refine SL.no rfl rfl hg_18 rfl ?_
                 refine SL.pickt rfl hg_18 rfl rfl ?_
                 refine SL.nilJ fun a w h => ?_
                 obtain rfl := some_inv' hp
                 exact h.at (js := [.g 0, .g 1, .g 2, .g 3, .g 4, .g 5, .g 6, .g 7, .g 8, .g 9]) (by kernel_rfl)
               · replace hp := if_f hp hg_18
                 refine SL.yes rfl rfl hg_18 ?_
                 refine SL.sim tk 1 [(2, vi .i64 n_3), (3, vp 3 0), (7, vp 4 0), (9, vp 7 0), (72, vb z_17), (73, .g (C_api_Channel x_14.1 (.s 5) (.s 6)))] [] [] [] (by kernel_rfl) ?_
                 refine SL.yes rfl rfl hg_18 ?_
                 obtain ⟨x_35, e_x_35, hp⟩ := bind_inv hp
                 refine SL.eff (e_c Try.call10 (ok_wirelessref33_Check F x_14.1 _ e_x_35) [.g 5, .g 6] [.g (C_api_Channel x_14.1 (.s 5) (.s 6))] (vi .i64 x_35) (by kernel_rfl) (.inl rfl)) rfl (by kernel_rfl) ?_
                 refine SL.yes rfl rfl hg_18 ?_
                 refine SL.sim tk 1 [(2, vi .i64 n_3), (3, vp 3 0), (7, vp 4 0), (9, vp 7 0), (72, vb z_17), (75, vb (x_35 != 0))] [] [] [] (by kernel_rfl) ?_
                 refine SL.pickf rfl hg_18 rfl rfl ?_
                 refine SL.nilJ fun a w h => ?_
                 obtain rfl := some_inv' hp
                 exact h.at (js := [.g 0, .g 1, .g 2, .g 3, .g 4, .g 5, .g 6, .g 7, .g 8, .g 9]) (by kernel_rfl)
             · intro a w h
               have hp := hpr; clear hpr hz
               refine h.goL ?_
               refine SL.nilThen ?_
               refine SC.if' rfl hp (fun hp => ?_) (fun hp => ?_)
               · refine SC.r tk [(6, vb false)] [] [] [] (by kernel_rfl) ?_
                 obtain rfl := some_inv' hp
                 exact SC.re (js := [.g 0, .g 1, .g 2]) tk (by kernel_rfl)
               · refine SC.skipThen ?_
                 refine SC.seq ?_
                 refine SC.reg ?_
                 refine SL.sim tk 2 [(2, vi .i64 n_3), (3, vp 3 0), (7, vp 4 0), (9, vp 7 0), (78, .g (C_api_Channel c_1 (.s 0) (.s 1))), (79, vi .i64 n_3)] [] [] [] (by kernel_rfl) ?_
                 obtain ⟨x_20, e_x_20, hp⟩ := bind_inv hp
                 refine SL.eff (e_c Try.call24 (ok_sdu_Credit F c_1 n_3 _ e_x_20) [.g 0, .g 1] [.g (C_api_Channel c_1 (.s 0) (.s 1)), vi .i64 n_3] (.u [.inr (C_api_Channel x_20.1 (.s 10) (.s 11)), .inl (ci .i64 x_20.2)]) (by kernel_rfl) (.inl rfl)) rfl (by kernel_rfl) ?_
                 refine SL.sim tk 5 [(2, vi .i64 n_3), (3, vp 3 0), (7, vp 4 0), (8, vi .i64 x_20.2), (9, vp 7 0)] [(4, 26, (C_api_Channel x_20.1 (.s 10) (.s 11)))] [] [] (by kernel_rfl) ?_
                 refine SL.nilThen ?_
                 refine SC.seq ?_
                 refine SC.reg ?_
                 refine SL.sim tk 2 [(7, vp 4 0), (8, vi .i64 x_20.2), (9, vp 7 0), (84, .g (C_api_Channel c_1 (.s 0) (.s 1))), (85, vi .i64 n_3)] [] [] [] (by kernel_rfl) ?_
                 obtain ⟨x_21, e_x_21, hp⟩ := bind_inv hp
                 refine SL.eff (e_c Try.call25 (ok_wirelessref33_Credit F c_1 n_3 _ e_x_21) [.g 0, .g 1] [.g (C_api_Channel c_1 (.s 0) (.s 1)), vi .i64 n_3] (.u [.inr (C_api_Channel x_21.1 (.s 12) (.s 13)), .inl (ci .i64 x_21.2)]) (by kernel_rfl) (.inl rfl)) rfl (by kernel_rfl) ?_
                 refine SL.norm (itsN := [.rd 1 (RSl 1 R8) c_1.Out, .rd 1 R8 c_1.In, .gone, .blk 26 (C_api_Channel c_1 (.s 0) (.s 1)), .blk 26 (C_api_Channel x_20.1 (.s 10) (.s 11)), .rd 1 (RSl 1 R8) x_14.1.Out, .rd 1 R8 x_14.1.In, .blk 26 (C_api_Channel x_15.1 (.s 8) (.s 9)), .rd 1 (RSl 1 R8) x_15.1.Out, .rd 1 R8 x_15.1.In, .rd 1 (RSl 1 R8) x_20.1.Out, .rd 1 R8 x_20.1.In, .rd 1 (RSl 1 R8) x_21.1.Out, .rd 1 R8 x_21.1.In]) (by kernel_rfl) ?_
                 refine SL.sim tk 5 [(7, vp 4 0), (8, vi .i64 x_20.2), (9, vp 7 0), (10, vi .i64 x_21.2)] [(7, 26, (C_api_Channel x_21.1 (.s 12) (.s 13)))] [] [] (by kernel_rfl) ?_
                 refine SL.nilThen ?_
                 refine SC.seq ?_
                 refine SC.reg ?_
                 refine SL.sim tk 4 [(7, vp 4 0), (9, vp 7 0), (92, vb (x_20.2 == x_21.2))] [] [] [] (by kernel_rfl) ?_
                 obtain ⟨z_23, hz, hpr⟩ := bind_inv hp
                 clear hp
                 refine SL.cutAt 4 (fun a w => A 105 3 fx [(7, vp 3 0), (96, vb z_23)] [.gone, .gone, .gone, .blk 26 (C_api_Channel x_20.1 (.s 4) (.s 5)), .rd 1 (RSl 1 R8) x_20.1.Out, .rd 1 R8 x_20.1.In] a w) ?_ ?_
                 · have hp := hz
                   rcases Bool.eq_false_or_eq_true ((x_20.2 == x_21.2)) with hg_22 | hg_22
                   · replace hp := if_t hp hg_22
                     refine SL.yes rfl rfl hg_22 ?_
                     refine SL.sim tk 1 [(7, vp 4 0), (9, vp 7 0), (92, vb (x_20.2 == x_21.2)), (93, .g (C_api_Channel x_20.1 (.s 10) (.s 11)))] [] [] [] (by kernel_rfl) ?_
                     refine SL.yes rfl rfl hg_22 ?_
                     refine SL.sim tk 1 [(7, vp 4 0), (92, vb (x_20.2 == x_21.2)), (93, .g (C_api_Channel x_20.1 (.s 10) (.s 11))), (94, .g (C_api_Channel x_21.1 (.s 12) (.s 13)))] [] [] [] (by kernel_rfl) ?_
                     refine SL.yes rfl rfl hg_22 ?_
                     obtain ⟨x_33, e_x_33, hp⟩ := bind_inv hp
                     refine SL.eff (e_c Try.call14 (ok_wirelessref33_SameChannel F x_20.1 x_21.1 _ e_x_33) [.g 10, .g 11, .g 12, .g 13] [.g (C_api_Channel x_20.1 (.s 10) (.s 11)), .g (C_api_Channel x_21.1 (.s 12) (.s 13))] (vb x_33) (by kernel_rfl) (.inl rfl)) rfl (by kernel_rfl) ?_
                     refine SL.pickt rfl hg_22 rfl rfl ?_
                     refine SL.nilJ fun a w h => ?_
                     obtain rfl := some_inv' hp
                     exact h.at (js := [.g 0, .g 1, .g 2, .g 4, .g 10, .g 11]) (by kernel_rfl)
                   · replace hp := if_f hp hg_22
                     refine SL.no rfl rfl hg_22 rfl ?_
                     refine SL.no rfl rfl hg_22 rfl ?_
                     refine SL.no rfl rfl hg_22 rfl ?_
                     refine SL.pickf rfl hg_22 rfl rfl ?_
                     refine SL.nilJ fun a w h => ?_
                     obtain rfl := some_inv' hp
                     exact h.at (js := [.g 0, .g 1, .g 2, .g 4, .g 10, .g 11]) (by kernel_rfl)
                 · intro a w h
                   have hp := hpr; clear hpr hz
                   refine h.goL ?_
                   refine SL.sim tk 1 [(7, vp 3 0), (97, vb z_23)] [] [] [] (by kernel_rfl) ?_
                   obtain ⟨z_25, hz, hpr⟩ := bind_inv hp
                   clear hp
                   refine SL.cutAt 4 (fun a w => A 105 3 fx [(101, vb z_25)] [.gone, .gone, .gone] a w) ?_ ?_
                   · have hp := hz
                     rcases Bool.eq_false_or_eq_true (z_23) with hg_24 | hg_24
                     · replace hp := if_t hp hg_24
                       refine SL.yes rfl rfl hg_24 ?_
                       refine SL.sim tk 1 [(97, vb z_23), (98, .g (C_api_Channel x_20.1 (.s 4) (.s 5)))] [] [] [] (by kernel_rfl) ?_
                       refine SL.yes rfl rfl hg_24 ?_
                       obtain ⟨x_31, e_x_31, hp⟩ := bind_inv hp
                       refine SL.eff (e_c Try.call10 (ok_wirelessref33_Check F x_20.1 _ e_x_31) [.g 4, .g 5] [.g (C_api_Channel x_20.1 (.s 4) (.s 5))] (vi .i64 x_31) (by kernel_rfl) (.inl rfl)) rfl (by kernel_rfl) ?_
                       refine SL.yes rfl rfl hg_24 ?_
                       refine SL.sim tk 1 [(97, vb z_23), (100, vb (x_31 == 0))] [] [] [] (by kernel_rfl) ?_
                       refine SL.pickt rfl hg_24 rfl rfl ?_
                       refine SL.nilJ fun a w h => ?_
                       obtain rfl := some_inv' hp
                       exact h.at (js := [.g 0, .g 1, .g 2]) (by kernel_rfl)
                     · replace hp := if_f hp hg_24
                       refine SL.no rfl rfl hg_24 rfl ?_
                       refine SL.no rfl rfl hg_24 rfl ?_
                       refine SL.no rfl rfl hg_24 rfl ?_
                       refine SL.pickf rfl hg_24 rfl rfl ?_
                       refine SL.nilJ fun a w h => ?_
                       obtain rfl := some_inv' hp
                       exact h.at (js := [.g 0, .g 1, .g 2]) (by kernel_rfl)
                   · intro a w h
                     have hp := hpr; clear hpr hz
                     refine h.goL ?_
                     refine SL.sim tk 1 [(102, vb z_25)] [] [] [] (by kernel_rfl) ?_
                     obtain ⟨z_27, hz, hpr⟩ := bind_inv hp
                     clear hp
                     refine SL.cutAt 2 (fun a w => A 105 3 fx [(104, vb z_27)] [.gone, .gone, .gone] a w) ?_ ?_
                     · have hp := hz
                       rcases Bool.eq_false_or_eq_true (z_25) with hg_26 | hg_26
                       · replace hp := if_t hp hg_26
                         refine SL.yes rfl rfl hg_26 ?_
                         obtain ⟨x_29, e_x_29, hp⟩ := bind_inv hp
                         refine SL.eff (e_c Try.call11 (ok_wirelesslaw33_exampleHolds F  _ e_x_29) [] [] (vb x_29) (by kernel_rfl) (.inl rfl)) rfl (by kernel_rfl) ?_
                         refine SL.pickt rfl hg_26 rfl rfl ?_
                         refine SL.nilJ fun a w h => ?_
                         obtain rfl := some_inv' hp
                         exact h.at (js := [.g 0, .g 1, .g 2]) (by kernel_rfl)
                       · replace hp := if_f hp hg_26
                         refine SL.no rfl rfl hg_26 rfl ?_
                         refine SL.pickf rfl hg_26 rfl rfl ?_
                         refine SL.nilJ fun a w h => ?_
                         obtain rfl := some_inv' hp
                         exact h.at (js := [.g 0, .g 1, .g 2]) (by kernel_rfl)
                     · intro a w h
                       have hp := hpr; clear hpr hz
                       refine h.goL ?_
                       refine SL.sim tk 1 [(6, vb z_27)] [] [] [] (by kernel_rfl) ?_
                       refine SL.nilThen ?_
                       obtain rfl := some_inv' hp
                       exact SC.re (js := [.g 0, .g 1, .g 2]) tk (by kernel_rfl)

theorem ok_sdu_in (F : Nat) (n_1 : Int) (low_2 : Int) (high_3 : Int) (r : Bool) (hp : sdu_in F n_1 low_2 high_3 = some r) : Spec Try.prog 41 [vi .i64 n_1, vi .i64 low_2, vi .i64 high_3] [] (vb r) [] := by
 refine Spec.enter Try.func41 rfl Try.ntmps41 rfl rfl fun fx => ?_
 refine SC.r tk [(0, vi .i64 n_1), (1, vi .i64 low_2), (2, vi .i64 high_3)] [] [] [] (by kernel_rfl) ?_
 refine SC.r tk [(6, vb ((decide (n_1 ≥ low_2)) && (decide (n_1 ≤ high_3))))] [] [] [] (by kernel_rfl) ?_
 obtain rfl := some_inv' hp
 exact SC.re (js := []) tk (by kernel_rfl)

theorem ok_sdu_positions (F : Nat) (c_1 : T_api_Channel) (r : Int) (hp : sdu_positions F c_1 = some r) : Spec Try.prog 42 [.g (C_api_Channel c_1 (.s 0) (.s 1))] [.rd 1 (RSl 1 R8) c_1.Out, .rd 1 R8 c_1.In] (vi .i64 r) [.gone, .gone] := by
 refine Spec.enter Try.func42 rfl Try.ntmps42 rfl rfl fun fx => ?_
 refine SC.seq ?_
 refine SC.reg ?_
 refine SL.eff (e_box (E := 26) (C_api_Channel c_1 (.s 0) (.s 1)) (by kernel_rfl)) rfl (by kernel_rfl) ?_
 refine SL.sim tk 1 [(1, vp 2 0)] [] [] [] (by kernel_rfl) ?_
 refine SL.nilThen ?_
 refine SC.r tk [(1, vp 2 0), (3, vi .i64 0)] [] [] [] (by kernel_rfl) ?_
 refine SC.cut (fun a w => ∃ (x_2 : Int), sdu_positions_j1 F c_1 x_2 = some r ∧ A 51 2 fx [(1, vp 2 0), (3, vi .i64 x_2)] [.rd 1 (RSl 1 R8) c_1.Out, .rd 1 R8 c_1.In, .blk 26 (C_api_Channel c_1 (.s 0) (.s 1))] a w) ?_ ?_
 · refine SC.r tk [(1, vp 2 0), (3, vi .i64 0), (7, vb (decide ((len c_1.Out) > 0)))] [] [] [] (by kernel_rfl) ?_
   refine SC.if' rfl hp (fun hp => ?_) (fun hp => ?_)
   · refine SC.reg ?_
     obtain ⟨x_8, e_x_8, hp⟩ := bind_inv hp
     refine SL.pre (pre_ix (i := 0) (iv := 0) (sz := 1) (R := (RSl 1 R8)) (l := c_1.Out) (by kernel_rfl) rfl e_x_8) ?_
     refine SL.sim tk 7 [(1, vp 2 0), (3, vi .i64 (w64 (1 + (len x_8))))] [] [.el 3] [0] (by kernel_rfl) ?_
     refine SL.nilJ fun a w h => ?_
     exact ⟨w64 (1 + (len x_8)), hp, h.at (js := [.g 0, .g 1, .g 2]) (by kernel_rfl)⟩
   · refine SC.skipJ fun a w h => ?_
     exact ⟨0, hp, h.at (js := [.g 0, .g 1, .g 2]) (by kernel_rfl)⟩
 · rintro a w ⟨x_2, hp, h⟩
   refine h.go ?_
   refine SC.seq ?_
   refine SC.seq ?_
   refine SC.reg ?_
   refine SL.sim tk 3 [(1, vp 2 0), (15, vi .i64 c_1.Sent), (16, vi .i64 x_2)] [] [] [] (by kernel_rfl) ?_
   obtain ⟨x_3, e_x_3, hp⟩ := bind_inv hp
   refine SL.eff (e_c Try.call41 (ok_sdu_in F c_1.Sent 0 x_2 _ e_x_3) [] [vi .i64 c_1.Sent, vi .i64 0, vi .i64 x_2] (vb x_3) (by kernel_rfl) (.inl rfl)) rfl (by kernel_rfl) ?_
   refine SL.sim tk 2 [(1, vp 2 0), (19, vb (!x_3))] [] [] [] (by kernel_rfl) ?_
   obtain ⟨z_5, hz, hpr⟩ := bind_inv hp
   clear hp
   refine SL.cutAt 7 (fun a w => A 51 2 fx [(1, vp 2 0), (26, vb z_5)] [.rd 1 (RSl 1 R8) c_1.Out, .rd 1 R8 c_1.In, .blk 26 (C_api_Channel c_1 (.s 0) (.s 1))] a w) ?_ ?_
   · have hp := hz
     rcases Bool.eq_false_or_eq_true ((!x_3)) with hg_4 | hg_4
     · replace hp := if_t hp hg_4
       refine SL.no rfl rfl hg_4 rfl ?_
       refine SL.no rfl rfl hg_4 rfl ?_
       refine SL.no rfl rfl hg_4 rfl ?_
       refine SL.no rfl rfl hg_4 rfl ?_
       refine SL.no rfl rfl hg_4 rfl ?_
       refine SL.no rfl rfl hg_4 rfl ?_
       refine SL.pickt rfl hg_4 rfl rfl ?_
       refine SL.nilJ fun a w h => ?_
       obtain rfl := some_inv' hp
       exact h.at (js := [.g 0, .g 1, .g 2]) (by kernel_rfl)
     · replace hp := if_f hp hg_4
       refine SL.yes rfl rfl hg_4 ?_
       refine SL.sim tk 1 [(1, vp 2 0), (19, vb (!x_3)), (20, vp 2 13)] [] [] [] (by kernel_rfl) ?_
       refine SL.yes rfl rfl hg_4 ?_
       refine SL.sim tk 1 [(1, vp 2 0), (19, vb (!x_3)), (21, vi .i64 c_1.Want)] [] [] [] (by kernel_rfl) ?_
       refine SL.yes rfl rfl hg_4 ?_
       refine SL.sim tk 1 [(1, vp 2 0), (19, vb (!x_3)), (21, vi .i64 c_1.Want), (22, vp 2 3)] [] [] [] (by kernel_rfl) ?_
       refine SL.yes rfl rfl hg_4 ?_
       refine SL.sim tk 1 [(1, vp 2 0), (19, vb (!x_3)), (21, vi .i64 c_1.Want), (23, vi .i64 c_1.MTU)] [] [] [] (by kernel_rfl) ?_
       refine SL.yes rfl rfl hg_4 ?_
       obtain ⟨x_7, e_x_7, hp⟩ := bind_inv hp
       refine SL.eff (e_c Try.call41 (ok_sdu_in F c_1.Want (-1) c_1.MTU _ e_x_7) [] [vi .i64 c_1.Want, vi .i64 (-1), vi .i64 c_1.MTU] (vb x_7) (by kernel_rfl) (.inl rfl)) rfl (by kernel_rfl) ?_
       refine SL.norm (itsN := [.rd 1 (RSl 1 R8) c_1.Out, .rd 1 R8 c_1.In, .blk 26 (C_api_Channel c_1 (.s 0) (.s 1))]) (by kernel_rfl) ?_
       refine SL.yes rfl rfl hg_4 ?_
       refine SL.sim tk 1 [(1, vp 2 0), (19, vb (!x_3)), (25, vb (!x_7))] [] [] [] (by kernel_rfl) ?_
       refine SL.pickf rfl hg_4 rfl rfl ?_
       refine SL.nilJ fun a w h => ?_
       obtain rfl := some_inv' hp
       exact h.at (js := [.g 0, .g 1, .g 2]) (by kernel_rfl)
   · intro a w h
     have hp := hpr; clear hpr hz
     refine h.goL ?_
     refine SL.sim tk 24 [(50, vb ((z_5 || ((c_1.Want == (-1)) && (decide ((len c_1.In) > 0)))) || ((c_1.Want != (-1)) && (decide ((len c_1.In) ≥ c_1.Want)))))] [] [] [] (by kernel_rfl) ?_
     refine SL.nilThen ?_
     refine SC.if' rfl hp (fun hp => ?_) (fun hp => ?_)
     · refine SC.r tk [(2, vi .i64 1)] [] [] [] (by kernel_rfl) ?_
       obtain rfl := some_inv' hp
       exact SC.re (js := [.g 0, .g 1]) tk (by kernel_rfl)
     · refine SC.skipThen ?_
       refine SC.r tk [(2, vi .i64 0)] [] [] [] (by kernel_rfl) ?_
       obtain rfl := some_inv' hp
       exact SC.re (js := [.g 0, .g 1]) tk (by kernel_rfl)

theorem ok_sdu_Check (F : Nat) (c_1 : T_api_Channel) (r : Int) (hp : sdu_Check F c_1 = some r) : Spec Try.prog 28 [.g (C_api_Channel c_1 (.s 0) (.s 1))] [.rd 1 (RSl 1 R8) c_1.Out, .rd 1 R8 c_1.In] (vi .i64 r) [.gone, .gone] := by
 refine Spec.enter Try.func28 rfl Try.ntmps28 rfl rfl fun fx => ?_
 refine SC.seq ?_
 refine SC.reg ?_
 refine SL.eff (e_box (E := 26) (C_api_Channel c_1 (.s 0) (.s 1)) (by kernel_rfl)) rfl (by kernel_rfl) ?_
 refine SL.sim tk 1 [(1, vp 2 0)] [] [] [] (by kernel_rfl) ?_
 refine SL.nilThen ?_
 refine SC.seq ?_
 refine SC.block ?_
 refine SC.r tk [(1, vp 2 0), (7, vb ((((decide (c_1.Local < 64)) || (decide (c_1.Local > 127))) || (decide (c_1.Remote < 64))) || (decide (c_1.Remote > 127))))] [] [] [] (by kernel_rfl) ?_
 refine SC.if' rfl hp (fun hp => ?_) (fun hp => ?_)
 · refine SC.r tk [(2, vi .i64 5)] [] [] [] (by kernel_rfl) ?_
   obtain rfl := some_inv' hp
   exact SC.re (js := [.g 0, .g 1]) tk (by kernel_rfl)
 · refine SC.r tk [(1, vp 2 0), (26, vb (c_1.PSM == 0))] [] [] [] (by kernel_rfl) ?_
   refine SC.if' rfl hp (fun hp => ?_) (fun hp => ?_)
   · refine SC.r tk [(2, vi .i64 1)] [] [] [] (by kernel_rfl) ?_
     obtain rfl := some_inv' hp
     exact SC.re (js := [.g 0, .g 1]) tk (by kernel_rfl)
   · refine SC.skipThen ?_
     refine SC.cut (fun a w => sdu_Check_j1 F c_1 = some r ∧ A 81 2 fx [(1, vp 2 0)] [.rd 1 (RSl 1 R8) c_1.Out, .rd 1 R8 c_1.In, .blk 26 (C_api_Channel c_1 (.s 0) (.s 1))] a w) ?_ ?_
     · refine SC.r tk [(1, vp 2 0), (38, .g [ci .i64 c_1.MTU, ci .i64 c_1.MPS, ci .i64 c_1.PeerMTU, ci .i64 c_1.PeerMPS]), (39, vi .i64 0)] [] [] [] (by kernel_rfl) ?_
       refine SC.block ?_
       obtain ⟨o2, hi2, ho2⟩ := bind_inv hp
       clear hp
       refine SC.loop (fun n a w => ∃ (x_14 : Int), iter (fun s => sdu_Check_l2 F c_1 s) n (x_14) = some o2 ∧ A 81 2 fx [(1, vp 2 0), (38, .g [ci .i64 c_1.MTU, ci .i64 c_1.MPS, ci .i64 c_1.PeerMTU, ci .i64 c_1.PeerMPS]), (39, vi .i64 x_14)] [.rd 1 (RSl 1 R8) c_1.Out, .rd 1 R8 c_1.In, .blk 26 (C_api_Channel c_1 (.s 0) (.s 1))] a w) F (fun a w h => ⟨0, hi2, h.at (js := [.g 0, .g 1, .g 2]) (by kernel_rfl)⟩) ?_
       rintro n2 a w ⟨x_14, hi2, h⟩
       obtain ⟨n2, q2, rfl, hp, hs2⟩ := iter_inv hi2
       replace hp : sdu_Check_l2 F c_1 x_14 = some q2 := hp
       clear hi2
       refine h.go ?_
       refine SC.r tk [(1, vp 2 0), (38, .g [ci .i64 c_1.MTU, ci .i64 c_1.MPS, ci .i64 c_1.PeerMTU, ci .i64 c_1.PeerMPS]), (39, vi .i64 x_14), (40, vb (decide (x_14 < 4)))] [] [] [] (by kernel_rfl) ?_
       refine SC.seq ?_
       refine SC.if' rfl hp (fun hp => ?_) (fun hp => ?_)
       · refine SC.skipThen ?_
         refine SC.seq ?_
         refine SC.block ?_
         obtain ⟨x_15, e_x_15, hp⟩ := bind_inv hp
         refine SC.r tk [(1, vp 2 0), (4, vi .i64 x_15), (38, .g [ci .i64 c_1.MTU, ci .i64 c_1.MPS, ci .i64 c_1.PeerMTU, ci .i64 c_1.PeerMPS]), (39, vi .i64 x_14)] [] [.ix [c_1.MTU, c_1.MPS, c_1.PeerMTU, c_1.PeerMPS] x_14 x_15 e_x_15] [x_14, c_1.MTU, c_1.MPS, c_1.PeerMTU, c_1.PeerMPS] (by kernel_rfl) ?_
         refine SC.seq ?_
         refine SC.reg ?_
         refine SL.sim tk 1 [(1, vp 2 0), (38, .g [ci .i64 c_1.MTU, ci .i64 c_1.MPS, ci .i64 c_1.PeerMTU, ci .i64 c_1.PeerMPS]), (39, vi .i64 x_14), (42, vi .i64 x_15)] [] [] [] (by kernel_rfl) ?_
         obtain ⟨x_16, e_x_16, hp⟩ := bind_inv hp
         refine SL.eff (e_c Try.call41 (ok_sdu_in F x_15 23 4096 _ e_x_16) [] [vi .i64 x_15, vi .i64 23, vi .i64 4096] (vb x_16) (by kernel_rfl) (.inl rfl)) rfl (by kernel_rfl) ?_
         refine SL.sim tk 1 [(1, vp 2 0), (38, .g [ci .i64 c_1.MTU, ci .i64 c_1.MPS, ci .i64 c_1.PeerMTU, ci .i64 c_1.PeerMPS]), (39, vi .i64 x_14), (44, vb (!x_16))] [] [] [] (by kernel_rfl) ?_
         refine SL.nilThen ?_
         refine SC.if' rfl hp (fun hp => ?_) (fun hp => ?_)
         · refine SC.r tk [(2, vi .i64 5)] [] [] [] (by kernel_rfl) ?_
           have ho := done_inv hp hs2
           replace hp := ho2
           try rw [ho] at hp
           obtain rfl := some_inv' hp
           exact SC.re (js := [.g 0, .g 1]) tk (by kernel_rfl)
         · refine SC.skipThen ?_
           refine SC.reg ?_
           refine SL.sim tk 2 [(1, vp 2 0), (38, .g [ci .i64 c_1.MTU, ci .i64 c_1.MPS, ci .i64 c_1.PeerMTU, ci .i64 c_1.PeerMPS]), (39, vi .i64 (w64 (x_14 + 1)))] [] [] [] (by kernel_rfl) ?_
           refine SL.nilJ fun a w h => ?_
           exact ⟨n2, Nat.lt_succ_self _, w64 (x_14 + 1), next_inv hp hs2, h.at (js := [.g 0, .g 1, .g 2]) (by kernel_rfl)⟩
       · refine SC.exitJ rfl fun a w h => ?_
         have ho := done_inv hp hs2
         replace hp := ho2
         try rw [ho] at hp
         exact ⟨hp, h.at (js := [.g 0, .g 1, .g 2]) (by kernel_rfl)⟩
     · rintro a w ⟨hp, h⟩
       refine h.go ?_
       refine SC.seq ?_
       refine SC.seq ?_
       refine SC.reg ?_
       refine SL.sim tk 2 [(1, vp 2 0), (47, vi .i64 c_1.TxCredits)] [] [] [] (by kernel_rfl) ?_
       obtain ⟨x_2, e_x_2, hp⟩ := bind_inv hp
       refine SL.eff (e_c Try.call41 (ok_sdu_in F c_1.TxCredits 0 65535 _ e_x_2) [] [vi .i64 c_1.TxCredits, vi .i64 0, vi .i64 65535] (vb x_2) (by kernel_rfl) (.inl rfl)) rfl (by kernel_rfl) ?_
       refine SL.sim tk 2 [(1, vp 2 0), (50, vb (!x_2))] [] [] [] (by kernel_rfl) ?_
       obtain ⟨z_4, hz, hpr⟩ := bind_inv hp
       clear hp
       refine SL.cutAt 5 (fun a w => A 81 2 fx [(1, vp 2 0), (55, vb z_4)] [.rd 1 (RSl 1 R8) c_1.Out, .rd 1 R8 c_1.In, .blk 26 (C_api_Channel c_1 (.s 0) (.s 1))] a w) ?_ ?_
       · have hp := hz
         rcases Bool.eq_false_or_eq_true ((!x_2)) with hg_3 | hg_3
         · replace hp := if_t hp hg_3
           refine SL.no rfl rfl hg_3 rfl ?_
           refine SL.no rfl rfl hg_3 rfl ?_
           refine SL.no rfl rfl hg_3 rfl ?_
           refine SL.no rfl rfl hg_3 rfl ?_
           refine SL.pickt rfl hg_3 rfl rfl ?_
           refine SL.nilJ fun a w h => ?_
           obtain rfl := some_inv' hp
           exact h.at (js := [.g 0, .g 1, .g 2]) (by kernel_rfl)
         · replace hp := if_f hp hg_3
           refine SL.yes rfl rfl hg_3 ?_
           refine SL.sim tk 1 [(1, vp 2 0), (50, vb (!x_2)), (51, vp 2 8)] [] [] [] (by kernel_rfl) ?_
           refine SL.yes rfl rfl hg_3 ?_
           refine SL.sim tk 1 [(1, vp 2 0), (50, vb (!x_2)), (52, vi .i64 c_1.RxCredits)] [] [] [] (by kernel_rfl) ?_
           refine SL.yes rfl rfl hg_3 ?_
           obtain ⟨x_13, e_x_13, hp⟩ := bind_inv hp
           refine SL.eff (e_c Try.call41 (ok_sdu_in F c_1.RxCredits 0 65535 _ e_x_13) [] [vi .i64 c_1.RxCredits, vi .i64 0, vi .i64 65535] (vb x_13) (by kernel_rfl) (.inl rfl)) rfl (by kernel_rfl) ?_
           refine SL.norm (itsN := [.rd 1 (RSl 1 R8) c_1.Out, .rd 1 R8 c_1.In, .blk 26 (C_api_Channel c_1 (.s 0) (.s 1))]) (by kernel_rfl) ?_
           refine SL.yes rfl rfl hg_3 ?_
           refine SL.sim tk 1 [(1, vp 2 0), (50, vb (!x_2)), (54, vb (!x_13))] [] [] [] (by kernel_rfl) ?_
           refine SL.pickf rfl hg_3 rfl rfl ?_
           refine SL.nilJ fun a w h => ?_
           obtain rfl := some_inv' hp
           exact h.at (js := [.g 0, .g 1, .g 2]) (by kernel_rfl)
       · intro a w h
         have hp := hpr; clear hpr hz
         refine h.goL ?_
         refine SL.sim tk 1 [(1, vp 2 0), (56, vb z_4)] [] [] [] (by kernel_rfl) ?_
         obtain ⟨z_6, hz, hpr⟩ := bind_inv hp
         clear hp
         refine SL.cutAt 5 (fun a w => A 81 2 fx [(1, vp 2 0), (61, vb z_6)] [.rd 1 (RSl 1 R8) c_1.Out, .rd 1 R8 c_1.In, .blk 26 (C_api_Channel c_1 (.s 0) (.s 1))] a w) ?_ ?_
         · have hp := hz
           rcases Bool.eq_false_or_eq_true (z_4) with hg_5 | hg_5
           · replace hp := if_t hp hg_5
             refine SL.no rfl rfl hg_5 rfl ?_
             refine SL.no rfl rfl hg_5 rfl ?_
             refine SL.no rfl rfl hg_5 rfl ?_
             refine SL.no rfl rfl hg_5 rfl ?_
             refine SL.pickt rfl hg_5 rfl rfl ?_
             refine SL.nilJ fun a w h => ?_
             obtain rfl := some_inv' hp
             exact h.at (js := [.g 0, .g 1, .g 2]) (by kernel_rfl)
           · replace hp := if_f hp hg_5
             refine SL.yes rfl rfl hg_5 ?_
             refine SL.sim tk 1 [(1, vp 2 0), (56, vb z_4), (57, vp 2 9)] [] [] [] (by kernel_rfl) ?_
             refine SL.yes rfl rfl hg_5 ?_
             refine SL.sim tk 1 [(1, vp 2 0), (56, vb z_4), (58, vi .i64 c_1.Given)] [] [] [] (by kernel_rfl) ?_
             refine SL.yes rfl rfl hg_5 ?_
             obtain ⟨x_11, e_x_11, hp⟩ := bind_inv hp
             refine SL.eff (e_c Try.call41 (ok_sdu_in F c_1.Given 0 65535 _ e_x_11) [] [vi .i64 c_1.Given, vi .i64 0, vi .i64 65535] (vb x_11) (by kernel_rfl) (.inl rfl)) rfl (by kernel_rfl) ?_
             refine SL.yes rfl rfl hg_5 ?_
             refine SL.sim tk 1 [(1, vp 2 0), (56, vb z_4), (60, vb (!x_11))] [] [] [] (by kernel_rfl) ?_
             refine SL.pickf rfl hg_5 rfl rfl ?_
             refine SL.nilJ fun a w h => ?_
             obtain rfl := some_inv' hp
             exact h.at (js := [.g 0, .g 1, .g 2]) (by kernel_rfl)
         · intro a w h
           have hp := hpr; clear hpr hz
           refine h.goL ?_
           refine SL.nilThen ?_
           refine SC.if' rfl hp (fun hp => ?_) (fun hp => ?_)
           · refine SC.r tk [(2, vi .i64 5)] [] [] [] (by kernel_rfl) ?_
             obtain rfl := some_inv' hp
             exact SC.re (js := [.g 0, .g 1]) tk (by kernel_rfl)
           · refine SC.skipThen ?_
             refine SC.seq ?_
             refine SC.r tk [(1, vp 2 0), (65, vb (decide ((len c_1.Out) > 64)))] [] [] [] (by kernel_rfl) ?_
             refine SC.if' rfl hp (fun hp => ?_) (fun hp => ?_)
             · refine SC.r tk [(2, vi .i64 4)] [] [] [] (by kernel_rfl) ?_
               obtain rfl := some_inv' hp
               exact SC.re (js := [.g 0, .g 1]) tk (by kernel_rfl)
             · refine SC.skipThen ?_
               refine SC.cut (fun a w => sdu_Check_j2 F c_1 = some r ∧ A 81 2 fx [(1, vp 2 0)] [.rd 1 (RSl 1 R8) c_1.Out, .rd 1 R8 c_1.In, .blk 26 (C_api_Channel c_1 (.s 0) (.s 1))] a w) ?_ ?_
               · refine SC.r tk [(1, vp 2 0), (67, vs 0), (68, vi .i64 (len c_1.Out)), (69, vi .i64 0)] [] [] [] (by kernel_rfl) ?_
                 refine SC.block ?_
                 obtain ⟨o1, hi1, ho1⟩ := bind_inv hp
                 clear hp
                 refine SC.loop (fun n a w => ∃ (x_8 : Int), iter (fun s => sdu_Check_l1 F c_1 s) n (x_8) = some o1 ∧ A 81 2 fx [(1, vp 2 0), (67, vs 0), (68, vi .i64 (len c_1.Out)), (69, vi .i64 x_8)] [.rd 1 (RSl 1 R8) c_1.Out, .rd 1 R8 c_1.In, .blk 26 (C_api_Channel c_1 (.s 0) (.s 1))] a w) F (fun a w h => ⟨0, hi1, h.at (js := [.g 0, .g 1, .g 2]) (by kernel_rfl)⟩) ?_
                 rintro n1 a w ⟨x_8, hi1, h⟩
                 obtain ⟨n1, q1, rfl, hp, hs1⟩ := iter_inv hi1
                 replace hp : sdu_Check_l1 F c_1 x_8 = some q1 := hp
                 clear hi1
                 refine h.go ?_
                 refine SC.r tk [(1, vp 2 0), (67, vs 0), (68, vi .i64 (len c_1.Out)), (69, vi .i64 x_8), (70, vb (decide (x_8 < (len c_1.Out))))] [] [] [] (by kernel_rfl) ?_
                 refine SC.seq ?_
                 refine SC.if' rfl hp (fun hp => ?_) (fun hp => ?_)
                 · refine SC.skipThen ?_
                   refine SC.seq ?_
                   refine SC.block ?_
                   obtain ⟨x_9, e_x_9, hp⟩ := bind_inv hp
                   refine SC.pre (pre_ix (i := 0) (iv := x_8) (sz := 1) (R := (RSl 1 R8)) (l := c_1.Out) (by kernel_rfl) rfl e_x_9) ?_
                   refine SC.r tk [(1, vp 2 0), (6, vs 4), (67, vs 0), (68, vi .i64 (len c_1.Out)), (69, vi .i64 x_8)] [] [.el 3] [x_8] (by kernel_rfl) ?_
                   refine SC.r tk [(1, vp 2 0), (67, vs 0), (68, vi .i64 (len c_1.Out)), (69, vi .i64 x_8), (77, vb (decide ((len x_9) > c_1.PeerMTU)))] [] [] [] (by kernel_rfl) ?_
                   refine SC.if' rfl hp (fun hp => ?_) (fun hp => ?_)
                   · refine SC.r tk [(2, vi .i64 4)] [] [] [] (by kernel_rfl) ?_
                     have ho := done_inv hp hs1
                     replace hp := ho1
                     try rw [ho] at hp
                     obtain rfl := some_inv' hp
                     exact SC.re (js := [.g 0, .g 1]) tk (by kernel_rfl)
                   · refine SC.skipThen ?_
                     refine SC.reg ?_
                     refine SL.sim tk 2 [(1, vp 2 0), (67, vs 0), (68, vi .i64 (len c_1.Out)), (69, vi .i64 (w64 (x_8 + 1)))] [] [] [] (by kernel_rfl) ?_
                     refine SL.nilJ fun a w h => ?_
                     exact ⟨n1, Nat.lt_succ_self _, w64 (x_8 + 1), next_inv hp hs1, h.at (js := [.g 0, .g 1, .g 2]) (by kernel_rfl)⟩
                 · refine SC.exitJ rfl fun a w h => ?_
                   have ho := done_inv hp hs1
                   replace hp := ho1
                   try rw [ho] at hp
                   exact ⟨hp, h.at (js := [.g 0, .g 1, .g 2]) (by kernel_rfl)⟩
               · rintro a w ⟨hp, h⟩
                 refine h.go ?_
                 refine SC.seq ?_
                 refine SC.reg ?_
                 refine SL.sim tk 1 [(79, .g (C_api_Channel c_1 (.s 0) (.s 1)))] [] [] [] (by kernel_rfl) ?_
                 obtain ⟨x_7, e_x_7, hp⟩ := bind_inv hp
                 refine SL.eff (e_c Try.call42 (ok_sdu_positions F c_1 _ e_x_7) [.g 0, .g 1] [.g (C_api_Channel c_1 (.s 0) (.s 1))] (vi .i64 x_7) (by kernel_rfl) (.inl rfl)) rfl (by kernel_rfl) ?_
                 refine SL.sim tk 1 [(2, vi .i64 x_7)] [] [] [] (by kernel_rfl) ?_
                 refine SL.nilThen ?_
                 obtain rfl := some_inv' hp
                 exact SC.re (js := [.g 0, .g 1]) tk (by kernel_rfl)

theorem ok_wirelesslaw33_SduChecks (F : Nat) (c_1 : T_api_Channel) (r : Bool) (hp : wirelesslaw33_SduChecks F c_1 = some r) : Spec Try.prog 8 [.g (C_api_Channel c_1 (.s 0) (.s 1))] [.rd 1 (RSl 1 R8) c_1.Out, .rd 1 R8 c_1.In] (vb r) [.gone, .gone] := by
 refine Spec.enter Try.func8 rfl Try.ntmps8 rfl rfl fun fx => ?_
 refine SC.seq ?_
 refine SC.reg ?_
 refine SL.eff (e_box (E := 26) (C_api_Channel c_1 (.s 0) (.s 1)) (by kernel_rfl)) rfl (by kernel_rfl) ?_
 refine SL.sim tk 1 [(1, vp 2 0)] [] [] [] (by kernel_rfl) ?_
 refine SL.nilThen ?_
 refine SC.seq ?_
 refine SC.seq ?_
 refine SC.reg ?_
 refine SL.sim tk 1 [(1, vp 2 0), (3, .g (C_api_Channel c_1 (.s 0) (.s 1)))] [] [] [] (by kernel_rfl) ?_
 obtain ⟨x_2, e_x_2, hp⟩ := bind_inv hp
 refine SL.eff (e_c Try.call9 (ok_wirelesslaw33_light F c_1 _ e_x_2) [.g 0, .g 1] [.g (C_api_Channel c_1 (.s 0) (.s 1))] (vb x_2) (by kernel_rfl) (.inl rfl)) rfl (by kernel_rfl) ?_
 refine SL.sim tk 1 [(1, vp 2 0), (5, vb (!x_2))] [] [] [] (by kernel_rfl) ?_
 refine SL.nilThen ?_
 refine SC.if' rfl hp (fun hp => ?_) (fun hp => ?_)
 · refine SC.seq ?_
   refine SC.reg ?_
   obtain ⟨x_3, e_x_3, hp⟩ := bind_inv hp
   refine SL.eff (e_c Try.call11 (ok_wirelesslaw33_exampleHolds F  _ e_x_3) [] [] (vb x_3) (by kernel_rfl) (.inl rfl)) rfl (by kernel_rfl) ?_
   refine SL.norm (itsN := [.rd 1 (RSl 1 R8) c_1.Out, .rd 1 R8 c_1.In, .blk 26 (C_api_Channel c_1 (.s 0) (.s 1))]) (by kernel_rfl) ?_
   refine SL.sim tk 1 [(2, vb x_3)] [] [] [] (by kernel_rfl) ?_
   refine SL.nilThen ?_
   obtain rfl := some_inv' hp
   exact SC.re (js := [.g 0, .g 1]) tk (by kernel_rfl)
 · refine SC.skipThen ?_
   refine SC.cut (fun a w => ∃ (z_4 : Bool), wirelesslaw33_SduChecks_j1 F z_4 = some r ∧ A 15 2 fx [(2, vb z_4)] [.gone, .gone] a w) ?_ ?_
   · refine SC.draw MO [true, true, true] (by kernel_rfl) fun kap_5 D_6 => ?_
     refine SD.takes tk D_6 [] kn0 [0, 2] [] [] [true, false, true, false, false, false, false, false, false] [(7, .g (C_api_Channel c_1 (.s 0) (.s 1))), (9, .g (C_api_Channel c_1 (.s 0) (.s 1)))] rfl (by kernel_rfl) (by kernel_rfl) (by kernel_rfl) ?_
     obtain ⟨x_7, e_x_7, hp⟩ := bind_inv hp
     refine SD.all1 (i := 1) (by kernel_rfl) ?_
     refine SW.eff D_6 (i := 1) (bs' := [true, true, true, false, false, false, false, false, false]) rfl (.inl rfl) rfl (e_c Try.call28 (ok_sdu_Check F c_1 _ e_x_7) [.g 0, .g 1] [.g (C_api_Channel c_1 (.s 0) (.s 1))] (vi .i64 x_7) (by kernel_rfl) (.inl rfl)) (by kernel_rfl) rfl (by kernel_rfl) ?_
     refine SD.norm (itsN := [.rd 1 (RSl 1 R8) c_1.Out, .rd 1 R8 c_1.In, .blk 26 (C_api_Channel c_1 (.s 0) (.s 1))]) (by kernel_rfl) ?_
     obtain ⟨x_8, e_x_8, hp⟩ := bind_inv hp
     refine SD.all1 (i := 3) (by kernel_rfl) ?_
     refine SW.eff D_6 (i := 3) (bs' := [true, true, true, true, false, false, false, false, false]) rfl (.inl rfl) rfl (e_c Try.call10 (ok_wirelessref33_Check F c_1 _ e_x_8) [.g 0, .g 1] [.g (C_api_Channel c_1 (.s 0) (.s 1))] (vi .i64 x_8) (by kernel_rfl) (.inl rfl)) (by kernel_rfl) rfl (by kernel_rfl) ?_
     refine SD.takes tk D_6 [] kn0 [4, 5] [] [] [true, true, true, true, true, true, false, false, false] [(12, vb (x_7 == x_8))] rfl (by kernel_rfl) (by kernel_rfl) (by kernel_rfl) ?_
     rcases Bool.eq_false_or_eq_true ((x_7 == x_8)) with hg_9 | hg_9
     · replace hp := if_t hp hg_9
       obtain ⟨x_10, e_x_10, hp⟩ := bind_inv hp
       refine SD.all1 (i := 6) (by kernel_rfl) ?_
       refine SW.eff D_6 (i := 6) (bs' := [true, true, true, true, true, true, true, false, false]) rfl (.inr ⟨_, _, _, _, rfl, rfl, rfl, hg_9⟩) rfl (e_c Try.call11 (ok_wirelesslaw33_exampleHolds F  _ e_x_10) [] [] (vb x_10) (by kernel_rfl) (.inl rfl)) (by kernel_rfl) rfl (by kernel_rfl) ?_
       refine SD.norm (itsN := [.rd 1 (RSl 1 R8) c_1.Out, .rd 1 R8 c_1.In, .blk 26 (C_api_Channel c_1 (.s 0) (.s 1))]) (by kernel_rfl) ?_
       refine SD.takes tk D_6 [(12, true)] (knS rfl hg_9 kn0) [7, 8] [] [] [true, true, true, true, true, true, true, true, true] [(2, vb x_10)] rfl (by kernel_rfl) (by kernel_rfl) (by kernel_rfl) ?_
       refine SD.done (by kernel_rfl) fun a w h => ?_
       exact ⟨x_10, hp, h.at (js := [.g 0, .g 1]) (by kernel_rfl)⟩
     · replace hp := if_f hp hg_9
       refine SD.takes tk D_6 [(12, false)] (knS rfl hg_9 kn0) [6, 7, 8] [] [] [true, true, true, true, true, true, true, true, true] [(2, vb false)] rfl (by kernel_rfl) (by kernel_rfl) (by kernel_rfl) ?_
       refine SD.done (by kernel_rfl) fun a w h => ?_
       exact ⟨false, hp, h.at (js := [.g 0, .g 1]) (by kernel_rfl)⟩
   · rintro a w ⟨z_4, hp, h⟩
     refine h.go ?_
     obtain rfl := some_inv' hp
     exact SC.re (js := [.g 0, .g 1]) tk (by kernel_rfl)
end V
end Go.Proofs.Ytfdiabglpgkbeaa
