/-
  Walks, written by program: each Go function returns what its pure twin says.
-/
import Derived.Test.YtfdiabglpgkbeaaW0
namespace Go.Proofs.Ytfdiabglpgkbeaa
namespace V
theorem ok_wirelesslaw33_wire_step (F : Nat) (w_1 : T_wirelesslaw33_wire) (x_2 : T_wirelesslaw33_Step) (r : T_wirelesslaw33_wire) (hp : wirelesslaw33_wire_step F w_1 x_2 = some r) : Spec Try.prog 26 [vp 0 0, .g (C_wirelesslaw33_Step x_2 (.s 9))] [.blk 53 (C_wirelesslaw33_wire w_1 (.s 1) (.s 2) (.s 3) (.s 4) (.s 5) (.s 6) (.s 7) (.s 8)), .rd 1 (RSl 1 R8) w_1.a.Out, .rd 1 R8 w_1.a.In, .rd 1 (RSl 1 R8) w_1.b.Out, .rd 1 R8 w_1.b.In, .own 1 24 (RSl 1 R8) w_1.frames, .own 1 3 (RInt .i64) w_1.credits, .own 1 24 (RSl 1 R8) w_1.queued, .own 1 24 (RSl 1 R8) w_1.got, .rd 1 R8 x_2.SDU] (.u []) [.blk 53 (C_wirelesslaw33_wire (T_wirelesslaw33_wire.mk (T_api_Channel.mk r.a.Local r.a.Remote r.a.PSM r.a.MTU r.a.MPS r.a.PeerMTU r.a.PeerMPS r.a.TxCredits r.a.RxCredits r.a.Given r.a.Out r.a.Sent r.a.In r.a.Want r.a.Failed) (T_api_Channel.mk r.b.Local r.b.Remote r.b.PSM r.b.MTU r.b.MPS r.b.PeerMTU r.b.PeerMPS r.b.TxCredits r.b.RxCredits r.b.Given r.b.Out r.b.Sent r.b.In r.b.Want r.b.Failed) r.frames r.credits r.queued r.got r.bad) (.s 10) (.s 11) (.s 12) (.s 13) (.s 14) (.s 15) (.s 16) (.s 17)), .gone, .gone, .gone, .gone, .gone, .gone, .gone, .gone, .gone, .rd 1 (RSl 1 R8) r.a.Out, .rd 1 R8 r.a.In, .rd 1 (RSl 1 R8) r.b.Out, .rd 1 R8 r.b.In, .own 1 24 (RSl 1 R8) r.frames, .own 1 3 (RInt .i64) r.credits, .own 1 24 (RSl 1 R8) r.queued, .own 1 24 (RSl 1 R8) r.got] := by
 refine Spec.enter Try.func26 rfl Try.ntmps26 rfl rfl fun fx => ?_
 refine SC.mid (fun a w => ∃ (c_38 : T_wirelesslaw33_wire), wirelesslaw33_wire_step_j1 F c_38 = some r ∧ A 223 10 fx [] [.blk 53 (C_wirelesslaw33_wire c_38 (.s 10) (.s 11) (.s 12) (.s 13) (.s 14) (.s 15) (.s 16) (.s 17)), .gone, .gone, .gone, .gone, .gone, .gone, .gone, .gone, .gone, .rd 1 (RSl 1 R8) c_38.a.Out, .rd 1 R8 c_38.a.In, .rd 1 (RSl 1 R8) c_38.b.Out, .rd 1 R8 c_38.b.In, .own 1 24 (RSl 1 R8) c_38.frames, .own 1 3 (RInt .i64) c_38.credits, .own 1 24 (RSl 1 R8) c_38.queued, .own 1 24 (RSl 1 R8) c_38.got] a w) ?_ ?_
 · refine SC.seq ?_
   refine SC.reg ?_
   refine SL.eff (e_box (E := 49) (C_wirelesslaw33_Step x_2 (.s 9)) (by kernel_rfl)) rfl (by kernel_rfl) ?_
   refine SL.nilThen ?_
   refine SC.r tk [(0, vp 0 0), (3, vp 10 0), (19, vi .u8 (remp x_2.Kind 5))] [] [.bin .rem .u8 x_2.Kind 5 (remp x_2.Kind 5) (by kernel_rfl)] [x_2.Kind, 5] (by kernel_rfl) ?_
   refine SC.block ?_
   refine SC.r tk [(0, vp 0 0), (3, vp 10 0), (19, vi .u8 (remp x_2.Kind 5)), (20, vb ((remp x_2.Kind 5) == 0))] [] [] [] (by kernel_rfl) ?_
   refine SC.if' rfl hp (fun hp => ?_) (fun hp => ?_)
   · refine SC.cut (fun a w => ∃ (c_54 : T_api_Channel) (x_55 : Int), wirelesslaw33_wire_step_j2 F w_1 x_2 c_54 x_55 = some r ∧ A 223 10 fx [(0, vp 0 0), (3, vp 10 0), (4, vp 11 0), (5, vi .i64 x_55)] [.blk 53 (C_wirelesslaw33_wire w_1 (.s 1) (.s 2) (.s 3) (.s 4) (.s 5) (.s 6) (.s 7) (.s 8)), .rd 1 (RSl 1 R8) w_1.a.Out, .rd 1 R8 w_1.a.In, .rd 1 (RSl 1 R8) w_1.b.Out, .rd 1 R8 w_1.b.In, .own 1 24 (RSl 1 R8) w_1.frames, .own 1 3 (RInt .i64) w_1.credits, .own 1 24 (RSl 1 R8) w_1.queued, .own 1 24 (RSl 1 R8) w_1.got, .rd 1 R8 x_2.SDU, .blk 49 (C_wirelesslaw33_Step x_2 (.s 9)), .blk 26 (C_api_Channel c_54 (.s 12) (.s 13)), .rd 1 (RSl 1 R8) c_54.Out, .rd 1 R8 c_54.In] a w) ?_ ?_
     · refine SC.draw MO [I, I, I, I, I, I, I, I, I, I, I] (by kernel_rfl) fun kap_1099 D_1100 => ?_
       refine SD.takes tk D_1100 [] kn0 [0, 1, 2, 3, 4, 5] [] [] [I, I, I, I, I, I, O, O, O, O, O, O, O] [(0, vp 0 0), (3, vp 10 0), (26, .g (C_api_Channel w_1.a (.s 1) (.s 2))), (28, vs 9)] rfl (by kernel_rfl) (by kernel_rfl) (by kernel_rfl) ?_
       obtain ⟨x_1581, e_x_1581, hp⟩ := bind_inv hp
       refine SD.lay 0 [I, I, I, I, I, I, I, I, I, I, I, I, I] [(0, vp 0 0), (3, vp 10 0), (4, vp 13 0), (5, vi .i64 x_1581.2)] [.blk 53 (C_wirelesslaw33_wire w_1 (.s 1) (.s 2) (.s 3) (.s 4) (.s 5) (.s 6) (.s 7) (.s 8)), .rd 1 (RSl 1 R8) w_1.a.Out, .rd 1 R8 w_1.a.In, .rd 1 (RSl 1 R8) w_1.b.Out, .rd 1 R8 w_1.b.In, .own 1 24 (RSl 1 R8) w_1.frames, .own 1 3 (RInt .i64) w_1.credits, .own 1 24 (RSl 1 R8) w_1.queued, .own 1 24 (RSl 1 R8) w_1.got, .rd 1 R8 x_2.SDU, .blk 49 (C_wirelesslaw33_Step x_2 (.s 9)), .rd 1 (RSl 1 R8) x_1581.1.Out, .rd 1 R8 x_1581.1.In, .blk 26 (C_api_Channel x_1581.1 (.s 11) (.s 12))] ?_ (fun c_1100_0 => ?_)
       · refine SD.done (by kernel_rfl) fun a w h => ?_
         exact ⟨x_1581.1, x_1581.2, hp, h.at (js := [.g 0, .g 1, .g 2, .g 3, .g 4, .g 5, .g 6, .g 7, .g 8, .g 9, .g 10, .g 13, .g 11, .g 12]) (by kernel_rfl)⟩
       · refine SD.lay 2 [I, I, I, I, I, I, I, I, I, I, I, O, O] [(0, vp 0 0), (3, vp 10 0), (4, vp 13 0), (30, .g (C_api_Channel x_1581.1 (.s 11) (.s 12))), (31, vi .i64 x_1581.2)] [.blk 53 (C_wirelesslaw33_wire w_1 (.s 1) (.s 2) (.s 3) (.s 4) (.s 5) (.s 6) (.s 7) (.s 8)), .rd 1 (RSl 1 R8) w_1.a.Out, .rd 1 R8 w_1.a.In, .rd 1 (RSl 1 R8) w_1.b.Out, .rd 1 R8 w_1.b.In, .own 1 24 (RSl 1 R8) w_1.frames, .own 1 3 (RInt .i64) w_1.credits, .own 1 24 (RSl 1 R8) w_1.queued, .own 1 24 (RSl 1 R8) w_1.got, .rd 1 R8 x_2.SDU, .blk 49 (C_wirelesslaw33_Step x_2 (.s 9)), .rd 1 (RSl 1 R8) x_1581.1.Out, .rd 1 R8 x_1581.1.In, .blk 26 (C_api_Channel (T_api_Channel.mk 0 0 0 0 0 0 0 0 0 0 [] 0 [] 0 false) nl nl)] ?_ (fun c_1100_1 => ?_)
         · refine SD.all1 (i := 11) (by kernel_rfl) ?_
           refine SW.store D_1100 tk (i := 11) (q := 13) (T := 26) (cs := (C_api_Channel x_1581.1 (.s 11) (.s 12))) (bs' := [I, I, I, I, I, I, I, I, I, I, I, I, O]) rfl (by kernel_rfl) rfl rfl (by kernel_rfl) ?_
           refine SD.takes tk D_1100 [] kn0 [12] [] [] [I, I, I, I, I, I, I, I, I, I, I, I, I] [(0, vp 0 0), (3, vp 10 0), (4, vp 13 0), (5, vi .i64 x_1581.2)] rfl (by kernel_rfl) (by kernel_rfl) (by kernel_rfl) ?_
           exact SD.vie D_1100 [.g 0, .g 1, .g 2, .g 3, .g 4, .g 5, .g 6, .g 7, .g 8, .g 9, .g 10, .g 11, .g 12, .g 13] c_1100_0 (by kernel_rfl)
         · refine SD.lay 3 [I, I, I, I, I, I, I, I, I, I, O, O, O] [(0, vp 0 0), (3, vp 10 0), (30, .g (C_api_Channel x_1581.1 (.s 11) (.s 12))), (31, vi .i64 x_1581.2)] [.blk 53 (C_wirelesslaw33_wire w_1 (.s 1) (.s 2) (.s 3) (.s 4) (.s 5) (.s 6) (.s 7) (.s 8)), .rd 1 (RSl 1 R8) w_1.a.Out, .rd 1 R8 w_1.a.In, .rd 1 (RSl 1 R8) w_1.b.Out, .rd 1 R8 w_1.b.In, .own 1 24 (RSl 1 R8) w_1.frames, .own 1 3 (RInt .i64) w_1.credits, .own 1 24 (RSl 1 R8) w_1.queued, .own 1 24 (RSl 1 R8) w_1.got, .rd 1 R8 x_2.SDU, .blk 49 (C_wirelesslaw33_Step x_2 (.s 9)), .rd 1 (RSl 1 R8) x_1581.1.Out, .rd 1 R8 x_1581.1.In] ?_ (fun c_1100_2 => ?_)
           · refine SD.all1 (i := 10) (by kernel_rfl) ?_
             refine SW.eff D_1100 (i := 10) (bs' := [I, I, I, I, I, I, I, I, I, I, I, O, O]) rfl (.inl rfl) rfl (e_alloc (E := 26) tk (C_api_Channel (T_api_Channel.mk 0 0 0 0 0 0 0 0 0 0 [] 0 [] 0 false) nl nl) (by kernel_rfl)) (by kernel_rfl) rfl (by kernel_rfl) ?_
             exact SD.vie D_1100 [.g 0, .g 1, .g 2, .g 3, .g 4, .g 5, .g 6, .g 7, .g 8, .g 9, .g 10, .g 11, .g 12, .g 13] c_1100_1 (by kernel_rfl)
           · refine SD.lay 6 [I, I, I, I, I, I, O, O, O, O, I, O, O] [(0, vp 0 0), (3, vp 10 0), (4, vp 11 0), (26, .g (C_api_Channel w_1.a (.s 1) (.s 2))), (28, vs 9)] [.blk 53 (C_wirelesslaw33_wire w_1 (.s 1) (.s 2) (.s 3) (.s 4) (.s 5) (.s 6) (.s 7) (.s 8)), .rd 1 (RSl 1 R8) w_1.a.Out, .rd 1 R8 w_1.a.In, .rd 1 (RSl 1 R8) w_1.b.Out, .rd 1 R8 w_1.b.In, .own 1 24 (RSl 1 R8) w_1.frames, .own 1 3 (RInt .i64) w_1.credits, .own 1 24 (RSl 1 R8) w_1.queued, .own 1 24 (RSl 1 R8) w_1.got, .rd 1 R8 x_2.SDU, .blk 49 (C_wirelesslaw33_Step x_2 (.s 9)), .blk 26 (C_api_Channel (T_api_Channel.mk 0 0 0 0 0 0 0 0 0 0 [] 0 [] 0 false) nl nl)] ?_ (fun c_1100_3 => ?_)
             · refine SD.all1 (i := 6) (by kernel_rfl) ?_
               refine SW.eff D_1100 (i := 6) (bs' := [I, I, I, I, I, I, I, O, O, O, I, O, O]) rfl (.inl rfl) rfl (e_c Try.call18 (ok_sdu_Queue F w_1.a x_2.SDU _ e_x_1581) [.g 1, .g 2, .g 9] [.g (C_api_Channel w_1.a (.s 1) (.s 2)), vs 9] (.u [.inr (C_api_Channel x_1581.1 (.s 12) (.s 13)), .inl (ci .i64 x_1581.2)]) (by kernel_rfl) (.inl rfl)) (by kernel_rfl) rfl (by kernel_rfl) ?_
               refine SD.takes tk D_1100 [] kn0 [7, 8, 9] [] [] [I, I, I, I, I, I, I, I, I, I, I, O, O] [(0, vp 0 0), (3, vp 10 0), (4, vp 11 0), (30, .g (C_api_Channel x_1581.1 (.s 12) (.s 13))), (31, vi .i64 x_1581.2)] rfl (by kernel_rfl) (by kernel_rfl) (by kernel_rfl) ?_
               exact SD.vie D_1100 [.g 0, .g 1, .g 2, .g 3, .g 4, .g 5, .g 6, .g 7, .g 8, .g 9, .g 10, .g 12, .g 13, .g 11] c_1100_1 (by kernel_rfl)
             · refine SD.all2 (i := 6) (j := 10) (by kernel_rfl) ?_ ?_
               · refine SW.eff D_1100 (i := 6) (bs' := [I, I, I, I, I, I, I, O, O, O, O, O, O]) rfl (.inl rfl) rfl (e_c Try.call18 (ok_sdu_Queue F w_1.a x_2.SDU _ e_x_1581) [.g 1, .g 2, .g 9] [.g (C_api_Channel w_1.a (.s 1) (.s 2)), vs 9] (.u [.inr (C_api_Channel x_1581.1 (.s 11) (.s 12)), .inl (ci .i64 x_1581.2)]) (by kernel_rfl) (.inl rfl)) (by kernel_rfl) rfl (by kernel_rfl) ?_
                 refine SD.takes tk D_1100 [] kn0 [7, 8, 9] [] [] [I, I, I, I, I, I, I, I, I, I, O, O, O] [(0, vp 0 0), (3, vp 10 0), (30, .g (C_api_Channel x_1581.1 (.s 11) (.s 12))), (31, vi .i64 x_1581.2)] rfl (by kernel_rfl) (by kernel_rfl) (by kernel_rfl) ?_
                 exact SD.vie D_1100 [.g 0, .g 1, .g 2, .g 3, .g 4, .g 5, .g 6, .g 7, .g 8, .g 9, .g 10, .g 11, .g 12] c_1100_2 (by kernel_rfl)
               · refine SW.eff D_1100 (i := 10) (bs' := [I, I, I, I, I, I, O, O, O, O, I, O, O]) rfl (.inl rfl) rfl (e_alloc (E := 26) tk (C_api_Channel (T_api_Channel.mk 0 0 0 0 0 0 0 0 0 0 [] 0 [] 0 false) nl nl) (by kernel_rfl)) (by kernel_rfl) rfl (by kernel_rfl) ?_
                 exact SD.vie D_1100 [.g 0, .g 1, .g 2, .g 3, .g 4, .g 5, .g 6, .g 7, .g 8, .g 9, .g 10, .g 11] c_1100_3 (by kernel_rfl)
     · rintro a w ⟨c_54, x_55, hp, h⟩
       refine h.go ?_
       refine SC.cut (fun a w => ∃ (l_56 : (List (List Int))), wirelesslaw33_wire_step_j3 F w_1 c_54 l_56 = some r ∧ A 223 10 fx [(0, vp 0 0), (4, vp 11 0)] [.blk 53 (C_wirelesslaw33_wire ({ w_1 with queued := l_56 }) (.s 1) (.s 2) (.s 3) (.s 4) (.s 5) (.s 6) (.s 10) (.s 8)), .rd 1 (RSl 1 R8) w_1.a.Out, .rd 1 R8 w_1.a.In, .rd 1 (RSl 1 R8) w_1.b.Out, .rd 1 R8 w_1.b.In, .own 1 24 (RSl 1 R8) w_1.frames, .own 1 3 (RInt .i64) w_1.credits, .gone, .own 1 24 (RSl 1 R8) w_1.got, .gone, .own 1 24 (RSl 1 R8) l_56, .blk 26 (C_api_Channel c_54 (.s 12) (.s 13)), .rd 1 (RSl 1 R8) c_54.Out, .rd 1 R8 c_54.In] a w) ?_ ?_
       · refine SC.r tk [(0, vp 0 0), (3, vp 10 0), (4, vp 11 0), (33, vb (x_55 == 0))] [] [] [] (by kernel_rfl) ?_
         refine SC.if' rfl hp (fun hp => ?_) (fun hp => ?_)
         · refine SC.draw MO [O, I, I, I, I, I, I, O, I, I, I, I, I, I] (by kernel_rfl) fun kap_57 D_58 => ?_
           refine SD.takes tk D_58 [] kn0 [0, 1, 5, 6] [] [] [I, I, O, O, O, I, I, O, O, O, O, O] [(0, vp 0 0), (4, vp 11 0), (34, vp 0 0), (35, vp 0 0), (40, vs 9)] rfl (by kernel_rfl) (by kernel_rfl) (by kernel_rfl) ?_
           obtain ⟨l_699, e_l_699, hp⟩ := bind_inv hp
           refine SD.lay 0 [I, I, I, I, I, I, I, I, I, I, I, I] [(0, vp 0 0), (4, vp 11 0)] [.blk 53 (C_wirelesslaw33_wire ({ w_1 with queued := l_699 }) (.s 1) (.s 2) (.s 3) (.s 4) (.s 5) (.s 6) (.s 15) (.s 8)), .rd 1 (RSl 1 R8) w_1.a.Out, .rd 1 R8 w_1.a.In, .rd 1 (RSl 1 R8) w_1.b.Out, .rd 1 R8 w_1.b.In, .own 1 24 (RSl 1 R8) w_1.frames, .own 1 3 (RInt .i64) w_1.credits, .gone, .own 1 24 (RSl 1 R8) w_1.got, .rd 1 R8 x_2.SDU, .blk 49 (C_wirelesslaw33_Step x_2 (.s 9)), .blk 26 (C_api_Channel c_54 (.s 12) (.s 13)), .rd 1 (RSl 1 R8) c_54.Out, .rd 1 R8 c_54.In, .gone, .own 1 24 (RSl 1 R8) l_699] ?_ (fun c_58_0 => ?_)
           · refine SD.done (by kernel_rfl) fun a w h => ?_
             exact ⟨l_699, hp, h.at (js := [.g 0, .g 1, .g 2, .g 3, .g 4, .g 5, .g 6, .g 7, .g 8, .g 9, .g 15, .g 11, .g 12, .g 13]) (by kernel_rfl)⟩
           · refine SD.lay 1 [I, I, I, I, I, I, I, I, I, I, I, O] [(0, vp 0 0), (4, vp 11 0), (42, vs 15), (44, vp 0 32)] [.blk 53 [ci .u16 w_1.a.Local, ci .u16 w_1.a.Remote, ci .u16 w_1.a.PSM, ci .i64 w_1.a.MTU, ci .i64 w_1.a.MPS, ci .i64 w_1.a.PeerMTU, ci .i64 w_1.a.PeerMPS, ci .i64 w_1.a.TxCredits, ci .i64 w_1.a.RxCredits, ci .i64 w_1.a.Given, .s 1, ci .i64 w_1.a.Sent, .s 2, ci .i64 w_1.a.Want, cb w_1.a.Failed, ci .u16 w_1.b.Local, ci .u16 w_1.b.Remote, ci .u16 w_1.b.PSM, ci .i64 w_1.b.MTU, ci .i64 w_1.b.MPS, ci .i64 w_1.b.PeerMTU, ci .i64 w_1.b.PeerMPS, ci .i64 w_1.b.TxCredits, ci .i64 w_1.b.RxCredits, ci .i64 w_1.b.Given, .s 3, ci .i64 w_1.b.Sent, .s 4, ci .i64 w_1.b.Want, cb w_1.b.Failed, .s 5, .s 6, .s 7, .s 8, cb w_1.bad], .rd 1 (RSl 1 R8) w_1.a.Out, .rd 1 R8 w_1.a.In, .rd 1 (RSl 1 R8) w_1.b.Out, .rd 1 R8 w_1.b.In, .own 1 24 (RSl 1 R8) w_1.frames, .own 1 3 (RInt .i64) w_1.credits, .gone, .own 1 24 (RSl 1 R8) w_1.got, .rd 1 R8 x_2.SDU, .blk 49 (C_wirelesslaw33_Step x_2 (.s 9)), .blk 26 (C_api_Channel c_54 (.s 12) (.s 13)), .rd 1 (RSl 1 R8) c_54.Out, .rd 1 R8 c_54.In, .gone, .own 1 24 (RSl 1 R8) l_699] ?_ (fun c_58_1 => ?_)
             · refine SD.all1 (i := 11) (by kernel_rfl) ?_
               refine SW.store D_58 tk (i := 11) (q := 0) (T := 53) (cs := (C_wirelesslaw33_wire ({ w_1 with queued := l_699 }) (.s 1) (.s 2) (.s 3) (.s 4) (.s 5) (.s 6) (.s 15) (.s 8))) (bs' := [I, I, I, I, I, I, I, I, I, I, I, I]) rfl (by kernel_rfl) rfl rfl (by kernel_rfl) ?_
               exact SD.vie D_58 [.g 0, .g 1, .g 2, .g 3, .g 4, .g 5, .g 6, .g 7, .g 8, .g 9, .g 10, .g 11, .g 12, .g 13, .n, .g 15] c_58_0 (by kernel_rfl)
             · refine SD.lay 2 [I, I, I, I, I, I, I, I, I, I, O, O] [(0, vp 0 0), (4, vp 11 0), (42, vs 15), (43, vp 0 0)] [.blk 53 [ci .u16 w_1.a.Local, ci .u16 w_1.a.Remote, ci .u16 w_1.a.PSM, ci .i64 w_1.a.MTU, ci .i64 w_1.a.MPS, ci .i64 w_1.a.PeerMTU, ci .i64 w_1.a.PeerMPS, ci .i64 w_1.a.TxCredits, ci .i64 w_1.a.RxCredits, ci .i64 w_1.a.Given, .s 1, ci .i64 w_1.a.Sent, .s 2, ci .i64 w_1.a.Want, cb w_1.a.Failed, ci .u16 w_1.b.Local, ci .u16 w_1.b.Remote, ci .u16 w_1.b.PSM, ci .i64 w_1.b.MTU, ci .i64 w_1.b.MPS, ci .i64 w_1.b.PeerMTU, ci .i64 w_1.b.PeerMPS, ci .i64 w_1.b.TxCredits, ci .i64 w_1.b.RxCredits, ci .i64 w_1.b.Given, .s 3, ci .i64 w_1.b.Sent, .s 4, ci .i64 w_1.b.Want, cb w_1.b.Failed, .s 5, .s 6, .s 7, .s 8, cb w_1.bad], .rd 1 (RSl 1 R8) w_1.a.Out, .rd 1 R8 w_1.a.In, .rd 1 (RSl 1 R8) w_1.b.Out, .rd 1 R8 w_1.b.In, .own 1 24 (RSl 1 R8) w_1.frames, .own 1 3 (RInt .i64) w_1.credits, .gone, .own 1 24 (RSl 1 R8) w_1.got, .rd 1 R8 x_2.SDU, .blk 49 (C_wirelesslaw33_Step x_2 (.s 9)), .blk 26 (C_api_Channel c_54 (.s 12) (.s 13)), .rd 1 (RSl 1 R8) c_54.Out, .rd 1 R8 c_54.In, .gone, .own 1 24 (RSl 1 R8) l_699] ?_ (fun c_58_2 => ?_)
               · refine SD.all1 (i := 10) (by kernel_rfl) ?_
                 refine SW.eff D_58 (i := 10) (v := vp 0 32) (bs' := [I, I, I, I, I, I, I, I, I, I, I, O]) rfl (.inl rfl) rfl (e_val tk (by kernel_rfl)) (by kernel_rfl) rfl (by kernel_rfl) ?_
                 exact SD.vie D_58 [.g 0, .g 1, .g 2, .g 3, .g 4, .g 5, .g 6, .g 7, .g 8, .g 9, .g 10, .g 11, .g 12, .g 13, .n, .g 15] c_58_1 (by kernel_rfl)
               · refine SD.lay 3 [I, I, I, I, I, I, I, I, I, O, O, O] [(0, vp 0 0), (4, vp 11 0), (34, vp 0 0), (42, vs 15)] [.blk 53 [ci .u16 w_1.a.Local, ci .u16 w_1.a.Remote, ci .u16 w_1.a.PSM, ci .i64 w_1.a.MTU, ci .i64 w_1.a.MPS, ci .i64 w_1.a.PeerMTU, ci .i64 w_1.a.PeerMPS, ci .i64 w_1.a.TxCredits, ci .i64 w_1.a.RxCredits, ci .i64 w_1.a.Given, .s 1, ci .i64 w_1.a.Sent, .s 2, ci .i64 w_1.a.Want, cb w_1.a.Failed, ci .u16 w_1.b.Local, ci .u16 w_1.b.Remote, ci .u16 w_1.b.PSM, ci .i64 w_1.b.MTU, ci .i64 w_1.b.MPS, ci .i64 w_1.b.PeerMTU, ci .i64 w_1.b.PeerMPS, ci .i64 w_1.b.TxCredits, ci .i64 w_1.b.RxCredits, ci .i64 w_1.b.Given, .s 3, ci .i64 w_1.b.Sent, .s 4, ci .i64 w_1.b.Want, cb w_1.b.Failed, .s 5, .s 6, .s 7, .s 8, cb w_1.bad], .rd 1 (RSl 1 R8) w_1.a.Out, .rd 1 R8 w_1.a.In, .rd 1 (RSl 1 R8) w_1.b.Out, .rd 1 R8 w_1.b.In, .own 1 24 (RSl 1 R8) w_1.frames, .own 1 3 (RInt .i64) w_1.credits, .gone, .own 1 24 (RSl 1 R8) w_1.got, .rd 1 R8 x_2.SDU, .blk 49 (C_wirelesslaw33_Step x_2 (.s 9)), .blk 26 (C_api_Channel c_54 (.s 12) (.s 13)), .rd 1 (RSl 1 R8) c_54.Out, .rd 1 R8 c_54.In, .gone, .own 1 24 (RSl 1 R8) l_699] ?_ (fun c_58_3 => ?_)
                 · refine SD.all1 (i := 9) (by kernel_rfl) ?_
                   refine SW.eff D_58 (i := 9) (v := vp 0 0) (bs' := [I, I, I, I, I, I, I, I, I, I, O, O]) rfl (.inl rfl) rfl (e_val tk (by kernel_rfl)) (by kernel_rfl) rfl (by kernel_rfl) ?_
                   exact SD.vie D_58 [.g 0, .g 1, .g 2, .g 3, .g 4, .g 5, .g 6, .g 7, .g 8, .g 9, .g 10, .g 11, .g 12, .g 13, .n, .g 15] c_58_2 (by kernel_rfl)
                 · refine SD.lay 4 [I, I, I, I, I, I, I, I, O, O, O, O] [(0, vp 0 0), (4, vp 11 0), (34, vp 0 0), (38, vs 7), (41, vs 14)] [.blk 53 (C_wirelesslaw33_wire w_1 (.s 1) (.s 2) (.s 3) (.s 4) (.s 5) (.s 6) (.s 7) (.s 8)), .rd 1 (RSl 1 R8) w_1.a.Out, .rd 1 R8 w_1.a.In, .rd 1 (RSl 1 R8) w_1.b.Out, .rd 1 R8 w_1.b.In, .own 1 24 (RSl 1 R8) w_1.frames, .own 1 3 (RInt .i64) w_1.credits, .own 1 24 (RSl 1 R8) w_1.queued, .own 1 24 (RSl 1 R8) w_1.got, .rd 1 R8 x_2.SDU, .blk 49 (C_wirelesslaw33_Step x_2 (.s 9)), .blk 26 (C_api_Channel c_54 (.s 12) (.s 13)), .rd 1 (RSl 1 R8) c_54.Out, .rd 1 R8 c_54.In, .own 1 24 (RSl 1 R8) [x_2.SDU]] ?_ (fun c_58_4 => ?_)
                   · refine SD.all1 (i := 8) (by kernel_rfl) ?_
                     refine SW.eff D_58 (i := 8) (bs' := [I, I, I, I, I, I, I, I, I, O, O, O]) rfl (.inl rfl) rfl (e_app (i := 7) (l := w_1.queued) (sz := 1) (E := 24) (R := (RSl 1 R8)) (by_ := 24) (m := [x_2.SDU]) tk rfl (by kernel_rfl) rfl (.o 24 (by kernel_rfl)) e_l_699 (by kernel_rfl)) (by kernel_rfl) rfl (by kernel_rfl) ?_
                     exact SD.vie D_58 [.g 0, .g 1, .g 2, .g 3, .g 4, .g 5, .g 6, .g 7, .g 8, .g 9, .g 10, .g 11, .g 12, .g 13, .n, .g 15] c_58_3 (by kernel_rfl)
                   · refine SD.lay 5 [I, I, I, I, I, I, I, O, O, O, O, O] [(0, vp 0 0), (4, vp 11 0), (34, vp 0 0), (38, vs 7), (40, vs 9)] [.blk 53 (C_wirelesslaw33_wire w_1 (.s 1) (.s 2) (.s 3) (.s 4) (.s 5) (.s 6) (.s 7) (.s 8)), .rd 1 (RSl 1 R8) w_1.a.Out, .rd 1 R8 w_1.a.In, .rd 1 (RSl 1 R8) w_1.b.Out, .rd 1 R8 w_1.b.In, .own 1 24 (RSl 1 R8) w_1.frames, .own 1 3 (RInt .i64) w_1.credits, .own 1 24 (RSl 1 R8) w_1.queued, .own 1 24 (RSl 1 R8) w_1.got, .rd 1 R8 x_2.SDU, .blk 49 (C_wirelesslaw33_Step x_2 (.s 9)), .blk 26 (C_api_Channel c_54 (.s 12) (.s 13)), .rd 1 (RSl 1 R8) c_54.Out, .rd 1 R8 c_54.In] ?_ (fun c_58_5 => ?_)
                     · refine SD.all1 (i := 7) (by kernel_rfl) ?_
                       refine SW.eff D_58 (i := 7) (bs' := [I, I, I, I, I, I, I, I, O, O, O, O]) rfl (.inl rfl) rfl (e_lit (sz := 1) (E := 24) (R := (RSl 1 R8)) (by_ := 24) tk [[.s 9]] [x_2.SDU] (by kernel_rfl) ⟨(Clo.sl (by kernel_rfl)), trivial⟩ rfl (by kernel_rfl) (by kernel_rfl)) (by kernel_rfl) rfl (by kernel_rfl) ?_
                       exact SD.vie D_58 [.g 0, .g 1, .g 2, .g 3, .g 4, .g 5, .g 6, .g 7, .g 8, .g 9, .g 10, .g 11, .g 12, .g 13, .g 14] c_58_4 (by kernel_rfl)
                     · refine SD.lay 5 [I, I, I, I, O, I, I, I, O, O, O, O] [(0, vp 0 0), (4, vp 11 0), (34, vp 0 0), (37, vp 0 32), (41, vs 14)] [.blk 53 (C_wirelesslaw33_wire w_1 (.s 1) (.s 2) (.s 3) (.s 4) (.s 5) (.s 6) (.s 7) (.s 8)), .rd 1 (RSl 1 R8) w_1.a.Out, .rd 1 R8 w_1.a.In, .rd 1 (RSl 1 R8) w_1.b.Out, .rd 1 R8 w_1.b.In, .own 1 24 (RSl 1 R8) w_1.frames, .own 1 3 (RInt .i64) w_1.credits, .own 1 24 (RSl 1 R8) w_1.queued, .own 1 24 (RSl 1 R8) w_1.got, .rd 1 R8 x_2.SDU, .blk 49 (C_wirelesslaw33_Step x_2 (.s 9)), .blk 26 (C_api_Channel c_54 (.s 12) (.s 13)), .rd 1 (RSl 1 R8) c_54.Out, .rd 1 R8 c_54.In, .own 1 24 (RSl 1 R8) [x_2.SDU]] ?_ (fun c_58_6 => ?_)
                       · refine SD.all1 (i := 4) (by kernel_rfl) ?_
                         refine SW.eff D_58 (i := 4) (v := vs 7) (bs' := [I, I, I, I, I, I, I, I, O, O, O, O]) rfl (.inl rfl) rfl (e_val tk (by kernel_rfl)) (by kernel_rfl) rfl (by kernel_rfl) ?_
                         exact SD.vie D_58 [.g 0, .g 1, .g 2, .g 3, .g 4, .g 5, .g 6, .g 7, .g 8, .g 9, .g 10, .g 11, .g 12, .g 13, .g 14] c_58_4 (by kernel_rfl)
                       · refine SD.lay 6 [I, I, I, I, O, I, I, O, O, O, O, O] [(0, vp 0 0), (4, vp 11 0), (34, vp 0 0), (37, vp 0 32), (40, vs 9)] [.blk 53 (C_wirelesslaw33_wire w_1 (.s 1) (.s 2) (.s 3) (.s 4) (.s 5) (.s 6) (.s 7) (.s 8)), .rd 1 (RSl 1 R8) w_1.a.Out, .rd 1 R8 w_1.a.In, .rd 1 (RSl 1 R8) w_1.b.Out, .rd 1 R8 w_1.b.In, .own 1 24 (RSl 1 R8) w_1.frames, .own 1 3 (RInt .i64) w_1.credits, .own 1 24 (RSl 1 R8) w_1.queued, .own 1 24 (RSl 1 R8) w_1.got, .rd 1 R8 x_2.SDU, .blk 49 (C_wirelesslaw33_Step x_2 (.s 9)), .blk 26 (C_api_Channel c_54 (.s 12) (.s 13)), .rd 1 (RSl 1 R8) c_54.Out, .rd 1 R8 c_54.In] ?_ (fun c_58_7 => ?_)
                         · refine SD.all2 (i := 4) (j := 7) (by kernel_rfl) ?_ ?_
                           · refine SW.eff D_58 (i := 4) (v := vs 7) (bs' := [I, I, I, I, I, I, I, O, O, O, O, O]) rfl (.inl rfl) rfl (e_val tk (by kernel_rfl)) (by kernel_rfl) rfl (by kernel_rfl) ?_
                             exact SD.vie D_58 [.g 0, .g 1, .g 2, .g 3, .g 4, .g 5, .g 6, .g 7, .g 8, .g 9, .g 10, .g 11, .g 12, .g 13] c_58_5 (by kernel_rfl)
                           · refine SW.eff D_58 (i := 7) (bs' := [I, I, I, I, O, I, I, I, O, O, O, O]) rfl (.inl rfl) rfl (e_lit (sz := 1) (E := 24) (R := (RSl 1 R8)) (by_ := 24) tk [[.s 9]] [x_2.SDU] (by kernel_rfl) ⟨(Clo.sl (by kernel_rfl)), trivial⟩ rfl (by kernel_rfl) (by kernel_rfl)) (by kernel_rfl) rfl (by kernel_rfl) ?_
                             exact SD.vie D_58 [.g 0, .g 1, .g 2, .g 3, .g 4, .g 5, .g 6, .g 7, .g 8, .g 9, .g 10, .g 11, .g 12, .g 13, .g 14] c_58_6 (by kernel_rfl)
                         · refine SD.lay 6 [I, I, I, O, O, I, I, I, O, O, O, O] [(0, vp 0 0), (4, vp 11 0), (34, vp 0 0), (36, vp 0 0), (41, vs 14)] [.blk 53 (C_wirelesslaw33_wire w_1 (.s 1) (.s 2) (.s 3) (.s 4) (.s 5) (.s 6) (.s 7) (.s 8)), .rd 1 (RSl 1 R8) w_1.a.Out, .rd 1 R8 w_1.a.In, .rd 1 (RSl 1 R8) w_1.b.Out, .rd 1 R8 w_1.b.In, .own 1 24 (RSl 1 R8) w_1.frames, .own 1 3 (RInt .i64) w_1.credits, .own 1 24 (RSl 1 R8) w_1.queued, .own 1 24 (RSl 1 R8) w_1.got, .rd 1 R8 x_2.SDU, .blk 49 (C_wirelesslaw33_Step x_2 (.s 9)), .blk 26 (C_api_Channel c_54 (.s 12) (.s 13)), .rd 1 (RSl 1 R8) c_54.Out, .rd 1 R8 c_54.In, .own 1 24 (RSl 1 R8) [x_2.SDU]] ?_ (fun c_58_8 => ?_)
                           · refine SD.all1 (i := 3) (by kernel_rfl) ?_
                             refine SW.eff D_58 (i := 3) (v := vp 0 32) (bs' := [I, I, I, I, O, I, I, I, O, O, O, O]) rfl (.inl rfl) rfl (e_val tk (by kernel_rfl)) (by kernel_rfl) rfl (by kernel_rfl) ?_
                             exact SD.vie D_58 [.g 0, .g 1, .g 2, .g 3, .g 4, .g 5, .g 6, .g 7, .g 8, .g 9, .g 10, .g 11, .g 12, .g 13, .g 14] c_58_6 (by kernel_rfl)
                           · refine SD.lay 7 [I, I, I, O, O, I, I, O, O, O, O, O] [(0, vp 0 0), (4, vp 11 0), (34, vp 0 0), (36, vp 0 0), (40, vs 9)] [.blk 53 (C_wirelesslaw33_wire w_1 (.s 1) (.s 2) (.s 3) (.s 4) (.s 5) (.s 6) (.s 7) (.s 8)), .rd 1 (RSl 1 R8) w_1.a.Out, .rd 1 R8 w_1.a.In, .rd 1 (RSl 1 R8) w_1.b.Out, .rd 1 R8 w_1.b.In, .own 1 24 (RSl 1 R8) w_1.frames, .own 1 3 (RInt .i64) w_1.credits, .own 1 24 (RSl 1 R8) w_1.queued, .own 1 24 (RSl 1 R8) w_1.got, .rd 1 R8 x_2.SDU, .blk 49 (C_wirelesslaw33_Step x_2 (.s 9)), .blk 26 (C_api_Channel c_54 (.s 12) (.s 13)), .rd 1 (RSl 1 R8) c_54.Out, .rd 1 R8 c_54.In] ?_ (fun c_58_9 => ?_)
                             · refine SD.all2 (i := 3) (j := 7) (by kernel_rfl) ?_ ?_
                               · refine SW.eff D_58 (i := 3) (v := vp 0 32) (bs' := [I, I, I, I, O, I, I, O, O, O, O, O]) rfl (.inl rfl) rfl (e_val tk (by kernel_rfl)) (by kernel_rfl) rfl (by kernel_rfl) ?_
                                 exact SD.vie D_58 [.g 0, .g 1, .g 2, .g 3, .g 4, .g 5, .g 6, .g 7, .g 8, .g 9, .g 10, .g 11, .g 12, .g 13] c_58_7 (by kernel_rfl)
                               · refine SW.eff D_58 (i := 7) (bs' := [I, I, I, O, O, I, I, I, O, O, O, O]) rfl (.inl rfl) rfl (e_lit (sz := 1) (E := 24) (R := (RSl 1 R8)) (by_ := 24) tk [[.s 9]] [x_2.SDU] (by kernel_rfl) ⟨(Clo.sl (by kernel_rfl)), trivial⟩ rfl (by kernel_rfl) (by kernel_rfl)) (by kernel_rfl) rfl (by kernel_rfl) ?_
                                 exact SD.vie D_58 [.g 0, .g 1, .g 2, .g 3, .g 4, .g 5, .g 6, .g 7, .g 8, .g 9, .g 10, .g 11, .g 12, .g 13, .g 14] c_58_8 (by kernel_rfl)
                             · refine SD.lay 7 [I, I, O, O, O, I, I, I, O, O, O, O] [(0, vp 0 0), (4, vp 11 0), (34, vp 0 0), (35, vp 0 0), (41, vs 14)] [.blk 53 (C_wirelesslaw33_wire w_1 (.s 1) (.s 2) (.s 3) (.s 4) (.s 5) (.s 6) (.s 7) (.s 8)), .rd 1 (RSl 1 R8) w_1.a.Out, .rd 1 R8 w_1.a.In, .rd 1 (RSl 1 R8) w_1.b.Out, .rd 1 R8 w_1.b.In, .own 1 24 (RSl 1 R8) w_1.frames, .own 1 3 (RInt .i64) w_1.credits, .own 1 24 (RSl 1 R8) w_1.queued, .own 1 24 (RSl 1 R8) w_1.got, .rd 1 R8 x_2.SDU, .blk 49 (C_wirelesslaw33_Step x_2 (.s 9)), .blk 26 (C_api_Channel c_54 (.s 12) (.s 13)), .rd 1 (RSl 1 R8) c_54.Out, .rd 1 R8 c_54.In, .own 1 24 (RSl 1 R8) [x_2.SDU]] ?_ (fun c_58_10 => ?_)
                               · refine SD.all1 (i := 2) (by kernel_rfl) ?_
                                 refine SW.eff D_58 (i := 2) (v := vp 0 0) (bs' := [I, I, I, O, O, I, I, I, O, O, O, O]) rfl (.inl rfl) rfl (e_val tk (by kernel_rfl)) (by kernel_rfl) rfl (by kernel_rfl) ?_
                                 exact SD.vie D_58 [.g 0, .g 1, .g 2, .g 3, .g 4, .g 5, .g 6, .g 7, .g 8, .g 9, .g 10, .g 11, .g 12, .g 13, .g 14] c_58_8 (by kernel_rfl)
                               · refine SD.all2 (i := 2) (j := 7) (by kernel_rfl) ?_ ?_
                                 · refine SW.eff D_58 (i := 2) (v := vp 0 0) (bs' := [I, I, I, O, O, I, I, O, O, O, O, O]) rfl (.inl rfl) rfl (e_val tk (by kernel_rfl)) (by kernel_rfl) rfl (by kernel_rfl) ?_
                                   exact SD.vie D_58 [.g 0, .g 1, .g 2, .g 3, .g 4, .g 5, .g 6, .g 7, .g 8, .g 9, .g 10, .g 11, .g 12, .g 13] c_58_9 (by kernel_rfl)
                                 · refine SW.eff D_58 (i := 7) (bs' := [I, I, O, O, O, I, I, I, O, O, O, O]) rfl (.inl rfl) rfl (e_lit (sz := 1) (E := 24) (R := (RSl 1 R8)) (by_ := 24) tk [[.s 9]] [x_2.SDU] (by kernel_rfl) ⟨(Clo.sl (by kernel_rfl)), trivial⟩ rfl (by kernel_rfl) (by kernel_rfl)) (by kernel_rfl) rfl (by kernel_rfl) ?_
                                   exact SD.vie D_58 [.g 0, .g 1, .g 2, .g 3, .g 4, .g 5, .g 6, .g 7, .g 8, .g 9, .g 10, .g 11, .g 12, .g 13, .g 14] c_58_10 (by kernel_rfl)
         · refine SC.skipJ fun a w h => ?_
           exact ⟨w_1.queued, hp, h.at (js := [.g 0, .g 1, .g 2, .g 3, .g 4, .g 5, .g 6, .g 7, .g 8, .g 9, .g 7, .g 11, .g 12, .g 13]) (by kernel_rfl)⟩
       · rintro a w ⟨l_56, hp, h⟩
         refine h.go ?_
         refine SC.reg ?_
         refine SL.sim tk 5 [] [(0, 53, (C_wirelesslaw33_wire ({ w_1 with a := c_54, queued := l_56 }) (.s 12) (.s 13) (.s 3) (.s 4) (.s 5) (.s 6) (.s 10) (.s 8)))] [] [] (by kernel_rfl) ?_
         refine SL.nilJ fun a w h => ?_
         exact ⟨{ w_1 with a := c_54, queued := l_56 }, hp, h.at (js := [.g 0, .g 1, .g 2, .g 3, .g 4, .g 5, .g 6, .g 7, .g 8, .g 9, .g 12, .g 13, .g 3, .g 4, .g 5, .g 6, .g 10, .g 8]) (by kernel_rfl)⟩
   · refine SC.r tk [(0, vp 0 0), (3, vp 10 0), (19, vi .u8 (remp x_2.Kind 5)), (49, vb ((remp x_2.Kind 5) == 1))] [] [] [] (by kernel_rfl) ?_
     refine SC.if' rfl hp (fun hp => ?_) (fun hp => ?_)
     · refine SC.seq ?_
       refine SC.reg ?_
       refine SL.sim tk 4 [(0, vp 0 0), (55, .g (C_api_Channel w_1.a (.s 1) (.s 2)))] [] [] [] (by kernel_rfl) ?_
       obtain ⟨x_2221, e_x_2221, hp⟩ := bind_inv hp
       refine SL.eff (e_c Try.call12 (ok_sdu_Output F w_1.a _ e_x_2221) [.g 1, .g 2] [.g (C_api_Channel w_1.a (.s 1) (.s 2))] (.u [.inr (C_api_Channel x_2221.1 (.s 11) (.s 12)), .inl (.s 13)]) (by kernel_rfl) (.inl rfl)) rfl (by kernel_rfl) ?_
       refine SL.sim tk 3 [(0, vp 0 0), (57, .g (C_api_Channel x_2221.1 (.s 11) (.s 12))), (58, vs 13)] [] [] [] (by kernel_rfl) ?_
       refine SL.eff (e_alloc (E := 26) tk (C_api_Channel (T_api_Channel.mk 0 0 0 0 0 0 0 0 0 0 [] 0 [] 0 false) nl nl) (by kernel_rfl)) rfl (by kernel_rfl) ?_
       refine SL.norm (itsN := [.blk 53 (C_wirelesslaw33_wire w_1 (.s 1) (.s 2) (.s 3) (.s 4) (.s 5) (.s 6) (.s 7) (.s 8)), .rd 1 (RSl 1 R8) w_1.a.Out, .rd 1 R8 w_1.a.In, .rd 1 (RSl 1 R8) w_1.b.Out, .rd 1 R8 w_1.b.In, .own 1 24 (RSl 1 R8) w_1.frames, .own 1 3 (RInt .i64) w_1.credits, .own 1 24 (RSl 1 R8) w_1.queued, .own 1 24 (RSl 1 R8) w_1.got, .rd 1 R8 x_2.SDU, .blk 49 (C_wirelesslaw33_Step x_2 (.s 9)), .rd 1 (RSl 1 R8) x_2221.1.Out, .rd 1 R8 x_2221.1.In, .rd 1 (RSl 1 R8) x_2221.2, .blk 26 (C_api_Channel (T_api_Channel.mk 0 0 0 0 0 0 0 0 0 0 [] 0 [] 0 false) nl nl)]) (by kernel_rfl) ?_
       refine SL.sim tk 2 [(0, vp 0 0), (6, vp 14 0), (7, vs 13)] [(14, 26, (C_api_Channel x_2221.1 (.s 11) (.s 12)))] [] [] (by kernel_rfl) ?_
       refine SL.nilThen ?_
       refine SC.draw MO [O, I, I, I, I, O, I, I, I, I, I, I, I, I, I] (by kernel_rfl) fun kap_2222 D_2223 => ?_
       refine SD.takes tk D_2223 [] kn0 [0, 1, 2, 3, 7] [] [] [I, I, I, I, O, O, O, I, O, O, O, O, O, O, O] [(59, vp 0 0), (60, vp 0 0), (61, .g (C_api_Channel x_2221.1 (.s 11) (.s 12))), (62, vp 0 0), (66, vs 13)] rfl (by kernel_rfl) (by kernel_rfl) (by kernel_rfl) ?_
       refine SD.all1 (i := 4) (by kernel_rfl) ?_
       refine SW.eff D_2223 (i := 4) (v := vp 0 0) (bs' := [I, I, I, I, I, O, O, I, O, O, O, O, O, O, O]) rfl (.inl rfl) rfl (e_val tk (by kernel_rfl)) (by kernel_rfl) rfl (by kernel_rfl) ?_
       refine SD.all1 (i := 5) (by kernel_rfl) ?_
       refine SW.eff D_2223 (i := 5) (v := vp 0 30) (bs' := [I, I, I, I, I, I, O, I, O, O, O, O, O, O, O]) rfl (.inl rfl) rfl (e_val tk (by kernel_rfl)) (by kernel_rfl) rfl (by kernel_rfl) ?_
       refine SD.norm (itsN := [.blk 53 (C_wirelesslaw33_wire w_1 (.s 1) (.s 2) (.s 3) (.s 4) (.s 5) (.s 6) (.s 7) (.s 8)), .rd 1 (RSl 1 R8) w_1.a.Out, .rd 1 R8 w_1.a.In, .rd 1 (RSl 1 R8) w_1.b.Out, .rd 1 R8 w_1.b.In, .own 1 24 (RSl 1 R8) w_1.frames, .own 1 3 (RInt .i64) w_1.credits, .own 1 24 (RSl 1 R8) w_1.queued, .own 1 24 (RSl 1 R8) w_1.got, .rd 1 R8 x_2.SDU, .blk 49 (C_wirelesslaw33_Step x_2 (.s 9)), .rd 1 (RSl 1 R8) x_2221.1.Out, .rd 1 R8 x_2221.1.In, .rd 1 (RSl 1 R8) x_2221.2, .blk 26 (C_api_Channel x_2221.1 (.s 11) (.s 12))]) (by kernel_rfl) ?_
       refine SD.all1 (i := 6) (by kernel_rfl) ?_
       refine SW.eff D_2223 (i := 6) (v := vs 5) (bs' := [I, I, I, I, I, I, I, I, O, O, O, O, O, O, O]) rfl (.inl rfl) rfl (e_val tk (by kernel_rfl)) (by kernel_rfl) rfl (by kernel_rfl) ?_
       obtain ⟨l_2224, e_l_2224, hp⟩ := bind_inv hp
       refine SD.all1 (i := 8) (by kernel_rfl) ?_
       refine SW.eff D_2223 (i := 8) (bs' := [I, I, I, I, I, I, I, I, I, O, O, O, O, O, O]) rfl (.inl rfl) rfl (e_app (i := 5) (l := w_1.frames) (sz := 1) (E := 24) (R := (RSl 1 R8)) (by_ := 24) (m := x_2221.2) tk rfl (by kernel_rfl) rfl (.r (by kernel_rfl)) e_l_2224 (by kernel_rfl)) (by kernel_rfl) rfl (by kernel_rfl) ?_
       refine SD.norm (itsN := [.blk 53 [ci .u16 w_1.a.Local, ci .u16 w_1.a.Remote, ci .u16 w_1.a.PSM, ci .i64 w_1.a.MTU, ci .i64 w_1.a.MPS, ci .i64 w_1.a.PeerMTU, ci .i64 w_1.a.PeerMPS, ci .i64 w_1.a.TxCredits, ci .i64 w_1.a.RxCredits, ci .i64 w_1.a.Given, .s 1, ci .i64 w_1.a.Sent, .s 2, ci .i64 w_1.a.Want, cb w_1.a.Failed, ci .u16 w_1.b.Local, ci .u16 w_1.b.Remote, ci .u16 w_1.b.PSM, ci .i64 w_1.b.MTU, ci .i64 w_1.b.MPS, ci .i64 w_1.b.PeerMTU, ci .i64 w_1.b.PeerMPS, ci .i64 w_1.b.TxCredits, ci .i64 w_1.b.RxCredits, ci .i64 w_1.b.Given, .s 3, ci .i64 w_1.b.Sent, .s 4, ci .i64 w_1.b.Want, cb w_1.b.Failed, .s 5, .s 6, .s 7, .s 8, cb w_1.bad], .rd 1 (RSl 1 R8) w_1.a.Out, .rd 1 R8 w_1.a.In, .rd 1 (RSl 1 R8) w_1.b.Out, .rd 1 R8 w_1.b.In, .gone, .own 1 3 (RInt .i64) w_1.credits, .own 1 24 (RSl 1 R8) w_1.queued, .own 1 24 (RSl 1 R8) w_1.got, .rd 1 R8 x_2.SDU, .blk 49 (C_wirelesslaw33_Step x_2 (.s 9)), .rd 1 (RSl 1 R8) x_2221.1.Out, .rd 1 R8 x_2221.1.In, .rd 1 (RSl 1 R8) x_2221.2, .blk 26 (C_api_Channel x_2221.1 (.s 11) (.s 12)), .own 1 24 (RSl 1 R8) l_2224]) (by kernel_rfl) ?_
       refine SD.all1 (i := 9) (by kernel_rfl) ?_
       refine SW.eff D_2223 (i := 9) (v := vp 0 0) (bs' := [I, I, I, I, I, I, I, I, I, I, O, O, O, O, O]) rfl (.inl rfl) rfl (e_val tk (by kernel_rfl)) (by kernel_rfl) rfl (by kernel_rfl) ?_
       refine SD.all1 (i := 10) (by kernel_rfl) ?_
       refine SW.eff D_2223 (i := 10) (v := vp 0 0) (bs' := [I, I, I, I, I, I, I, I, I, I, I, O, O, O, O]) rfl (.inl rfl) rfl (e_val tk (by kernel_rfl)) (by kernel_rfl) rfl (by kernel_rfl) ?_
       refine SD.norm (itsN := [.blk 53 [ci .u16 w_1.a.Local, ci .u16 w_1.a.Remote, ci .u16 w_1.a.PSM, ci .i64 w_1.a.MTU, ci .i64 w_1.a.MPS, ci .i64 w_1.a.PeerMTU, ci .i64 w_1.a.PeerMPS, ci .i64 w_1.a.TxCredits, ci .i64 w_1.a.RxCredits, ci .i64 w_1.a.Given, .s 1, ci .i64 w_1.a.Sent, .s 2, ci .i64 w_1.a.Want, cb w_1.a.Failed, ci .u16 w_1.b.Local, ci .u16 w_1.b.Remote, ci .u16 w_1.b.PSM, ci .i64 w_1.b.MTU, ci .i64 w_1.b.MPS, ci .i64 w_1.b.PeerMTU, ci .i64 w_1.b.PeerMPS, ci .i64 w_1.b.TxCredits, ci .i64 w_1.b.RxCredits, ci .i64 w_1.b.Given, .s 3, ci .i64 w_1.b.Sent, .s 4, ci .i64 w_1.b.Want, cb w_1.b.Failed, .s 5, .s 6, .s 7, .s 8, cb w_1.bad], .rd 1 (RSl 1 R8) w_1.a.Out, .rd 1 R8 w_1.a.In, .rd 1 (RSl 1 R8) w_1.b.Out, .rd 1 R8 w_1.b.In, .gone, .own 1 3 (RInt .i64) w_1.credits, .own 1 24 (RSl 1 R8) w_1.queued, .own 1 24 (RSl 1 R8) w_1.got, .rd 1 R8 x_2.SDU, .blk 49 (C_wirelesslaw33_Step x_2 (.s 9)), .rd 1 (RSl 1 R8) x_2221.1.Out, .rd 1 R8 x_2221.1.In, .rd 1 (RSl 1 R8) x_2221.2, .blk 26 (C_api_Channel x_2221.1 (.s 11) (.s 12)), .own 1 24 (RSl 1 R8) l_2224]) (by kernel_rfl) ?_
       refine SD.all1 (i := 11) (by kernel_rfl) ?_
       refine SW.store D_2223 tk (i := 11) (q := 0) (T := 53) (cs := [ci .u16 x_2221.1.Local, ci .u16 x_2221.1.Remote, ci .u16 x_2221.1.PSM, ci .i64 x_2221.1.MTU, ci .i64 x_2221.1.MPS, ci .i64 x_2221.1.PeerMTU, ci .i64 x_2221.1.PeerMPS, ci .i64 x_2221.1.TxCredits, ci .i64 x_2221.1.RxCredits, ci .i64 x_2221.1.Given, .s 11, ci .i64 x_2221.1.Sent, .s 12, ci .i64 x_2221.1.Want, cb x_2221.1.Failed, ci .u16 w_1.b.Local, ci .u16 w_1.b.Remote, ci .u16 w_1.b.PSM, ci .i64 w_1.b.MTU, ci .i64 w_1.b.MPS, ci .i64 w_1.b.PeerMTU, ci .i64 w_1.b.PeerMPS, ci .i64 w_1.b.TxCredits, ci .i64 w_1.b.RxCredits, ci .i64 w_1.b.Given, .s 3, ci .i64 w_1.b.Sent, .s 4, ci .i64 w_1.b.Want, cb w_1.b.Failed, .s 5, .s 6, .s 7, .s 8, cb w_1.bad]) (bs' := [I, I, I, I, I, I, I, I, I, I, I, I, O, O, O]) rfl (by kernel_rfl) rfl rfl (by kernel_rfl) ?_
       refine SD.all1 (i := 12) (by kernel_rfl) ?_
       refine SW.eff D_2223 (i := 12) (v := vp 0 0) (bs' := [I, I, I, I, I, I, I, I, I, I, I, I, I, O, O]) rfl (.inl rfl) rfl (e_val tk (by kernel_rfl)) (by kernel_rfl) rfl (by kernel_rfl) ?_
       refine SD.norm (itsN := [.blk 53 [ci .u16 x_2221.1.Local, ci .u16 x_2221.1.Remote, ci .u16 x_2221.1.PSM, ci .i64 x_2221.1.MTU, ci .i64 x_2221.1.MPS, ci .i64 x_2221.1.PeerMTU, ci .i64 x_2221.1.PeerMPS, ci .i64 x_2221.1.TxCredits, ci .i64 x_2221.1.RxCredits, ci .i64 x_2221.1.Given, .s 11, ci .i64 x_2221.1.Sent, .s 12, ci .i64 x_2221.1.Want, cb x_2221.1.Failed, ci .u16 w_1.b.Local, ci .u16 w_1.b.Remote, ci .u16 w_1.b.PSM, ci .i64 w_1.b.MTU, ci .i64 w_1.b.MPS, ci .i64 w_1.b.PeerMTU, ci .i64 w_1.b.PeerMPS, ci .i64 w_1.b.TxCredits, ci .i64 w_1.b.RxCredits, ci .i64 w_1.b.Given, .s 3, ci .i64 w_1.b.Sent, .s 4, ci .i64 w_1.b.Want, cb w_1.b.Failed, .s 5, .s 6, .s 7, .s 8, cb w_1.bad], .rd 1 (RSl 1 R8) w_1.a.Out, .rd 1 R8 w_1.a.In, .rd 1 (RSl 1 R8) w_1.b.Out, .rd 1 R8 w_1.b.In, .gone, .own 1 3 (RInt .i64) w_1.credits, .own 1 24 (RSl 1 R8) w_1.queued, .own 1 24 (RSl 1 R8) w_1.got, .rd 1 R8 x_2.SDU, .blk 49 (C_wirelesslaw33_Step x_2 (.s 9)), .rd 1 (RSl 1 R8) x_2221.1.Out, .rd 1 R8 x_2221.1.In, .rd 1 (RSl 1 R8) x_2221.2, .blk 26 (C_api_Channel x_2221.1 (.s 11) (.s 12)), .own 1 24 (RSl 1 R8) l_2224]) (by kernel_rfl) ?_
       refine SD.all1 (i := 13) (by kernel_rfl) ?_
       refine SW.eff D_2223 (i := 13) (v := vp 0 30) (bs' := [I, I, I, I, I, I, I, I, I, I, I, I, I, I, O]) rfl (.inl rfl) rfl (e_val tk (by kernel_rfl)) (by kernel_rfl) rfl (by kernel_rfl) ?_
       refine SD.all1 (i := 14) (by kernel_rfl) ?_
       refine SW.store D_2223 tk (i := 14) (q := 0) (T := 53) (cs := (C_wirelesslaw33_wire ({ w_1 with a := x_2221.1, frames := l_2224 }) (.s 11) (.s 12) (.s 3) (.s 4) (.s 15) (.s 6) (.s 7) (.s 8))) (bs' := [I, I, I, I, I, I, I, I, I, I, I, I, I, I, I]) rfl (by kernel_rfl) rfl rfl (by kernel_rfl) ?_
       refine SD.norm (itsN := [.blk 53 (C_wirelesslaw33_wire ({ w_1 with a := x_2221.1, frames := l_2224 }) (.s 11) (.s 12) (.s 3) (.s 4) (.s 15) (.s 6) (.s 7) (.s 8)), .rd 1 (RSl 1 R8) w_1.a.Out, .rd 1 R8 w_1.a.In, .rd 1 (RSl 1 R8) w_1.b.Out, .rd 1 R8 w_1.b.In, .gone, .own 1 3 (RInt .i64) w_1.credits, .own 1 24 (RSl 1 R8) w_1.queued, .own 1 24 (RSl 1 R8) w_1.got, .rd 1 R8 x_2.SDU, .blk 49 (C_wirelesslaw33_Step x_2 (.s 9)), .rd 1 (RSl 1 R8) x_2221.1.Out, .rd 1 R8 x_2221.1.In, .rd 1 (RSl 1 R8) x_2221.2, .blk 26 (C_api_Channel x_2221.1 (.s 11) (.s 12)), .own 1 24 (RSl 1 R8) l_2224]) (by kernel_rfl) ?_
       refine SD.done (by kernel_rfl) fun a w h => ?_
       exact ⟨{ w_1 with a := x_2221.1, frames := l_2224 }, hp, h.at (js := [.g 0, .g 1, .g 2, .g 3, .g 4, .g 5, .g 6, .g 7, .g 8, .g 9, .g 11, .g 12, .g 3, .g 4, .g 15, .g 6, .g 7, .g 8]) (by kernel_rfl)⟩
     · refine SC.r tk [(0, vp 0 0), (3, vp 10 0), (19, vi .u8 (remp x_2.Kind 5)), (72, vb ((remp x_2.Kind 5) == 2))] [] [] [] (by kernel_rfl) ?_
       refine SC.if' rfl hp (fun hp => ?_) (fun hp => ?_)
       · refine SC.r tk [(0, vp 0 0), (3, vp 10 0), (8, vi .i64 0)] [] [] [] (by kernel_rfl) ?_
         refine SC.block ?_
         obtain ⟨o1, hi1, ho1⟩ := bind_inv hp
         clear hp
         refine SC.loop (fun n a w => ∃ (c_2243 : T_wirelesslaw33_wire) (x_2244 : Int), iter (fun s => wirelesslaw33_wire_step_l1 F w_1 x_2 s.1 s.2) n (c_2243, x_2244) = some o1 ∧ A 223 10 fx [(0, vp 0 0), (3, vp 14 0), (8, vi .i64 x_2244)] [.blk 53 (C_wirelesslaw33_wire ({ c_2243 with a := w_1.a, credits := w_1.credits, queued := w_1.queued }) (.s 1) (.s 2) (.s 10) (.s 11) (.s 12) (.s 6) (.s 7) (.s 13)), .rd 1 (RSl 1 R8) w_1.a.Out, .rd 1 R8 w_1.a.In, .gone, .gone, .gone, .own 1 3 (RInt .i64) w_1.credits, .own 1 24 (RSl 1 R8) w_1.queued, .gone, .rd 1 R8 x_2.SDU, .rd 1 (RSl 1 R8) c_2243.b.Out, .rd 1 R8 c_2243.b.In, .own 1 24 (RSl 1 R8) c_2243.frames, .own 1 24 (RSl 1 R8) c_2243.got, .blk 49 (C_wirelesslaw33_Step x_2 (.s 9))] a w) F (fun a w h => ⟨w_1, 0, hi1, h.at (js := [.g 0, .g 1, .g 2, .g 3, .g 4, .g 5, .g 6, .g 7, .g 8, .g 9, .g 3, .g 4, .g 5, .g 8, .g 10]) (by kernel_rfl)⟩) ?_
         rintro n1 a w ⟨c_2243, x_2244, hi1, h⟩
         obtain ⟨n1, q1, rfl, hp, hs1⟩ := iter_inv hi1
         replace hp : wirelesslaw33_wire_step_l1 F w_1 x_2 c_2243 x_2244 = some q1 := hp
         clear hi1
         refine h.go ?_
         refine SC.seq ?_
         refine SC.r tk [(0, vp 0 0), (3, vp 14 0), (8, vi .i64 x_2244), (93, vb (((decide (x_2244 < (w64 x_2.N))) && (decide ((len c_2243.frames) > 0))) && (!c_2243.bad)))] [] [] [] (by kernel_rfl) ?_
         refine SC.if' rfl hp (fun hp => ?_) (fun hp => ?_)
         · refine SC.skipThen ?_
           refine SC.seq ?_
           refine SC.block ?_
           refine SC.cut (fun a w => ∃ (c_2260 : T_api_Channel) (l_2261 : (List (List Int))) (x_2262 : Int), wirelesslaw33_wire_step_j4 F w_1 c_2243 x_2244 c_2260 l_2261 x_2262 = some q1 ∧ A 223 10 fx [(0, vp 0 0), (3, vp 14 0), (8, vi .i64 x_2244), (9, vp 15 0), (10, vs 18), (11, vi .i64 x_2262)] [.blk 53 (C_wirelesslaw33_wire ({ c_2243 with a := w_1.a, credits := w_1.credits, queued := w_1.queued }) (.s 1) (.s 2) (.s 10) (.s 11) (.s 12) (.s 6) (.s 7) (.s 13)), .rd 1 (RSl 1 R8) w_1.a.Out, .rd 1 R8 w_1.a.In, .gone, .gone, .gone, .own 1 3 (RInt .i64) w_1.credits, .own 1 24 (RSl 1 R8) w_1.queued, .gone, .rd 1 R8 x_2.SDU, .rd 1 (RSl 1 R8) c_2243.b.Out, .rd 1 R8 c_2243.b.In, .own 1 24 (RSl 1 R8) c_2243.frames, .own 1 24 (RSl 1 R8) c_2243.got, .blk 49 (C_wirelesslaw33_Step x_2 (.s 9)), .blk 26 (C_api_Channel c_2260 (.s 16) (.s 17)), .rd 1 (RSl 1 R8) c_2260.Out, .rd 1 R8 c_2260.In, .rd 1 (RSl 1 R8) l_2261] a w) ?_ ?_
           · refine SC.draw MO [I, I, I, O, O, O, I, I, O, I, I, I, I, I, I] (by kernel_rfl) fun kap_3467 D_3468 => ?_
             refine SD.takes tk D_3468 [] kn0 [0, 1, 2, 3, 4, 5, 6, 7] [] [] [I, I, I, I, I, I, I, I, O, O, O, O, O, O, O, O, O, O, O] [(0, vp 0 0), (3, vp 14 0), (8, vi .i64 x_2244), (100, .g (C_api_Channel c_2243.b (.s 10) (.s 11))), (104, vs 12)] rfl (by kernel_rfl) (by kernel_rfl) (by kernel_rfl) ?_
             obtain ⟨x_4109, e_x_4109, hp⟩ := bind_inv hp
             obtain ⟨x_4189, e_x_4189, hp⟩ := bind_inv hp
             obtain ⟨x_4269, e_x_4269, hp⟩ := bind_inv hp
             refine SD.lay 0 [I, I, I, I, I, I, I, I, I, I, I, I, I, I, I, I, I, I, I] [(0, vp 0 0), (3, vp 14 0), (8, vi .i64 x_2244), (9, vp 20 0), (10, vs 19), (11, vi .i64 x_4269.2.2)] [.blk 53 (C_wirelesslaw33_wire ({ c_2243 with a := w_1.a, credits := w_1.credits, queued := w_1.queued }) (.s 1) (.s 2) (.s 10) (.s 11) (.s 12) (.s 6) (.s 7) (.s 13)), .rd 1 (RSl 1 R8) w_1.a.Out, .rd 1 R8 w_1.a.In, .gone, .gone, .gone, .own 1 3 (RInt .i64) w_1.credits, .own 1 24 (RSl 1 R8) w_1.queued, .gone, .rd 1 R8 x_2.SDU, .rd 1 (RSl 1 R8) c_2243.b.Out, .rd 1 R8 c_2243.b.In, .own 1 24 (RSl 1 R8) c_2243.frames, .own 1 24 (RSl 1 R8) c_2243.got, .blk 49 (C_wirelesslaw33_Step x_2 (.s 9)), .gone, .gone, .rd 1 (RSl 1 R8) x_4269.1.Out, .rd 1 R8 x_4269.1.In, .rd 1 (RSl 1 R8) x_4269.2.1, .blk 26 (C_api_Channel x_4269.1 (.s 17) (.s 18))] ?_ (fun c_3468_0 => ?_)
             · refine SD.done (by kernel_rfl) fun a w h => ?_
               exact ⟨x_4269.1, x_4269.2.1, x_4269.2.2, hp, h.at (js := [.g 0, .g 1, .g 2, .g 3, .g 4, .g 5, .g 6, .g 7, .g 8, .g 9, .g 10, .g 11, .g 12, .g 13, .g 14, .g 20, .g 17, .g 18, .g 19]) (by kernel_rfl)⟩
             · refine SD.lay 3 [I, I, I, I, I, I, I, I, I, I, I, I, I, I, I, I, O, O, O] [(0, vp 0 0), (3, vp 14 0), (8, vi .i64 x_2244), (9, vp 20 0), (108, .g (C_api_Channel x_4269.1 (.s 17) (.s 18))), (109, vs 19), (110, vi .i64 x_4269.2.2)] [.blk 53 (C_wirelesslaw33_wire ({ c_2243 with a := w_1.a, credits := w_1.credits, queued := w_1.queued }) (.s 1) (.s 2) (.s 10) (.s 11) (.s 12) (.s 6) (.s 7) (.s 13)), .rd 1 (RSl 1 R8) w_1.a.Out, .rd 1 R8 w_1.a.In, .gone, .gone, .gone, .own 1 3 (RInt .i64) w_1.credits, .own 1 24 (RSl 1 R8) w_1.queued, .gone, .rd 1 R8 x_2.SDU, .rd 1 (RSl 1 R8) c_2243.b.Out, .rd 1 R8 c_2243.b.In, .own 1 24 (RSl 1 R8) c_2243.frames, .own 1 24 (RSl 1 R8) c_2243.got, .blk 49 (C_wirelesslaw33_Step x_2 (.s 9)), .gone, .gone, .rd 1 (RSl 1 R8) x_4269.1.Out, .rd 1 R8 x_4269.1.In, .rd 1 (RSl 1 R8) x_4269.2.1, .blk 26 (C_api_Channel (T_api_Channel.mk 0 0 0 0 0 0 0 0 0 0 [] 0 [] 0 false) nl nl)] ?_ (fun c_3468_1 => ?_)
               · refine SD.all1 (i := 16) (by kernel_rfl) ?_
                 refine SW.store D_3468 tk (i := 16) (q := 20) (T := 26) (cs := (C_api_Channel x_4269.1 (.s 17) (.s 18))) (bs' := [I, I, I, I, I, I, I, I, I, I, I, I, I, I, I, I, I, O, O]) rfl (by kernel_rfl) rfl rfl (by kernel_rfl) ?_
                 refine SD.takes tk D_3468 [] kn0 [17, 18] [] [] [I, I, I, I, I, I, I, I, I, I, I, I, I, I, I, I, I, I, I] [(0, vp 0 0), (3, vp 14 0), (8, vi .i64 x_2244), (9, vp 20 0), (10, vs 19), (11, vi .i64 x_4269.2.2)] rfl (by kernel_rfl) (by kernel_rfl) (by kernel_rfl) ?_
                 exact SD.vie D_3468 [.g 0, .g 1, .g 2, .g 3, .g 4, .g 5, .g 6, .g 7, .g 8, .g 9, .g 10, .g 11, .g 12, .g 13, .g 14, .n, .n, .g 17, .g 18, .g 19, .g 20] c_3468_0 (by kernel_rfl)
               · refine SD.lay 4 [I, I, I, I, I, I, I, I, I, I, I, I, I, I, I, O, O, O, O] [(0, vp 0 0), (3, vp 14 0), (8, vi .i64 x_2244), (108, .g (C_api_Channel x_4269.1 (.s 17) (.s 18))), (109, vs 19), (110, vi .i64 x_4269.2.2)] [.blk 53 (C_wirelesslaw33_wire ({ c_2243 with a := w_1.a, credits := w_1.credits, queued := w_1.queued }) (.s 1) (.s 2) (.s 10) (.s 11) (.s 12) (.s 6) (.s 7) (.s 13)), .rd 1 (RSl 1 R8) w_1.a.Out, .rd 1 R8 w_1.a.In, .gone, .gone, .gone, .own 1 3 (RInt .i64) w_1.credits, .own 1 24 (RSl 1 R8) w_1.queued, .gone, .rd 1 R8 x_2.SDU, .rd 1 (RSl 1 R8) c_2243.b.Out, .rd 1 R8 c_2243.b.In, .own 1 24 (RSl 1 R8) c_2243.frames, .own 1 24 (RSl 1 R8) c_2243.got, .blk 49 (C_wirelesslaw33_Step x_2 (.s 9)), .gone, .gone, .rd 1 (RSl 1 R8) x_4269.1.Out, .rd 1 R8 x_4269.1.In, .rd 1 (RSl 1 R8) x_4269.2.1] ?_ (fun c_3468_2 => ?_)
                 · refine SD.all1 (i := 15) (by kernel_rfl) ?_
                   refine SW.eff D_3468 (i := 15) (bs' := [I, I, I, I, I, I, I, I, I, I, I, I, I, I, I, I, O, O, O]) rfl (.inl rfl) rfl (e_alloc (E := 26) tk (C_api_Channel (T_api_Channel.mk 0 0 0 0 0 0 0 0 0 0 [] 0 [] 0 false) nl nl) (by kernel_rfl)) (by kernel_rfl) rfl (by kernel_rfl) ?_
                   exact SD.vie D_3468 [.g 0, .g 1, .g 2, .g 3, .g 4, .g 5, .g 6, .g 7, .g 8, .g 9, .g 10, .g 11, .g 12, .g 13, .g 14, .n, .n, .g 17, .g 18, .g 19, .g 20] c_3468_1 (by kernel_rfl)
                 · refine SD.lay 8 [I, I, I, I, I, I, I, I, I, I, O, O, O, O, O, I, O, O, O] [(0, vp 0 0), (3, vp 14 0), (8, vi .i64 x_2244), (9, vp 17 0), (100, .g (C_api_Channel c_2243.b (.s 10) (.s 11))), (106, vs 16)] [.blk 53 (C_wirelesslaw33_wire ({ c_2243 with a := w_1.a, credits := w_1.credits, queued := w_1.queued }) (.s 1) (.s 2) (.s 10) (.s 11) (.s 12) (.s 6) (.s 7) (.s 13)), .rd 1 (RSl 1 R8) w_1.a.Out, .rd 1 R8 w_1.a.In, .gone, .gone, .gone, .own 1 3 (RInt .i64) w_1.credits, .own 1 24 (RSl 1 R8) w_1.queued, .gone, .rd 1 R8 x_2.SDU, .rd 1 (RSl 1 R8) c_2243.b.Out, .rd 1 R8 c_2243.b.In, .own 1 24 (RSl 1 R8) c_2243.frames, .own 1 24 (RSl 1 R8) c_2243.got, .blk 49 (C_wirelesslaw33_Step x_2 (.s 9)), .gone, .rd 1 R8 x_4189, .blk 26 (C_api_Channel (T_api_Channel.mk 0 0 0 0 0 0 0 0 0 0 [] 0 [] 0 false) nl nl)] ?_ (fun c_3468_3 => ?_)
                   · refine SD.all1 (i := 10) (by kernel_rfl) ?_
                     refine SW.eff D_3468 (i := 10) (bs' := [I, I, I, I, I, I, I, I, I, I, I, O, O, O, O, I, O, O, O]) rfl (.inl rfl) rfl (e_c Try.call16 (ok_sdu_Input F c_2243.b x_4189 _ e_x_4269) [.g 10, .g 11, .g 16] [.g (C_api_Channel c_2243.b (.s 10) (.s 11)), vs 16] (.u [.inr (C_api_Channel x_4269.1 (.s 18) (.s 19)), .inl (.s 20), .inl (ci .i64 x_4269.2.2)]) (by kernel_rfl) (.inl rfl)) (by kernel_rfl) rfl (by kernel_rfl) ?_
                     refine SD.takes tk D_3468 [] kn0 [11, 12, 13, 14] [] [] [I, I, I, I, I, I, I, I, I, I, I, I, I, I, I, I, O, O, O] [(0, vp 0 0), (3, vp 14 0), (8, vi .i64 x_2244), (9, vp 17 0), (108, .g (C_api_Channel x_4269.1 (.s 18) (.s 19))), (109, vs 20), (110, vi .i64 x_4269.2.2)] rfl (by kernel_rfl) (by kernel_rfl) (by kernel_rfl) ?_
                     exact SD.vie D_3468 [.g 0, .g 1, .g 2, .g 3, .g 4, .g 5, .g 6, .g 7, .g 8, .g 9, .g 10, .g 11, .g 12, .g 13, .g 14, .n, .n, .g 18, .g 19, .g 20, .g 17] c_3468_1 (by kernel_rfl)
                   · refine SD.lay 9 [I, I, I, I, I, I, I, I, I, I, O, O, O, O, O, O, O, O, O] [(0, vp 0 0), (3, vp 14 0), (8, vi .i64 x_2244), (100, .g (C_api_Channel c_2243.b (.s 10) (.s 11))), (106, vs 16)] [.blk 53 (C_wirelesslaw33_wire ({ c_2243 with a := w_1.a, credits := w_1.credits, queued := w_1.queued }) (.s 1) (.s 2) (.s 10) (.s 11) (.s 12) (.s 6) (.s 7) (.s 13)), .rd 1 (RSl 1 R8) w_1.a.Out, .rd 1 R8 w_1.a.In, .gone, .gone, .gone, .own 1 3 (RInt .i64) w_1.credits, .own 1 24 (RSl 1 R8) w_1.queued, .gone, .rd 1 R8 x_2.SDU, .rd 1 (RSl 1 R8) c_2243.b.Out, .rd 1 R8 c_2243.b.In, .own 1 24 (RSl 1 R8) c_2243.frames, .own 1 24 (RSl 1 R8) c_2243.got, .blk 49 (C_wirelesslaw33_Step x_2 (.s 9)), .gone, .rd 1 R8 x_4189] ?_ (fun c_3468_4 => ?_)
                     · refine SD.all2 (i := 10) (j := 15) (by kernel_rfl) ?_ ?_
                       · refine SW.eff D_3468 (i := 10) (bs' := [I, I, I, I, I, I, I, I, I, I, I, O, O, O, O, O, O, O, O]) rfl (.inl rfl) rfl (e_c Try.call16 (ok_sdu_Input F c_2243.b x_4189 _ e_x_4269) [.g 10, .g 11, .g 16] [.g (C_api_Channel c_2243.b (.s 10) (.s 11)), vs 16] (.u [.inr (C_api_Channel x_4269.1 (.s 17) (.s 18)), .inl (.s 19), .inl (ci .i64 x_4269.2.2)]) (by kernel_rfl) (.inl rfl)) (by kernel_rfl) rfl (by kernel_rfl) ?_
                         refine SD.takes tk D_3468 [] kn0 [11, 12, 13, 14] [] [] [I, I, I, I, I, I, I, I, I, I, I, I, I, I, I, O, O, O, O] [(0, vp 0 0), (3, vp 14 0), (8, vi .i64 x_2244), (108, .g (C_api_Channel x_4269.1 (.s 17) (.s 18))), (109, vs 19), (110, vi .i64 x_4269.2.2)] rfl (by kernel_rfl) (by kernel_rfl) (by kernel_rfl) ?_
                         exact SD.vie D_3468 [.g 0, .g 1, .g 2, .g 3, .g 4, .g 5, .g 6, .g 7, .g 8, .g 9, .g 10, .g 11, .g 12, .g 13, .g 14, .n, .n, .g 17, .g 18, .g 19] c_3468_2 (by kernel_rfl)
                       · refine SW.eff D_3468 (i := 15) (bs' := [I, I, I, I, I, I, I, I, I, I, O, O, O, O, O, I, O, O, O]) rfl (.inl rfl) rfl (e_alloc (E := 26) tk (C_api_Channel (T_api_Channel.mk 0 0 0 0 0 0 0 0 0 0 [] 0 [] 0 false) nl nl) (by kernel_rfl)) (by kernel_rfl) rfl (by kernel_rfl) ?_
                         exact SD.vie D_3468 [.g 0, .g 1, .g 2, .g 3, .g 4, .g 5, .g 6, .g 7, .g 8, .g 9, .g 10, .g 11, .g 12, .g 13, .g 14, .n, .g 16, .g 17] c_3468_3 (by kernel_rfl)
                     · refine SD.lay 9 [I, I, I, I, I, I, I, I, I, O, O, O, O, O, O, I, O, O, O] [(0, vp 0 0), (3, vp 14 0), (8, vi .i64 x_2244), (9, vp 15 0), (100, .g (C_api_Channel c_2243.b (.s 10) (.s 11))), (105, vp 12 ((0 : Int).toNat * 1))] [.blk 53 (C_wirelesslaw33_wire ({ c_2243 with a := w_1.a, credits := w_1.credits, queued := w_1.queued }) (.s 1) (.s 2) (.s 10) (.s 11) (.s 12) (.s 6) (.s 7) (.s 13)), .rd 1 (RSl 1 R8) w_1.a.Out, .rd 1 R8 w_1.a.In, .gone, .gone, .gone, .own 1 3 (RInt .i64) w_1.credits, .own 1 24 (RSl 1 R8) w_1.queued, .gone, .rd 1 R8 x_2.SDU, .rd 1 (RSl 1 R8) c_2243.b.Out, .rd 1 R8 c_2243.b.In, .own 1 24 (RSl 1 R8) c_2243.frames, .own 1 24 (RSl 1 R8) c_2243.got, .blk 49 (C_wirelesslaw33_Step x_2 (.s 9)), .blk 26 (C_api_Channel (T_api_Channel.mk 0 0 0 0 0 0 0 0 0 0 [] 0 [] 0 false) nl nl)] ?_ (fun c_3468_5 => ?_)
                       · refine SD.all1 (i := 9) (by kernel_rfl) ?_
                         refine SW.eff D_3468 (i := 9) (bs' := [I, I, I, I, I, I, I, I, I, I, O, O, O, O, O, I, O, O, O]) rfl (.inl rfl) rfl (e_ldp1 (E := 24) (R := (RSl 1 R8)) (i := 12) (iv := 0) (l := c_2243.frames) tk rfl rfl e_x_4189 rfl (by kernel_rfl) (by kernel_rfl) rfl) (by kernel_rfl) rfl (by kernel_rfl) ?_
                         exact SD.vie D_3468 [.g 0, .g 1, .g 2, .g 3, .g 4, .g 5, .g 6, .g 7, .g 8, .g 9, .g 10, .g 11, .g 12, .g 13, .g 14, .n, .g 17, .g 15] c_3468_3 (by kernel_rfl)
                       · refine SD.lay 10 [I, I, I, I, I, I, I, I, I, O, O, O, O, O, O, O, O, O, O] [(0, vp 0 0), (3, vp 14 0), (8, vi .i64 x_2244), (100, .g (C_api_Channel c_2243.b (.s 10) (.s 11))), (105, vp 12 ((0 : Int).toNat * 1))] [.blk 53 (C_wirelesslaw33_wire ({ c_2243 with a := w_1.a, credits := w_1.credits, queued := w_1.queued }) (.s 1) (.s 2) (.s 10) (.s 11) (.s 12) (.s 6) (.s 7) (.s 13)), .rd 1 (RSl 1 R8) w_1.a.Out, .rd 1 R8 w_1.a.In, .gone, .gone, .gone, .own 1 3 (RInt .i64) w_1.credits, .own 1 24 (RSl 1 R8) w_1.queued, .gone, .rd 1 R8 x_2.SDU, .rd 1 (RSl 1 R8) c_2243.b.Out, .rd 1 R8 c_2243.b.In, .own 1 24 (RSl 1 R8) c_2243.frames, .own 1 24 (RSl 1 R8) c_2243.got, .blk 49 (C_wirelesslaw33_Step x_2 (.s 9))] ?_ (fun c_3468_6 => ?_)
                         · refine SD.all2 (i := 9) (j := 15) (by kernel_rfl) ?_ ?_
                           · refine SW.eff D_3468 (i := 9) (bs' := [I, I, I, I, I, I, I, I, I, I, O, O, O, O, O, O, O, O, O]) rfl (.inl rfl) rfl (e_ldp1 (E := 24) (R := (RSl 1 R8)) (i := 12) (iv := 0) (l := c_2243.frames) tk rfl rfl e_x_4189 rfl (by kernel_rfl) (by kernel_rfl) rfl) (by kernel_rfl) rfl (by kernel_rfl) ?_
                             exact SD.vie D_3468 [.g 0, .g 1, .g 2, .g 3, .g 4, .g 5, .g 6, .g 7, .g 8, .g 9, .g 10, .g 11, .g 12, .g 13, .g 14, .n, .g 16] c_3468_4 (by kernel_rfl)
                           · refine SW.eff D_3468 (i := 15) (bs' := [I, I, I, I, I, I, I, I, I, O, O, O, O, O, O, I, O, O, O]) rfl (.inl rfl) rfl (e_alloc (E := 26) tk (C_api_Channel (T_api_Channel.mk 0 0 0 0 0 0 0 0 0 0 [] 0 [] 0 false) nl nl) (by kernel_rfl)) (by kernel_rfl) rfl (by kernel_rfl) ?_
                             exact SD.vie D_3468 [.g 0, .g 1, .g 2, .g 3, .g 4, .g 5, .g 6, .g 7, .g 8, .g 9, .g 10, .g 11, .g 12, .g 13, .g 14, .g 15] c_3468_5 (by kernel_rfl)
                         · refine SD.lay 10 [I, I, I, I, I, I, I, I, O, O, O, O, O, O, O, I, O, O, O] [(0, vp 0 0), (3, vp 14 0), (8, vi .i64 x_2244), (9, vp 15 0), (100, .g (C_api_Channel c_2243.b (.s 10) (.s 11))), (104, vs 12)] [.blk 53 (C_wirelesslaw33_wire ({ c_2243 with a := w_1.a, credits := w_1.credits, queued := w_1.queued }) (.s 1) (.s 2) (.s 10) (.s 11) (.s 12) (.s 6) (.s 7) (.s 13)), .rd 1 (RSl 1 R8) w_1.a.Out, .rd 1 R8 w_1.a.In, .gone, .gone, .gone, .own 1 3 (RInt .i64) w_1.credits, .own 1 24 (RSl 1 R8) w_1.queued, .gone, .rd 1 R8 x_2.SDU, .rd 1 (RSl 1 R8) c_2243.b.Out, .rd 1 R8 c_2243.b.In, .own 1 24 (RSl 1 R8) c_2243.frames, .own 1 24 (RSl 1 R8) c_2243.got, .blk 49 (C_wirelesslaw33_Step x_2 (.s 9)), .blk 26 (C_api_Channel (T_api_Channel.mk 0 0 0 0 0 0 0 0 0 0 [] 0 [] 0 false) nl nl)] ?_ (fun c_3468_7 => ?_)
                           · refine SD.all1 (i := 8) (by kernel_rfl) ?_
                             refine SW.eff D_3468 (i := 8) (bs' := [I, I, I, I, I, I, I, I, I, O, O, O, O, O, O, I, O, O, O]) rfl (.inl rfl) rfl (e_ixp (sz := 1) (E := 24) (R := (RSl 1 R8)) (by_ := 24) (l := c_2243.frames) tk rfl rfl rfl e_x_4109 (by kernel_rfl)) (by kernel_rfl) rfl (by kernel_rfl) ?_
                             exact SD.vie D_3468 [.g 0, .g 1, .g 2, .g 3, .g 4, .g 5, .g 6, .g 7, .g 8, .g 9, .g 10, .g 11, .g 12, .g 13, .g 14, .g 15] c_3468_5 (by kernel_rfl)
                           · refine SD.all2 (i := 8) (j := 15) (by kernel_rfl) ?_ ?_
                             · refine SW.eff D_3468 (i := 8) (bs' := [I, I, I, I, I, I, I, I, I, O, O, O, O, O, O, O, O, O, O]) rfl (.inl rfl) rfl (e_ixp (sz := 1) (E := 24) (R := (RSl 1 R8)) (by_ := 24) (l := c_2243.frames) tk rfl rfl rfl e_x_4109 (by kernel_rfl)) (by kernel_rfl) rfl (by kernel_rfl) ?_
                               exact SD.vie D_3468 [.g 0, .g 1, .g 2, .g 3, .g 4, .g 5, .g 6, .g 7, .g 8, .g 9, .g 10, .g 11, .g 12, .g 13, .g 14] c_3468_6 (by kernel_rfl)
                             · refine SW.eff D_3468 (i := 15) (bs' := [I, I, I, I, I, I, I, I, O, O, O, O, O, O, O, I, O, O, O]) rfl (.inl rfl) rfl (e_alloc (E := 26) tk (C_api_Channel (T_api_Channel.mk 0 0 0 0 0 0 0 0 0 0 [] 0 [] 0 false) nl nl) (by kernel_rfl)) (by kernel_rfl) rfl (by kernel_rfl) ?_
                               exact SD.vie D_3468 [.g 0, .g 1, .g 2, .g 3, .g 4, .g 5, .g 6, .g 7, .g 8, .g 9, .g 10, .g 11, .g 12, .g 13, .g 14, .g 15] c_3468_7 (by kernel_rfl)
           · rintro a w ⟨c_2260, l_2261, x_2262, hp, h⟩
             refine h.go ?_
             refine SC.cut (fun a w => ∃ (l_2263 : (List (List Int))), wirelesslaw33_wire_step_j5 F w_1 c_2243 x_2244 c_2260 l_2261 x_2262 l_2263 = some q1 ∧ A 223 10 fx [(0, vp 0 0), (3, vp 14 0), (8, vi .i64 x_2244), (10, vs 15), (11, vi .i64 x_2262)] [.blk 53 (C_wirelesslaw33_wire ({ w_1 with b := c_2260, frames := l_2263, got := c_2243.got, bad := c_2243.bad }) (.s 1) (.s 2) (.s 10) (.s 11) (.s 12) (.s 6) (.s 7) (.s 13)), .rd 1 (RSl 1 R8) w_1.a.Out, .rd 1 R8 w_1.a.In, .gone, .gone, .gone, .own 1 3 (RInt .i64) w_1.credits, .own 1 24 (RSl 1 R8) w_1.queued, .gone, .rd 1 R8 x_2.SDU, .rd 1 (RSl 1 R8) c_2260.Out, .rd 1 R8 c_2260.In, .own 1 24 (RSl 1 R8) l_2263, .own 1 24 (RSl 1 R8) c_2243.got, .blk 49 (C_wirelesslaw33_Step x_2 (.s 9)), .rd 1 (RSl 1 R8) l_2261] a w) ?_ ?_
             · refine SC.draw MO [O, I, I, O, O, O, I, I, O, I, I, I, O, I, I, I, I, I, I] (by kernel_rfl) fun kap_2265 D_2266 => ?_
               refine SD.takes tk D_2266 [] kn0 [0, 1, 2, 3] [] [] [I, I, I, I, O, O, O, O, O, O, O, O, O, O] [(0, vp 0 0), (3, vp 14 0), (8, vi .i64 x_2244), (10, vs 18), (11, vi .i64 x_2262), (111, vp 0 0), (112, vp 0 0), (113, .g (C_api_Channel c_2260 (.s 16) (.s 17))), (114, vp 0 0)] rfl (by kernel_rfl) (by kernel_rfl) (by kernel_rfl) ?_
               refine SD.all1 (i := 4) (by kernel_rfl) ?_
               refine SW.eff D_2266 (i := 4) (v := vp 0 0) (bs' := [I, I, I, I, I, O, O, O, O, O, O, O, O, O]) rfl (.inl rfl) rfl (e_val tk (by kernel_rfl)) (by kernel_rfl) rfl (by kernel_rfl) ?_
               refine SD.all1 (i := 5) (by kernel_rfl) ?_
               refine SW.eff D_2266 (i := 5) (v := vp 0 30) (bs' := [I, I, I, I, I, I, O, O, O, O, O, O, O, O]) rfl (.inl rfl) rfl (e_val tk (by kernel_rfl)) (by kernel_rfl) rfl (by kernel_rfl) ?_
               refine SD.norm (itsN := [.blk 53 (C_wirelesslaw33_wire ({ c_2243 with a := w_1.a, credits := w_1.credits, queued := w_1.queued }) (.s 1) (.s 2) (.s 10) (.s 11) (.s 12) (.s 6) (.s 7) (.s 13)), .rd 1 (RSl 1 R8) w_1.a.Out, .rd 1 R8 w_1.a.In, .gone, .gone, .gone, .own 1 3 (RInt .i64) w_1.credits, .own 1 24 (RSl 1 R8) w_1.queued, .gone, .rd 1 R8 x_2.SDU, .rd 1 (RSl 1 R8) c_2243.b.Out, .rd 1 R8 c_2243.b.In, .own 1 24 (RSl 1 R8) c_2243.frames, .own 1 24 (RSl 1 R8) c_2243.got, .blk 49 (C_wirelesslaw33_Step x_2 (.s 9)), .blk 26 (C_api_Channel c_2260 (.s 16) (.s 17)), .rd 1 (RSl 1 R8) c_2260.Out, .rd 1 R8 c_2260.In, .rd 1 (RSl 1 R8) l_2261]) (by kernel_rfl) ?_
               refine SD.all1 (i := 6) (by kernel_rfl) ?_
               refine SW.eff D_2266 (i := 6) (v := vs 12) (bs' := [I, I, I, I, I, I, I, O, O, O, O, O, O, O]) rfl (.inl rfl) rfl (e_val tk (by kernel_rfl)) (by kernel_rfl) rfl (by kernel_rfl) ?_
               obtain ⟨l_2827, e_l_2827, hp⟩ := bind_inv hp
               refine SD.lay 0 [I, I, I, I, I, I, I, I, I, I, I, I, I, I] [(0, vp 0 0), (3, vp 14 0), (8, vi .i64 x_2244), (10, vs 18), (11, vi .i64 x_2262)] [.blk 53 (C_wirelesslaw33_wire ({ w_1 with b := c_2260, frames := l_2827, got := c_2243.got, bad := c_2243.bad }) (.s 1) (.s 2) (.s 16) (.s 17) (.s 19) (.s 6) (.s 7) (.s 13)), .rd 1 (RSl 1 R8) w_1.a.Out, .rd 1 R8 w_1.a.In, .gone, .gone, .gone, .own 1 3 (RInt .i64) w_1.credits, .own 1 24 (RSl 1 R8) w_1.queued, .gone, .rd 1 R8 x_2.SDU, .rd 1 (RSl 1 R8) c_2243.b.Out, .rd 1 R8 c_2243.b.In, .gone, .own 1 24 (RSl 1 R8) c_2243.got, .blk 49 (C_wirelesslaw33_Step x_2 (.s 9)), .blk 26 (C_api_Channel c_2260 (.s 16) (.s 17)), .rd 1 (RSl 1 R8) c_2260.Out, .rd 1 R8 c_2260.In, .rd 1 (RSl 1 R8) l_2261, .own 1 24 (RSl 1 R8) l_2827] ?_ (fun c_2266_0 => ?_)
               · refine SD.done (by kernel_rfl) fun a w h => ?_
                 exact ⟨l_2827, hp, h.at (js := [.g 0, .g 1, .g 2, .g 3, .g 4, .g 5, .g 6, .g 7, .g 8, .g 9, .g 16, .g 17, .g 19, .g 13, .g 14, .g 18]) (by kernel_rfl)⟩
               · refine SD.lay 1 [I, I, I, I, I, I, I, I, I, I, I, I, I, O] [(0, vp 0 0), (3, vp 14 0), (8, vi .i64 x_2244), (10, vs 18), (11, vi .i64 x_2262), (118, vs 19), (122, vp 0 30)] [.blk 53 [ci .u16 w_1.a.Local, ci .u16 w_1.a.Remote, ci .u16 w_1.a.PSM, ci .i64 w_1.a.MTU, ci .i64 w_1.a.MPS, ci .i64 w_1.a.PeerMTU, ci .i64 w_1.a.PeerMPS, ci .i64 w_1.a.TxCredits, ci .i64 w_1.a.RxCredits, ci .i64 w_1.a.Given, .s 1, ci .i64 w_1.a.Sent, .s 2, ci .i64 w_1.a.Want, cb w_1.a.Failed, ci .u16 c_2260.Local, ci .u16 c_2260.Remote, ci .u16 c_2260.PSM, ci .i64 c_2260.MTU, ci .i64 c_2260.MPS, ci .i64 c_2260.PeerMTU, ci .i64 c_2260.PeerMPS, ci .i64 c_2260.TxCredits, ci .i64 c_2260.RxCredits, ci .i64 c_2260.Given, .s 16, ci .i64 c_2260.Sent, .s 17, ci .i64 c_2260.Want, cb c_2260.Failed, .s 12, .s 6, .s 7, .s 13, cb c_2243.bad], .rd 1 (RSl 1 R8) w_1.a.Out, .rd 1 R8 w_1.a.In, .gone, .gone, .gone, .own 1 3 (RInt .i64) w_1.credits, .own 1 24 (RSl 1 R8) w_1.queued, .gone, .rd 1 R8 x_2.SDU, .rd 1 (RSl 1 R8) c_2243.b.Out, .rd 1 R8 c_2243.b.In, .gone, .own 1 24 (RSl 1 R8) c_2243.got, .blk 49 (C_wirelesslaw33_Step x_2 (.s 9)), .blk 26 (C_api_Channel c_2260 (.s 16) (.s 17)), .rd 1 (RSl 1 R8) c_2260.Out, .rd 1 R8 c_2260.In, .rd 1 (RSl 1 R8) l_2261, .own 1 24 (RSl 1 R8) l_2827] ?_ (fun c_2266_1 => ?_)
                 · refine SD.all1 (i := 13) (by kernel_rfl) ?_
                   refine SW.store D_2266 tk (i := 13) (q := 0) (T := 53) (cs := (C_wirelesslaw33_wire ({ w_1 with b := c_2260, frames := l_2827, got := c_2243.got, bad := c_2243.bad }) (.s 1) (.s 2) (.s 16) (.s 17) (.s 19) (.s 6) (.s 7) (.s 13))) (bs' := [I, I, I, I, I, I, I, I, I, I, I, I, I, I]) rfl (by kernel_rfl) rfl rfl (by kernel_rfl) ?_
                   exact SD.vie D_2266 [.g 0, .g 1, .g 2, .g 3, .g 4, .g 5, .g 6, .g 7, .g 8, .g 9, .g 10, .g 11, .g 12, .g 13, .g 14, .g 15, .g 16, .g 17, .g 18, .g 19] c_2266_0 (by kernel_rfl)
                 · refine SD.lay 2 [I, I, I, I, I, I, I, I, I, I, I, I, O, O] [(0, vp 0 0), (3, vp 14 0), (8, vi .i64 x_2244), (10, vs 18), (11, vi .i64 x_2262), (118, vs 19), (121, vp 0 0)] [.blk 53 [ci .u16 w_1.a.Local, ci .u16 w_1.a.Remote, ci .u16 w_1.a.PSM, ci .i64 w_1.a.MTU, ci .i64 w_1.a.MPS, ci .i64 w_1.a.PeerMTU, ci .i64 w_1.a.PeerMPS, ci .i64 w_1.a.TxCredits, ci .i64 w_1.a.RxCredits, ci .i64 w_1.a.Given, .s 1, ci .i64 w_1.a.Sent, .s 2, ci .i64 w_1.a.Want, cb w_1.a.Failed, ci .u16 c_2260.Local, ci .u16 c_2260.Remote, ci .u16 c_2260.PSM, ci .i64 c_2260.MTU, ci .i64 c_2260.MPS, ci .i64 c_2260.PeerMTU, ci .i64 c_2260.PeerMPS, ci .i64 c_2260.TxCredits, ci .i64 c_2260.RxCredits, ci .i64 c_2260.Given, .s 16, ci .i64 c_2260.Sent, .s 17, ci .i64 c_2260.Want, cb c_2260.Failed, .s 12, .s 6, .s 7, .s 13, cb c_2243.bad], .rd 1 (RSl 1 R8) w_1.a.Out, .rd 1 R8 w_1.a.In, .gone, .gone, .gone, .own 1 3 (RInt .i64) w_1.credits, .own 1 24 (RSl 1 R8) w_1.queued, .gone, .rd 1 R8 x_2.SDU, .rd 1 (RSl 1 R8) c_2243.b.Out, .rd 1 R8 c_2243.b.In, .gone, .own 1 24 (RSl 1 R8) c_2243.got, .blk 49 (C_wirelesslaw33_Step x_2 (.s 9)), .blk 26 (C_api_Channel c_2260 (.s 16) (.s 17)), .rd 1 (RSl 1 R8) c_2260.Out, .rd 1 R8 c_2260.In, .rd 1 (RSl 1 R8) l_2261, .own 1 24 (RSl 1 R8) l_2827] ?_ (fun c_2266_2 => ?_)
                   · refine SD.all1 (i := 12) (by kernel_rfl) ?_
                     refine SW.eff D_2266 (i := 12) (v := vp 0 30) (bs' := [I, I, I, I, I, I, I, I, I, I, I, I, I, O]) rfl (.inl rfl) rfl (e_val tk (by kernel_rfl)) (by kernel_rfl) rfl (by kernel_rfl) ?_
                     exact SD.vie D_2266 [.g 0, .g 1, .g 2, .g 3, .g 4, .g 5, .g 6, .g 7, .g 8, .g 9, .g 10, .g 11, .g 12, .g 13, .g 14, .g 15, .g 16, .g 17, .g 18, .g 19] c_2266_1 (by kernel_rfl)
                   · refine SD.lay 3 [I, I, I, I, I, I, I, I, I, I, I, O, O, O] [(0, vp 0 0), (3, vp 14 0), (8, vi .i64 x_2244), (10, vs 18), (11, vi .i64 x_2262), (112, vp 0 0), (118, vs 19)] [.blk 53 [ci .u16 w_1.a.Local, ci .u16 w_1.a.Remote, ci .u16 w_1.a.PSM, ci .i64 w_1.a.MTU, ci .i64 w_1.a.MPS, ci .i64 w_1.a.PeerMTU, ci .i64 w_1.a.PeerMPS, ci .i64 w_1.a.TxCredits, ci .i64 w_1.a.RxCredits, ci .i64 w_1.a.Given, .s 1, ci .i64 w_1.a.Sent, .s 2, ci .i64 w_1.a.Want, cb w_1.a.Failed, ci .u16 c_2260.Local, ci .u16 c_2260.Remote, ci .u16 c_2260.PSM, ci .i64 c_2260.MTU, ci .i64 c_2260.MPS, ci .i64 c_2260.PeerMTU, ci .i64 c_2260.PeerMPS, ci .i64 c_2260.TxCredits, ci .i64 c_2260.RxCredits, ci .i64 c_2260.Given, .s 16, ci .i64 c_2260.Sent, .s 17, ci .i64 c_2260.Want, cb c_2260.Failed, .s 12, .s 6, .s 7, .s 13, cb c_2243.bad], .rd 1 (RSl 1 R8) w_1.a.Out, .rd 1 R8 w_1.a.In, .gone, .gone, .gone, .own 1 3 (RInt .i64) w_1.credits, .own 1 24 (RSl 1 R8) w_1.queued, .gone, .rd 1 R8 x_2.SDU, .rd 1 (RSl 1 R8) c_2243.b.Out, .rd 1 R8 c_2243.b.In, .gone, .own 1 24 (RSl 1 R8) c_2243.got, .blk 49 (C_wirelesslaw33_Step x_2 (.s 9)), .blk 26 (C_api_Channel c_2260 (.s 16) (.s 17)), .rd 1 (RSl 1 R8) c_2260.Out, .rd 1 R8 c_2260.In, .rd 1 (RSl 1 R8) l_2261, .own 1 24 (RSl 1 R8) l_2827] ?_ (fun c_2266_3 => ?_)
                     · refine SD.all1 (i := 11) (by kernel_rfl) ?_
                       refine SW.eff D_2266 (i := 11) (v := vp 0 0) (bs' := [I, I, I, I, I, I, I, I, I, I, I, I, O, O]) rfl (.inl rfl) rfl (e_val tk (by kernel_rfl)) (by kernel_rfl) rfl (by kernel_rfl) ?_
                       exact SD.vie D_2266 [.g 0, .g 1, .g 2, .g 3, .g 4, .g 5, .g 6, .g 7, .g 8, .g 9, .g 10, .g 11, .g 12, .g 13, .g 14, .g 15, .g 16, .g 17, .g 18, .g 19] c_2266_2 (by kernel_rfl)
                     · refine SD.lay 4 [I, I, I, I, I, I, I, I, I, I, O, O, O, O] [(0, vp 0 0), (3, vp 14 0), (8, vi .i64 x_2244), (10, vs 18), (11, vi .i64 x_2262), (112, vp 0 0), (113, .g (C_api_Channel c_2260 (.s 16) (.s 17))), (118, vs 19), (120, vp 0 15)] [.blk 53 [ci .u16 w_1.a.Local, ci .u16 w_1.a.Remote, ci .u16 w_1.a.PSM, ci .i64 w_1.a.MTU, ci .i64 w_1.a.MPS, ci .i64 w_1.a.PeerMTU, ci .i64 w_1.a.PeerMPS, ci .i64 w_1.a.TxCredits, ci .i64 w_1.a.RxCredits, ci .i64 w_1.a.Given, .s 1, ci .i64 w_1.a.Sent, .s 2, ci .i64 w_1.a.Want, cb w_1.a.Failed, ci .u16 c_2243.b.Local, ci .u16 c_2243.b.Remote, ci .u16 c_2243.b.PSM, ci .i64 c_2243.b.MTU, ci .i64 c_2243.b.MPS, ci .i64 c_2243.b.PeerMTU, ci .i64 c_2243.b.PeerMPS, ci .i64 c_2243.b.TxCredits, ci .i64 c_2243.b.RxCredits, ci .i64 c_2243.b.Given, .s 10, ci .i64 c_2243.b.Sent, .s 11, ci .i64 c_2243.b.Want, cb c_2243.b.Failed, .s 12, .s 6, .s 7, .s 13, cb c_2243.bad], .rd 1 (RSl 1 R8) w_1.a.Out, .rd 1 R8 w_1.a.In, .gone, .gone, .gone, .own 1 3 (RInt .i64) w_1.credits, .own 1 24 (RSl 1 R8) w_1.queued, .gone, .rd 1 R8 x_2.SDU, .rd 1 (RSl 1 R8) c_2243.b.Out, .rd 1 R8 c_2243.b.In, .gone, .own 1 24 (RSl 1 R8) c_2243.got, .blk 49 (C_wirelesslaw33_Step x_2 (.s 9)), .blk 26 (C_api_Channel c_2260 (.s 16) (.s 17)), .rd 1 (RSl 1 R8) c_2260.Out, .rd 1 R8 c_2260.In, .rd 1 (RSl 1 R8) l_2261, .own 1 24 (RSl 1 R8) l_2827] ?_ (fun c_2266_4 => ?_)
                       · refine SD.all1 (i := 10) (by kernel_rfl) ?_
                         refine SW.store D_2266 tk (i := 10) (q := 0) (T := 53) (cs := [ci .u16 w_1.a.Local, ci .u16 w_1.a.Remote, ci .u16 w_1.a.PSM, ci .i64 w_1.a.MTU, ci .i64 w_1.a.MPS, ci .i64 w_1.a.PeerMTU, ci .i64 w_1.a.PeerMPS, ci .i64 w_1.a.TxCredits, ci .i64 w_1.a.RxCredits, ci .i64 w_1.a.Given, .s 1, ci .i64 w_1.a.Sent, .s 2, ci .i64 w_1.a.Want, cb w_1.a.Failed, ci .u16 c_2260.Local, ci .u16 c_2260.Remote, ci .u16 c_2260.PSM, ci .i64 c_2260.MTU, ci .i64 c_2260.MPS, ci .i64 c_2260.PeerMTU, ci .i64 c_2260.PeerMPS, ci .i64 c_2260.TxCredits, ci .i64 c_2260.RxCredits, ci .i64 c_2260.Given, .s 16, ci .i64 c_2260.Sent, .s 17, ci .i64 c_2260.Want, cb c_2260.Failed, .s 12, .s 6, .s 7, .s 13, cb c_2243.bad]) (bs' := [I, I, I, I, I, I, I, I, I, I, I, O, O, O]) rfl (by kernel_rfl) rfl rfl (by kernel_rfl) ?_
                         exact SD.vie D_2266 [.g 0, .g 1, .g 2, .g 3, .g 4, .g 5, .g 6, .g 7, .g 8, .g 9, .g 10, .g 11, .g 12, .g 13, .g 14, .g 15, .g 16, .g 17, .g 18, .g 19] c_2266_3 (by kernel_rfl)
                       · refine SD.lay 5 [I, I, I, I, I, I, I, I, I, O, O, O, O, O] [(0, vp 0 0), (3, vp 14 0), (8, vi .i64 x_2244), (10, vs 18), (11, vi .i64 x_2262), (112, vp 0 0), (113, .g (C_api_Channel c_2260 (.s 16) (.s 17))), (118, vs 19), (119, vp 0 0)] [.blk 53 [ci .u16 w_1.a.Local, ci .u16 w_1.a.Remote, ci .u16 w_1.a.PSM, ci .i64 w_1.a.MTU, ci .i64 w_1.a.MPS, ci .i64 w_1.a.PeerMTU, ci .i64 w_1.a.PeerMPS, ci .i64 w_1.a.TxCredits, ci .i64 w_1.a.RxCredits, ci .i64 w_1.a.Given, .s 1, ci .i64 w_1.a.Sent, .s 2, ci .i64 w_1.a.Want, cb w_1.a.Failed, ci .u16 c_2243.b.Local, ci .u16 c_2243.b.Remote, ci .u16 c_2243.b.PSM, ci .i64 c_2243.b.MTU, ci .i64 c_2243.b.MPS, ci .i64 c_2243.b.PeerMTU, ci .i64 c_2243.b.PeerMPS, ci .i64 c_2243.b.TxCredits, ci .i64 c_2243.b.RxCredits, ci .i64 c_2243.b.Given, .s 10, ci .i64 c_2243.b.Sent, .s 11, ci .i64 c_2243.b.Want, cb c_2243.b.Failed, .s 12, .s 6, .s 7, .s 13, cb c_2243.bad], .rd 1 (RSl 1 R8) w_1.a.Out, .rd 1 R8 w_1.a.In, .gone, .gone, .gone, .own 1 3 (RInt .i64) w_1.credits, .own 1 24 (RSl 1 R8) w_1.queued, .gone, .rd 1 R8 x_2.SDU, .rd 1 (RSl 1 R8) c_2243.b.Out, .rd 1 R8 c_2243.b.In, .gone, .own 1 24 (RSl 1 R8) c_2243.got, .blk 49 (C_wirelesslaw33_Step x_2 (.s 9)), .blk 26 (C_api_Channel c_2260 (.s 16) (.s 17)), .rd 1 (RSl 1 R8) c_2260.Out, .rd 1 R8 c_2260.In, .rd 1 (RSl 1 R8) l_2261, .own 1 24 (RSl 1 R8) l_2827] ?_ (fun c_2266_5 => ?_)
                         · refine SD.all1 (i := 9) (by kernel_rfl) ?_
                           refine SW.eff D_2266 (i := 9) (v := vp 0 15) (bs' := [I, I, I, I, I, I, I, I, I, I, O, O, O, O]) rfl (.inl rfl) rfl (e_val tk (by kernel_rfl)) (by kernel_rfl) rfl (by kernel_rfl) ?_
                           exact SD.vie D_2266 [.g 0, .g 1, .g 2, .g 3, .g 4, .g 5, .g 6, .g 7, .g 8, .g 9, .g 10, .g 11, .g 12, .g 13, .g 14, .g 15, .g 16, .g 17, .g 18, .g 19] c_2266_4 (by kernel_rfl)
                         · refine SD.lay 6 [I, I, I, I, I, I, I, I, O, O, O, O, O, O] [(0, vp 0 0), (3, vp 14 0), (8, vi .i64 x_2244), (10, vs 18), (11, vi .i64 x_2262), (111, vp 0 0), (112, vp 0 0), (113, .g (C_api_Channel c_2260 (.s 16) (.s 17))), (118, vs 19)] [.blk 53 [ci .u16 w_1.a.Local, ci .u16 w_1.a.Remote, ci .u16 w_1.a.PSM, ci .i64 w_1.a.MTU, ci .i64 w_1.a.MPS, ci .i64 w_1.a.PeerMTU, ci .i64 w_1.a.PeerMPS, ci .i64 w_1.a.TxCredits, ci .i64 w_1.a.RxCredits, ci .i64 w_1.a.Given, .s 1, ci .i64 w_1.a.Sent, .s 2, ci .i64 w_1.a.Want, cb w_1.a.Failed, ci .u16 c_2243.b.Local, ci .u16 c_2243.b.Remote, ci .u16 c_2243.b.PSM, ci .i64 c_2243.b.MTU, ci .i64 c_2243.b.MPS, ci .i64 c_2243.b.PeerMTU, ci .i64 c_2243.b.PeerMPS, ci .i64 c_2243.b.TxCredits, ci .i64 c_2243.b.RxCredits, ci .i64 c_2243.b.Given, .s 10, ci .i64 c_2243.b.Sent, .s 11, ci .i64 c_2243.b.Want, cb c_2243.b.Failed, .s 12, .s 6, .s 7, .s 13, cb c_2243.bad], .rd 1 (RSl 1 R8) w_1.a.Out, .rd 1 R8 w_1.a.In, .gone, .gone, .gone, .own 1 3 (RInt .i64) w_1.credits, .own 1 24 (RSl 1 R8) w_1.queued, .gone, .rd 1 R8 x_2.SDU, .rd 1 (RSl 1 R8) c_2243.b.Out, .rd 1 R8 c_2243.b.In, .gone, .own 1 24 (RSl 1 R8) c_2243.got, .blk 49 (C_wirelesslaw33_Step x_2 (.s 9)), .blk 26 (C_api_Channel c_2260 (.s 16) (.s 17)), .rd 1 (RSl 1 R8) c_2260.Out, .rd 1 R8 c_2260.In, .rd 1 (RSl 1 R8) l_2261, .own 1 24 (RSl 1 R8) l_2827] ?_ (fun c_2266_6 => ?_)
                           · refine SD.all1 (i := 8) (by kernel_rfl) ?_
                             refine SW.eff D_2266 (i := 8) (v := vp 0 0) (bs' := [I, I, I, I, I, I, I, I, I, O, O, O, O, O]) rfl (.inl rfl) rfl (e_val tk (by kernel_rfl)) (by kernel_rfl) rfl (by kernel_rfl) ?_
                             exact SD.vie D_2266 [.g 0, .g 1, .g 2, .g 3, .g 4, .g 5, .g 6, .g 7, .g 8, .g 9, .g 10, .g 11, .g 12, .g 13, .g 14, .g 15, .g 16, .g 17, .g 18, .g 19] c_2266_5 (by kernel_rfl)
                           · refine SD.lay 4 [I, I, I, I, I, I, I, O, I, I, I, O, O, O] [(0, vp 0 0), (3, vp 14 0), (8, vi .i64 x_2244), (10, vs 18), (11, vi .i64 x_2262), (112, vp 0 0), (117, vs 12)] [.blk 53 (C_wirelesslaw33_wire ({ c_2243 with a := w_1.a, b := c_2260, credits := w_1.credits, queued := w_1.queued }) (.s 1) (.s 2) (.s 16) (.s 17) (.s 12) (.s 6) (.s 7) (.s 13)), .rd 1 (RSl 1 R8) w_1.a.Out, .rd 1 R8 w_1.a.In, .gone, .gone, .gone, .own 1 3 (RInt .i64) w_1.credits, .own 1 24 (RSl 1 R8) w_1.queued, .gone, .rd 1 R8 x_2.SDU, .rd 1 (RSl 1 R8) c_2243.b.Out, .rd 1 R8 c_2243.b.In, .own 1 24 (RSl 1 R8) c_2243.frames, .own 1 24 (RSl 1 R8) c_2243.got, .blk 49 (C_wirelesslaw33_Step x_2 (.s 9)), .blk 26 (C_api_Channel c_2260 (.s 16) (.s 17)), .rd 1 (RSl 1 R8) c_2260.Out, .rd 1 R8 c_2260.In, .rd 1 (RSl 1 R8) l_2261] ?_ (fun c_2266_7 => ?_)
                             · refine SD.all1 (i := 7) (by kernel_rfl) ?_
                               refine SW.eff D_2266 (i := 7) (bs' := [I, I, I, I, I, I, I, I, I, I, I, O, O, O]) rfl (.inl rfl) rfl (e_subo (sz := 1) (E := 24) (R := (RSl 1 R8)) (i := 12) (by_ := 24) (l := c_2243.frames) tk rfl rfl rfl rfl e_l_2827 (by kernel_rfl)) (by kernel_rfl) rfl (by kernel_rfl) ?_
                               exact SD.vie D_2266 [.g 0, .g 1, .g 2, .g 3, .g 4, .g 5, .g 6, .g 7, .g 8, .g 9, .g 10, .g 11, .g 12, .g 13, .g 14, .g 15, .g 16, .g 17, .g 18, .g 19] c_2266_3 (by kernel_rfl)
                             · refine SD.lay 5 [I, I, I, I, I, I, I, O, I, I, O, O, O, O] [(0, vp 0 0), (3, vp 14 0), (8, vi .i64 x_2244), (10, vs 18), (11, vi .i64 x_2262), (112, vp 0 0), (113, .g (C_api_Channel c_2260 (.s 16) (.s 17))), (117, vs 12), (120, vp 0 15)] [.blk 53 (C_wirelesslaw33_wire ({ c_2243 with a := w_1.a, credits := w_1.credits, queued := w_1.queued }) (.s 1) (.s 2) (.s 10) (.s 11) (.s 12) (.s 6) (.s 7) (.s 13)), .rd 1 (RSl 1 R8) w_1.a.Out, .rd 1 R8 w_1.a.In, .gone, .gone, .gone, .own 1 3 (RInt .i64) w_1.credits, .own 1 24 (RSl 1 R8) w_1.queued, .gone, .rd 1 R8 x_2.SDU, .rd 1 (RSl 1 R8) c_2243.b.Out, .rd 1 R8 c_2243.b.In, .own 1 24 (RSl 1 R8) c_2243.frames, .own 1 24 (RSl 1 R8) c_2243.got, .blk 49 (C_wirelesslaw33_Step x_2 (.s 9)), .blk 26 (C_api_Channel c_2260 (.s 16) (.s 17)), .rd 1 (RSl 1 R8) c_2260.Out, .rd 1 R8 c_2260.In, .rd 1 (RSl 1 R8) l_2261] ?_ (fun c_2266_8 => ?_)
                               · refine SD.all2 (i := 7) (j := 10) (by kernel_rfl) ?_ ?_
                                 · refine SW.eff D_2266 (i := 7) (bs' := [I, I, I, I, I, I, I, I, I, I, O, O, O, O]) rfl (.inl rfl) rfl (e_subo (sz := 1) (E := 24) (R := (RSl 1 R8)) (i := 12) (by_ := 24) (l := c_2243.frames) tk rfl rfl rfl rfl e_l_2827 (by kernel_rfl)) (by kernel_rfl) rfl (by kernel_rfl) ?_
                                   exact SD.vie D_2266 [.g 0, .g 1, .g 2, .g 3, .g 4, .g 5, .g 6, .g 7, .g 8, .g 9, .g 10, .g 11, .g 12, .g 13, .g 14, .g 15, .g 16, .g 17, .g 18, .g 19] c_2266_4 (by kernel_rfl)
                                 · refine SW.store D_2266 tk (i := 10) (q := 0) (T := 53) (cs := (C_wirelesslaw33_wire ({ c_2243 with a := w_1.a, b := c_2260, credits := w_1.credits, queued := w_1.queued }) (.s 1) (.s 2) (.s 16) (.s 17) (.s 12) (.s 6) (.s 7) (.s 13))) (bs' := [I, I, I, I, I, I, I, O, I, I, I, O, O, O]) rfl (by kernel_rfl) rfl rfl (by kernel_rfl) ?_
                                   exact SD.vie D_2266 [.g 0, .g 1, .g 2, .g 3, .g 4, .g 5, .g 6, .g 7, .g 8, .g 9, .g 10, .g 11, .g 12, .g 13, .g 14, .g 15, .g 16, .g 17, .g 18] c_2266_7 (by kernel_rfl)
                               · refine SD.lay 6 [I, I, I, I, I, I, I, O, I, O, O, O, O, O] [(0, vp 0 0), (3, vp 14 0), (8, vi .i64 x_2244), (10, vs 18), (11, vi .i64 x_2262), (112, vp 0 0), (113, .g (C_api_Channel c_2260 (.s 16) (.s 17))), (117, vs 12), (119, vp 0 0)] [.blk 53 (C_wirelesslaw33_wire ({ c_2243 with a := w_1.a, credits := w_1.credits, queued := w_1.queued }) (.s 1) (.s 2) (.s 10) (.s 11) (.s 12) (.s 6) (.s 7) (.s 13)), .rd 1 (RSl 1 R8) w_1.a.Out, .rd 1 R8 w_1.a.In, .gone, .gone, .gone, .own 1 3 (RInt .i64) w_1.credits, .own 1 24 (RSl 1 R8) w_1.queued, .gone, .rd 1 R8 x_2.SDU, .rd 1 (RSl 1 R8) c_2243.b.Out, .rd 1 R8 c_2243.b.In, .own 1 24 (RSl 1 R8) c_2243.frames, .own 1 24 (RSl 1 R8) c_2243.got, .blk 49 (C_wirelesslaw33_Step x_2 (.s 9)), .blk 26 (C_api_Channel c_2260 (.s 16) (.s 17)), .rd 1 (RSl 1 R8) c_2260.Out, .rd 1 R8 c_2260.In, .rd 1 (RSl 1 R8) l_2261] ?_ (fun c_2266_9 => ?_)
                                 · refine SD.all2 (i := 7) (j := 9) (by kernel_rfl) ?_ ?_
                                   · refine SW.eff D_2266 (i := 7) (bs' := [I, I, I, I, I, I, I, I, I, O, O, O, O, O]) rfl (.inl rfl) rfl (e_subo (sz := 1) (E := 24) (R := (RSl 1 R8)) (i := 12) (by_ := 24) (l := c_2243.frames) tk rfl rfl rfl rfl e_l_2827 (by kernel_rfl)) (by kernel_rfl) rfl (by kernel_rfl) ?_
                                     exact SD.vie D_2266 [.g 0, .g 1, .g 2, .g 3, .g 4, .g 5, .g 6, .g 7, .g 8, .g 9, .g 10, .g 11, .g 12, .g 13, .g 14, .g 15, .g 16, .g 17, .g 18, .g 19] c_2266_5 (by kernel_rfl)
                                   · refine SW.eff D_2266 (i := 9) (v := vp 0 15) (bs' := [I, I, I, I, I, I, I, O, I, I, O, O, O, O]) rfl (.inl rfl) rfl (e_val tk (by kernel_rfl)) (by kernel_rfl) rfl (by kernel_rfl) ?_
                                     exact SD.vie D_2266 [.g 0, .g 1, .g 2, .g 3, .g 4, .g 5, .g 6, .g 7, .g 8, .g 9, .g 10, .g 11, .g 12, .g 13, .g 14, .g 15, .g 16, .g 17, .g 18] c_2266_8 (by kernel_rfl)
                                 · refine SD.all2 (i := 7) (j := 8) (by kernel_rfl) ?_ ?_
                                   · refine SW.eff D_2266 (i := 7) (bs' := [I, I, I, I, I, I, I, I, O, O, O, O, O, O]) rfl (.inl rfl) rfl (e_subo (sz := 1) (E := 24) (R := (RSl 1 R8)) (i := 12) (by_ := 24) (l := c_2243.frames) tk rfl rfl rfl rfl e_l_2827 (by kernel_rfl)) (by kernel_rfl) rfl (by kernel_rfl) ?_
                                     refine SD.norm (itsN := [.blk 53 [ci .u16 w_1.a.Local, ci .u16 w_1.a.Remote, ci .u16 w_1.a.PSM, ci .i64 w_1.a.MTU, ci .i64 w_1.a.MPS, ci .i64 w_1.a.PeerMTU, ci .i64 w_1.a.PeerMPS, ci .i64 w_1.a.TxCredits, ci .i64 w_1.a.RxCredits, ci .i64 w_1.a.Given, .s 1, ci .i64 w_1.a.Sent, .s 2, ci .i64 w_1.a.Want, cb w_1.a.Failed, ci .u16 c_2243.b.Local, ci .u16 c_2243.b.Remote, ci .u16 c_2243.b.PSM, ci .i64 c_2243.b.MTU, ci .i64 c_2243.b.MPS, ci .i64 c_2243.b.PeerMTU, ci .i64 c_2243.b.PeerMPS, ci .i64 c_2243.b.TxCredits, ci .i64 c_2243.b.RxCredits, ci .i64 c_2243.b.Given, .s 10, ci .i64 c_2243.b.Sent, .s 11, ci .i64 c_2243.b.Want, cb c_2243.b.Failed, .s 12, .s 6, .s 7, .s 13, cb c_2243.bad], .rd 1 (RSl 1 R8) w_1.a.Out, .rd 1 R8 w_1.a.In, .gone, .gone, .gone, .own 1 3 (RInt .i64) w_1.credits, .own 1 24 (RSl 1 R8) w_1.queued, .gone, .rd 1 R8 x_2.SDU, .rd 1 (RSl 1 R8) c_2243.b.Out, .rd 1 R8 c_2243.b.In, .gone, .own 1 24 (RSl 1 R8) c_2243.got, .blk 49 (C_wirelesslaw33_Step x_2 (.s 9)), .blk 26 (C_api_Channel c_2260 (.s 16) (.s 17)), .rd 1 (RSl 1 R8) c_2260.Out, .rd 1 R8 c_2260.In, .rd 1 (RSl 1 R8) l_2261, .own 1 24 (RSl 1 R8) l_2827]) (by kernel_rfl) ?_
                                     exact SD.vie D_2266 [.g 0, .g 1, .g 2, .g 3, .g 4, .g 5, .g 6, .g 7, .g 8, .g 9, .g 10, .g 11, .g 12, .g 13, .g 14, .g 15, .g 16, .g 17, .g 18, .g 19] c_2266_6 (by kernel_rfl)
                                   · refine SW.eff D_2266 (i := 8) (v := vp 0 0) (bs' := [I, I, I, I, I, I, I, O, I, O, O, O, O, O]) rfl (.inl rfl) rfl (e_val tk (by kernel_rfl)) (by kernel_rfl) rfl (by kernel_rfl) ?_
                                     refine SD.norm (itsN := [.blk 53 (C_wirelesslaw33_wire ({ c_2243 with a := w_1.a, credits := w_1.credits, queued := w_1.queued }) (.s 1) (.s 2) (.s 10) (.s 11) (.s 12) (.s 6) (.s 7) (.s 13)), .rd 1 (RSl 1 R8) w_1.a.Out, .rd 1 R8 w_1.a.In, .gone, .gone, .gone, .own 1 3 (RInt .i64) w_1.credits, .own 1 24 (RSl 1 R8) w_1.queued, .gone, .rd 1 R8 x_2.SDU, .rd 1 (RSl 1 R8) c_2243.b.Out, .rd 1 R8 c_2243.b.In, .own 1 24 (RSl 1 R8) c_2243.frames, .own 1 24 (RSl 1 R8) c_2243.got, .blk 49 (C_wirelesslaw33_Step x_2 (.s 9)), .blk 26 (C_api_Channel c_2260 (.s 16) (.s 17)), .rd 1 (RSl 1 R8) c_2260.Out, .rd 1 R8 c_2260.In, .rd 1 (RSl 1 R8) l_2261]) (by kernel_rfl) ?_
                                     exact SD.vie D_2266 [.g 0, .g 1, .g 2, .g 3, .g 4, .g 5, .g 6, .g 7, .g 8, .g 9, .g 10, .g 11, .g 12, .g 13, .g 14, .g 15, .g 16, .g 17, .g 18] c_2266_9 (by kernel_rfl)
             · rintro a w ⟨l_2263, hp, h⟩
               refine h.go ?_
               refine SC.seq ?_
               refine SC.reg ?_
               refine SL.sim tk 6 [(0, vp 0 0), (3, vp 14 0), (8, vi .i64 x_2244), (11, vi .i64 x_2262), (123, vp 0 0), (127, vs 13), (128, vs 15)] [] [] [] (by kernel_rfl) ?_
               obtain ⟨l_2264, e_l_2264, hp⟩ := bind_inv hp
               refine SL.eff (e_app (i := 13) (l := c_2243.got) (sz := 1) (E := 24) (R := (RSl 1 R8)) (by_ := 24) (m := l_2261) tk rfl (by kernel_rfl) rfl (.r (by kernel_rfl)) e_l_2264 (by kernel_rfl)) rfl (by kernel_rfl) ?_
               refine SL.sim tk 3 [(0, vp 0 0), (3, vp 14 0), (8, vi .i64 x_2244), (11, vi .i64 x_2262)] [(0, 53, (C_wirelesslaw33_wire ({ w_1 with b := c_2260, frames := l_2263, got := l_2264, bad := c_2243.bad }) (.s 1) (.s 2) (.s 10) (.s 11) (.s 12) (.s 6) (.s 7) (.s 16)))] [] [] (by kernel_rfl) ?_
               refine SL.nilThen ?_
               refine SC.reg ?_
               refine SL.sim tk 6 [(0, vp 0 0), (3, vp 14 0), (8, vi .i64 x_2244)] [(0, 53, (C_wirelesslaw33_wire ({ w_1 with b := c_2260, frames := l_2263, got := l_2264, bad := (x_2262 != 0) }) (.s 1) (.s 2) (.s 10) (.s 11) (.s 12) (.s 6) (.s 7) (.s 16)))] [] [] (by kernel_rfl) ?_
               refine SL.nilThen ?_
               refine SC.reg ?_
               refine SL.sim tk 3 [(0, vp 0 0), (3, vp 14 0), (8, vi .i64 (w64 (x_2244 + 1)))] [] [] [] (by kernel_rfl) ?_
               refine SL.nilJ fun a w h => ?_
               exact ⟨n1, Nat.lt_succ_self _, { w_1 with b := c_2260, frames := l_2263, got := l_2264, bad := (x_2262 != 0) }, w64 (x_2244 + 1), next_inv hp hs1, h.at (js := [.g 0, .g 1, .g 2, .g 3, .g 4, .g 5, .g 6, .g 7, .g 8, .g 9, .g 10, .g 11, .g 12, .g 16, .g 14]) (by kernel_rfl)⟩
         · refine SC.exitJ rfl fun a w h => ?_
           have ho := done_inv hp hs1
           replace hp := ho1
           try rw [ho] at hp
           exact ⟨{ c_2243 with a := w_1.a, credits := w_1.credits, queued := w_1.queued }, hp, h.at (js := [.g 0, .g 1, .g 2, .g 3, .g 4, .g 5, .g 6, .g 7, .g 8, .g 9, .g 1, .g 2, .g 10, .g 11, .g 12, .g 6, .g 7, .g 13]) (by kernel_rfl)⟩
       · refine SC.r tk [(0, vp 0 0), (3, vp 10 0), (19, vi .u8 (remp x_2.Kind 5)), (137, vb ((remp x_2.Kind 5) == 3))] [] [] [] (by kernel_rfl) ?_
         refine SC.if' rfl hp (fun hp => ?_) (fun hp => ?_)
         · refine SC.cut (fun a w => ∃ (c_5084 : T_api_Channel) (x_5085 : Int), wirelesslaw33_wire_step_j6 F w_1 x_2 c_5084 x_5085 = some r ∧ A 223 10 fx [(0, vp 0 0), (3, vp 10 0), (12, vp 11 0), (13, vi .i64 x_5085)] [.blk 53 (C_wirelesslaw33_wire w_1 (.s 1) (.s 2) (.s 3) (.s 4) (.s 5) (.s 6) (.s 7) (.s 8)), .rd 1 (RSl 1 R8) w_1.a.Out, .rd 1 R8 w_1.a.In, .rd 1 (RSl 1 R8) w_1.b.Out, .rd 1 R8 w_1.b.In, .own 1 24 (RSl 1 R8) w_1.frames, .own 1 3 (RInt .i64) w_1.credits, .own 1 24 (RSl 1 R8) w_1.queued, .own 1 24 (RSl 1 R8) w_1.got, .rd 1 R8 x_2.SDU, .blk 49 (C_wirelesslaw33_Step x_2 (.s 9)), .blk 26 (C_api_Channel c_5084 (.s 12) (.s 13)), .rd 1 (RSl 1 R8) c_5084.Out, .rd 1 R8 c_5084.In] a w) ?_ ?_
           · refine SC.draw MO [I, I, I, I, I, I, I, I, I, I, I] (by kernel_rfl) fun kap_6209 D_6210 => ?_
             refine SD.takes tk D_6210 [] kn0 [0, 1, 2, 3, 4, 5, 6] [] [] [I, I, I, I, I, I, I, O, O, O, O, O, O, O] [(0, vp 0 0), (3, vp 10 0), (143, .g (C_api_Channel w_1.b (.s 3) (.s 4))), (146, vi .i64 (w64 x_2.N))] rfl (by kernel_rfl) (by kernel_rfl) (by kernel_rfl) ?_
             obtain ⟨x_6771, e_x_6771, hp⟩ := bind_inv hp
             refine SD.lay 0 [I, I, I, I, I, I, I, I, I, I, I, I, I, I] [(0, vp 0 0), (3, vp 10 0), (12, vp 13 0), (13, vi .i64 x_6771.2)] [.blk 53 (C_wirelesslaw33_wire w_1 (.s 1) (.s 2) (.s 3) (.s 4) (.s 5) (.s 6) (.s 7) (.s 8)), .rd 1 (RSl 1 R8) w_1.a.Out, .rd 1 R8 w_1.a.In, .rd 1 (RSl 1 R8) w_1.b.Out, .rd 1 R8 w_1.b.In, .own 1 24 (RSl 1 R8) w_1.frames, .own 1 3 (RInt .i64) w_1.credits, .own 1 24 (RSl 1 R8) w_1.queued, .own 1 24 (RSl 1 R8) w_1.got, .rd 1 R8 x_2.SDU, .blk 49 (C_wirelesslaw33_Step x_2 (.s 9)), .rd 1 (RSl 1 R8) x_6771.1.Out, .rd 1 R8 x_6771.1.In, .blk 26 (C_api_Channel x_6771.1 (.s 11) (.s 12))] ?_ (fun c_6210_0 => ?_)
             · refine SD.done (by kernel_rfl) fun a w h => ?_
               exact ⟨x_6771.1, x_6771.2, hp, h.at (js := [.g 0, .g 1, .g 2, .g 3, .g 4, .g 5, .g 6, .g 7, .g 8, .g 9, .g 10, .g 13, .g 11, .g 12]) (by kernel_rfl)⟩
             · refine SD.lay 2 [I, I, I, I, I, I, I, I, I, I, I, I, O, O] [(0, vp 0 0), (3, vp 10 0), (12, vp 13 0), (148, .g (C_api_Channel x_6771.1 (.s 11) (.s 12))), (149, vi .i64 x_6771.2)] [.blk 53 (C_wirelesslaw33_wire w_1 (.s 1) (.s 2) (.s 3) (.s 4) (.s 5) (.s 6) (.s 7) (.s 8)), .rd 1 (RSl 1 R8) w_1.a.Out, .rd 1 R8 w_1.a.In, .rd 1 (RSl 1 R8) w_1.b.Out, .rd 1 R8 w_1.b.In, .own 1 24 (RSl 1 R8) w_1.frames, .own 1 3 (RInt .i64) w_1.credits, .own 1 24 (RSl 1 R8) w_1.queued, .own 1 24 (RSl 1 R8) w_1.got, .rd 1 R8 x_2.SDU, .blk 49 (C_wirelesslaw33_Step x_2 (.s 9)), .rd 1 (RSl 1 R8) x_6771.1.Out, .rd 1 R8 x_6771.1.In, .blk 26 (C_api_Channel (T_api_Channel.mk 0 0 0 0 0 0 0 0 0 0 [] 0 [] 0 false) nl nl)] ?_ (fun c_6210_1 => ?_)
               · refine SD.all1 (i := 12) (by kernel_rfl) ?_
                 refine SW.store D_6210 tk (i := 12) (q := 13) (T := 26) (cs := (C_api_Channel x_6771.1 (.s 11) (.s 12))) (bs' := [I, I, I, I, I, I, I, I, I, I, I, I, I, O]) rfl (by kernel_rfl) rfl rfl (by kernel_rfl) ?_
                 refine SD.takes tk D_6210 [] kn0 [13] [] [] [I, I, I, I, I, I, I, I, I, I, I, I, I, I] [(0, vp 0 0), (3, vp 10 0), (12, vp 13 0), (13, vi .i64 x_6771.2)] rfl (by kernel_rfl) (by kernel_rfl) (by kernel_rfl) ?_
                 exact SD.vie D_6210 [.g 0, .g 1, .g 2, .g 3, .g 4, .g 5, .g 6, .g 7, .g 8, .g 9, .g 10, .g 11, .g 12, .g 13] c_6210_0 (by kernel_rfl)
               · refine SD.lay 3 [I, I, I, I, I, I, I, I, I, I, I, O, O, O] [(0, vp 0 0), (3, vp 10 0), (148, .g (C_api_Channel x_6771.1 (.s 11) (.s 12))), (149, vi .i64 x_6771.2)] [.blk 53 (C_wirelesslaw33_wire w_1 (.s 1) (.s 2) (.s 3) (.s 4) (.s 5) (.s 6) (.s 7) (.s 8)), .rd 1 (RSl 1 R8) w_1.a.Out, .rd 1 R8 w_1.a.In, .rd 1 (RSl 1 R8) w_1.b.Out, .rd 1 R8 w_1.b.In, .own 1 24 (RSl 1 R8) w_1.frames, .own 1 3 (RInt .i64) w_1.credits, .own 1 24 (RSl 1 R8) w_1.queued, .own 1 24 (RSl 1 R8) w_1.got, .rd 1 R8 x_2.SDU, .blk 49 (C_wirelesslaw33_Step x_2 (.s 9)), .rd 1 (RSl 1 R8) x_6771.1.Out, .rd 1 R8 x_6771.1.In] ?_ (fun c_6210_2 => ?_)
                 · refine SD.all1 (i := 11) (by kernel_rfl) ?_
                   refine SW.eff D_6210 (i := 11) (bs' := [I, I, I, I, I, I, I, I, I, I, I, I, O, O]) rfl (.inl rfl) rfl (e_alloc (E := 26) tk (C_api_Channel (T_api_Channel.mk 0 0 0 0 0 0 0 0 0 0 [] 0 [] 0 false) nl nl) (by kernel_rfl)) (by kernel_rfl) rfl (by kernel_rfl) ?_
                   exact SD.vie D_6210 [.g 0, .g 1, .g 2, .g 3, .g 4, .g 5, .g 6, .g 7, .g 8, .g 9, .g 10, .g 11, .g 12, .g 13] c_6210_1 (by kernel_rfl)
                 · refine SD.lay 6 [I, I, I, I, I, I, I, O, O, O, O, I, O, O] [(0, vp 0 0), (3, vp 10 0), (12, vp 11 0), (143, .g (C_api_Channel w_1.b (.s 3) (.s 4))), (146, vi .i64 (w64 x_2.N))] [.blk 53 (C_wirelesslaw33_wire w_1 (.s 1) (.s 2) (.s 3) (.s 4) (.s 5) (.s 6) (.s 7) (.s 8)), .rd 1 (RSl 1 R8) w_1.a.Out, .rd 1 R8 w_1.a.In, .rd 1 (RSl 1 R8) w_1.b.Out, .rd 1 R8 w_1.b.In, .own 1 24 (RSl 1 R8) w_1.frames, .own 1 3 (RInt .i64) w_1.credits, .own 1 24 (RSl 1 R8) w_1.queued, .own 1 24 (RSl 1 R8) w_1.got, .rd 1 R8 x_2.SDU, .blk 49 (C_wirelesslaw33_Step x_2 (.s 9)), .blk 26 (C_api_Channel (T_api_Channel.mk 0 0 0 0 0 0 0 0 0 0 [] 0 [] 0 false) nl nl)] ?_ (fun c_6210_3 => ?_)
                   · refine SD.all1 (i := 7) (by kernel_rfl) ?_
                     refine SW.eff D_6210 (i := 7) (bs' := [I, I, I, I, I, I, I, I, O, O, O, I, O, O]) rfl (.inl rfl) rfl (e_c Try.call22 (ok_sdu_Grant F w_1.b (w64 x_2.N) _ e_x_6771) [.g 3, .g 4] [.g (C_api_Channel w_1.b (.s 3) (.s 4)), vi .i64 (w64 x_2.N)] (.u [.inr (C_api_Channel x_6771.1 (.s 12) (.s 13)), .inl (ci .i64 x_6771.2)]) (by kernel_rfl) (.inl rfl)) (by kernel_rfl) rfl (by kernel_rfl) ?_
                     refine SD.takes tk D_6210 [] kn0 [8, 9, 10] [] [] [I, I, I, I, I, I, I, I, I, I, I, I, O, O] [(0, vp 0 0), (3, vp 10 0), (12, vp 11 0), (148, .g (C_api_Channel x_6771.1 (.s 12) (.s 13))), (149, vi .i64 x_6771.2)] rfl (by kernel_rfl) (by kernel_rfl) (by kernel_rfl) ?_
                     exact SD.vie D_6210 [.g 0, .g 1, .g 2, .g 3, .g 4, .g 5, .g 6, .g 7, .g 8, .g 9, .g 10, .g 12, .g 13, .g 11] c_6210_1 (by kernel_rfl)
                   · refine SD.all2 (i := 7) (j := 11) (by kernel_rfl) ?_ ?_
                     · refine SW.eff D_6210 (i := 7) (bs' := [I, I, I, I, I, I, I, I, O, O, O, O, O, O]) rfl (.inl rfl) rfl (e_c Try.call22 (ok_sdu_Grant F w_1.b (w64 x_2.N) _ e_x_6771) [.g 3, .g 4] [.g (C_api_Channel w_1.b (.s 3) (.s 4)), vi .i64 (w64 x_2.N)] (.u [.inr (C_api_Channel x_6771.1 (.s 11) (.s 12)), .inl (ci .i64 x_6771.2)]) (by kernel_rfl) (.inl rfl)) (by kernel_rfl) rfl (by kernel_rfl) ?_
                       refine SD.takes tk D_6210 [] kn0 [8, 9, 10] [] [] [I, I, I, I, I, I, I, I, I, I, I, O, O, O] [(0, vp 0 0), (3, vp 10 0), (148, .g (C_api_Channel x_6771.1 (.s 11) (.s 12))), (149, vi .i64 x_6771.2)] rfl (by kernel_rfl) (by kernel_rfl) (by kernel_rfl) ?_
                       exact SD.vie D_6210 [.g 0, .g 1, .g 2, .g 3, .g 4, .g 5, .g 6, .g 7, .g 8, .g 9, .g 10, .g 11, .g 12] c_6210_2 (by kernel_rfl)
                     · refine SW.eff D_6210 (i := 11) (bs' := [I, I, I, I, I, I, I, O, O, O, O, I, O, O]) rfl (.inl rfl) rfl (e_alloc (E := 26) tk (C_api_Channel (T_api_Channel.mk 0 0 0 0 0 0 0 0 0 0 [] 0 [] 0 false) nl nl) (by kernel_rfl)) (by kernel_rfl) rfl (by kernel_rfl) ?_
                       exact SD.vie D_6210 [.g 0, .g 1, .g 2, .g 3, .g 4, .g 5, .g 6, .g 7, .g 8, .g 9, .g 10, .g 11] c_6210_3 (by kernel_rfl)
           · rintro a w ⟨c_5084, x_5085, hp, h⟩
             refine h.go ?_
             refine SC.cut (fun a w => ∃ (l_5086 : (List Int)), wirelesslaw33_wire_step_j7 F w_1 c_5084 l_5086 = some r ∧ A 223 10 fx [(0, vp 0 0), (12, vp 11 0)] [.blk 53 (C_wirelesslaw33_wire ({ w_1 with credits := l_5086 }) (.s 1) (.s 2) (.s 3) (.s 4) (.s 5) (.s 10) (.s 7) (.s 8)), .rd 1 (RSl 1 R8) w_1.a.Out, .rd 1 R8 w_1.a.In, .rd 1 (RSl 1 R8) w_1.b.Out, .rd 1 R8 w_1.b.In, .own 1 24 (RSl 1 R8) w_1.frames, .gone, .own 1 24 (RSl 1 R8) w_1.queued, .own 1 24 (RSl 1 R8) w_1.got, .gone, .own 1 3 (RInt .i64) l_5086, .blk 26 (C_api_Channel c_5084 (.s 12) (.s 13)), .rd 1 (RSl 1 R8) c_5084.Out, .rd 1 R8 c_5084.In] a w) ?_ ?_
             · refine SC.r tk [(0, vp 0 0), (3, vp 10 0), (12, vp 11 0), (151, vb (x_5085 == 0))] [] [] [] (by kernel_rfl) ?_
               refine SC.if' rfl hp (fun hp => ?_) (fun hp => ?_)
               · refine SC.draw MO [O, I, I, I, I, I, O, I, I, I, I, I, I, I] (by kernel_rfl) fun kap_5087 D_5088 => ?_
                 refine SD.takes tk D_5088 [] kn0 [0, 1, 5, 6, 7] [] [] [I, I, O, O, O, I, I, I, O, O, O, O, O] [(0, vp 0 0), (12, vp 11 0), (152, vp 0 0), (153, vp 0 0), (159, vi .i64 (w64 x_2.N))] rfl (by kernel_rfl) (by kernel_rfl) (by kernel_rfl) ?_
                 obtain ⟨l_5809, e_l_5809, hp⟩ := bind_inv hp
                 refine SD.lay 0 [I, I, I, I, I, I, I, I, I, I, I, I, I] [(0, vp 0 0), (12, vp 11 0)] [.blk 53 (C_wirelesslaw33_wire ({ w_1 with credits := l_5809 }) (.s 1) (.s 2) (.s 3) (.s 4) (.s 5) (.s 15) (.s 7) (.s 8)), .rd 1 (RSl 1 R8) w_1.a.Out, .rd 1 R8 w_1.a.In, .rd 1 (RSl 1 R8) w_1.b.Out, .rd 1 R8 w_1.b.In, .own 1 24 (RSl 1 R8) w_1.frames, .gone, .own 1 24 (RSl 1 R8) w_1.queued, .own 1 24 (RSl 1 R8) w_1.got, .rd 1 R8 x_2.SDU, .blk 49 (C_wirelesslaw33_Step x_2 (.s 9)), .blk 26 (C_api_Channel c_5084 (.s 12) (.s 13)), .rd 1 (RSl 1 R8) c_5084.Out, .rd 1 R8 c_5084.In, .gone, .own 1 3 (RInt .i64) l_5809] ?_ (fun c_5088_0 => ?_)
                 · refine SD.done (by kernel_rfl) fun a w h => ?_
                   exact ⟨l_5809, hp, h.at (js := [.g 0, .g 1, .g 2, .g 3, .g 4, .g 5, .g 6, .g 7, .g 8, .g 9, .g 15, .g 11, .g 12, .g 13]) (by kernel_rfl)⟩
                 · refine SD.lay 1 [I, I, I, I, I, I, I, I, I, I, I, I, O] [(0, vp 0 0), (12, vp 11 0), (161, vs 15), (163, vp 0 31)] [.blk 53 [ci .u16 w_1.a.Local, ci .u16 w_1.a.Remote, ci .u16 w_1.a.PSM, ci .i64 w_1.a.MTU, ci .i64 w_1.a.MPS, ci .i64 w_1.a.PeerMTU, ci .i64 w_1.a.PeerMPS, ci .i64 w_1.a.TxCredits, ci .i64 w_1.a.RxCredits, ci .i64 w_1.a.Given, .s 1, ci .i64 w_1.a.Sent, .s 2, ci .i64 w_1.a.Want, cb w_1.a.Failed, ci .u16 w_1.b.Local, ci .u16 w_1.b.Remote, ci .u16 w_1.b.PSM, ci .i64 w_1.b.MTU, ci .i64 w_1.b.MPS, ci .i64 w_1.b.PeerMTU, ci .i64 w_1.b.PeerMPS, ci .i64 w_1.b.TxCredits, ci .i64 w_1.b.RxCredits, ci .i64 w_1.b.Given, .s 3, ci .i64 w_1.b.Sent, .s 4, ci .i64 w_1.b.Want, cb w_1.b.Failed, .s 5, .s 6, .s 7, .s 8, cb w_1.bad], .rd 1 (RSl 1 R8) w_1.a.Out, .rd 1 R8 w_1.a.In, .rd 1 (RSl 1 R8) w_1.b.Out, .rd 1 R8 w_1.b.In, .own 1 24 (RSl 1 R8) w_1.frames, .gone, .own 1 24 (RSl 1 R8) w_1.queued, .own 1 24 (RSl 1 R8) w_1.got, .rd 1 R8 x_2.SDU, .blk 49 (C_wirelesslaw33_Step x_2 (.s 9)), .blk 26 (C_api_Channel c_5084 (.s 12) (.s 13)), .rd 1 (RSl 1 R8) c_5084.Out, .rd 1 R8 c_5084.In, .gone, .own 1 3 (RInt .i64) l_5809] ?_ (fun c_5088_1 => ?_)
                   · refine SD.all1 (i := 12) (by kernel_rfl) ?_
                     refine SW.store D_5088 tk (i := 12) (q := 0) (T := 53) (cs := (C_wirelesslaw33_wire ({ w_1 with credits := l_5809 }) (.s 1) (.s 2) (.s 3) (.s 4) (.s 5) (.s 15) (.s 7) (.s 8))) (bs' := [I, I, I, I, I, I, I, I, I, I, I, I, I]) rfl (by kernel_rfl) rfl rfl (by kernel_rfl) ?_
                     exact SD.vie D_5088 [.g 0, .g 1, .g 2, .g 3, .g 4, .g 5, .g 6, .g 7, .g 8, .g 9, .g 10, .g 11, .g 12, .g 13, .n, .g 15] c_5088_0 (by kernel_rfl)
                   · refine SD.lay 2 [I, I, I, I, I, I, I, I, I, I, I, O, O] [(0, vp 0 0), (12, vp 11 0), (161, vs 15), (162, vp 0 0)] [.blk 53 [ci .u16 w_1.a.Local, ci .u16 w_1.a.Remote, ci .u16 w_1.a.PSM, ci .i64 w_1.a.MTU, ci .i64 w_1.a.MPS, ci .i64 w_1.a.PeerMTU, ci .i64 w_1.a.PeerMPS, ci .i64 w_1.a.TxCredits, ci .i64 w_1.a.RxCredits, ci .i64 w_1.a.Given, .s 1, ci .i64 w_1.a.Sent, .s 2, ci .i64 w_1.a.Want, cb w_1.a.Failed, ci .u16 w_1.b.Local, ci .u16 w_1.b.Remote, ci .u16 w_1.b.PSM, ci .i64 w_1.b.MTU, ci .i64 w_1.b.MPS, ci .i64 w_1.b.PeerMTU, ci .i64 w_1.b.PeerMPS, ci .i64 w_1.b.TxCredits, ci .i64 w_1.b.RxCredits, ci .i64 w_1.b.Given, .s 3, ci .i64 w_1.b.Sent, .s 4, ci .i64 w_1.b.Want, cb w_1.b.Failed, .s 5, .s 6, .s 7, .s 8, cb w_1.bad], .rd 1 (RSl 1 R8) w_1.a.Out, .rd 1 R8 w_1.a.In, .rd 1 (RSl 1 R8) w_1.b.Out, .rd 1 R8 w_1.b.In, .own 1 24 (RSl 1 R8) w_1.frames, .gone, .own 1 24 (RSl 1 R8) w_1.queued, .own 1 24 (RSl 1 R8) w_1.got, .rd 1 R8 x_2.SDU, .blk 49 (C_wirelesslaw33_Step x_2 (.s 9)), .blk 26 (C_api_Channel c_5084 (.s 12) (.s 13)), .rd 1 (RSl 1 R8) c_5084.Out, .rd 1 R8 c_5084.In, .gone, .own 1 3 (RInt .i64) l_5809] ?_ (fun c_5088_2 => ?_)
                     · refine SD.all1 (i := 11) (by kernel_rfl) ?_
                       refine SW.eff D_5088 (i := 11) (v := vp 0 31) (bs' := [I, I, I, I, I, I, I, I, I, I, I, I, O]) rfl (.inl rfl) rfl (e_val tk (by kernel_rfl)) (by kernel_rfl) rfl (by kernel_rfl) ?_
                       exact SD.vie D_5088 [.g 0, .g 1, .g 2, .g 3, .g 4, .g 5, .g 6, .g 7, .g 8, .g 9, .g 10, .g 11, .g 12, .g 13, .n, .g 15] c_5088_1 (by kernel_rfl)
                     · refine SD.lay 3 [I, I, I, I, I, I, I, I, I, I, O, O, O] [(0, vp 0 0), (12, vp 11 0), (152, vp 0 0), (161, vs 15)] [.blk 53 [ci .u16 w_1.a.Local, ci .u16 w_1.a.Remote, ci .u16 w_1.a.PSM, ci .i64 w_1.a.MTU, ci .i64 w_1.a.MPS, ci .i64 w_1.a.PeerMTU, ci .i64 w_1.a.PeerMPS, ci .i64 w_1.a.TxCredits, ci .i64 w_1.a.RxCredits, ci .i64 w_1.a.Given, .s 1, ci .i64 w_1.a.Sent, .s 2, ci .i64 w_1.a.Want, cb w_1.a.Failed, ci .u16 w_1.b.Local, ci .u16 w_1.b.Remote, ci .u16 w_1.b.PSM, ci .i64 w_1.b.MTU, ci .i64 w_1.b.MPS, ci .i64 w_1.b.PeerMTU, ci .i64 w_1.b.PeerMPS, ci .i64 w_1.b.TxCredits, ci .i64 w_1.b.RxCredits, ci .i64 w_1.b.Given, .s 3, ci .i64 w_1.b.Sent, .s 4, ci .i64 w_1.b.Want, cb w_1.b.Failed, .s 5, .s 6, .s 7, .s 8, cb w_1.bad], .rd 1 (RSl 1 R8) w_1.a.Out, .rd 1 R8 w_1.a.In, .rd 1 (RSl 1 R8) w_1.b.Out, .rd 1 R8 w_1.b.In, .own 1 24 (RSl 1 R8) w_1.frames, .gone, .own 1 24 (RSl 1 R8) w_1.queued, .own 1 24 (RSl 1 R8) w_1.got, .rd 1 R8 x_2.SDU, .blk 49 (C_wirelesslaw33_Step x_2 (.s 9)), .blk 26 (C_api_Channel c_5084 (.s 12) (.s 13)), .rd 1 (RSl 1 R8) c_5084.Out, .rd 1 R8 c_5084.In, .gone, .own 1 3 (RInt .i64) l_5809] ?_ (fun c_5088_3 => ?_)
                       · refine SD.all1 (i := 10) (by kernel_rfl) ?_
                         refine SW.eff D_5088 (i := 10) (v := vp 0 0) (bs' := [I, I, I, I, I, I, I, I, I, I, I, O, O]) rfl (.inl rfl) rfl (e_val tk (by kernel_rfl)) (by kernel_rfl) rfl (by kernel_rfl) ?_
                         exact SD.vie D_5088 [.g 0, .g 1, .g 2, .g 3, .g 4, .g 5, .g 6, .g 7, .g 8, .g 9, .g 10, .g 11, .g 12, .g 13, .n, .g 15] c_5088_2 (by kernel_rfl)
                       · refine SD.lay 4 [I, I, I, I, I, I, I, I, I, O, O, O, O] [(0, vp 0 0), (12, vp 11 0), (152, vp 0 0), (156, vs 6), (160, vs 14)] [.blk 53 (C_wirelesslaw33_wire w_1 (.s 1) (.s 2) (.s 3) (.s 4) (.s 5) (.s 6) (.s 7) (.s 8)), .rd 1 (RSl 1 R8) w_1.a.Out, .rd 1 R8 w_1.a.In, .rd 1 (RSl 1 R8) w_1.b.Out, .rd 1 R8 w_1.b.In, .own 1 24 (RSl 1 R8) w_1.frames, .own 1 3 (RInt .i64) w_1.credits, .own 1 24 (RSl 1 R8) w_1.queued, .own 1 24 (RSl 1 R8) w_1.got, .rd 1 R8 x_2.SDU, .blk 49 (C_wirelesslaw33_Step x_2 (.s 9)), .blk 26 (C_api_Channel c_5084 (.s 12) (.s 13)), .rd 1 (RSl 1 R8) c_5084.Out, .rd 1 R8 c_5084.In, .own 1 3 (RInt .i64) [w64 x_2.N]] ?_ (fun c_5088_4 => ?_)
                         · refine SD.all1 (i := 9) (by kernel_rfl) ?_
                           refine SW.eff D_5088 (i := 9) (bs' := [I, I, I, I, I, I, I, I, I, I, O, O, O]) rfl (.inl rfl) rfl (e_app (i := 6) (l := w_1.credits) (sz := 1) (E := 3) (R := (RInt .i64)) (by_ := 8) (m := [w64 x_2.N]) tk rfl (by kernel_rfl) rfl (.o 3 (by kernel_rfl)) e_l_5809 (by kernel_rfl)) (by kernel_rfl) rfl (by kernel_rfl) ?_
                           exact SD.vie D_5088 [.g 0, .g 1, .g 2, .g 3, .g 4, .g 5, .g 6, .g 7, .g 8, .g 9, .g 10, .g 11, .g 12, .g 13, .n, .g 15] c_5088_3 (by kernel_rfl)
                         · refine SD.lay 5 [I, I, I, I, I, I, I, I, O, O, O, O, O] [(0, vp 0 0), (12, vp 11 0), (152, vp 0 0), (156, vs 6), (159, vi .i64 (w64 x_2.N))] [.blk 53 (C_wirelesslaw33_wire w_1 (.s 1) (.s 2) (.s 3) (.s 4) (.s 5) (.s 6) (.s 7) (.s 8)), .rd 1 (RSl 1 R8) w_1.a.Out, .rd 1 R8 w_1.a.In, .rd 1 (RSl 1 R8) w_1.b.Out, .rd 1 R8 w_1.b.In, .own 1 24 (RSl 1 R8) w_1.frames, .own 1 3 (RInt .i64) w_1.credits, .own 1 24 (RSl 1 R8) w_1.queued, .own 1 24 (RSl 1 R8) w_1.got, .rd 1 R8 x_2.SDU, .blk 49 (C_wirelesslaw33_Step x_2 (.s 9)), .blk 26 (C_api_Channel c_5084 (.s 12) (.s 13)), .rd 1 (RSl 1 R8) c_5084.Out, .rd 1 R8 c_5084.In] ?_ (fun c_5088_5 => ?_)
                           · refine SD.all1 (i := 8) (by kernel_rfl) ?_
                             refine SW.eff D_5088 (i := 8) (bs' := [I, I, I, I, I, I, I, I, I, O, O, O, O]) rfl (.inl rfl) rfl (e_lit (sz := 1) (E := 3) (R := (RInt .i64)) (by_ := 8) tk [[ci .i64 (w64 x_2.N)]] [w64 x_2.N] (by kernel_rfl) ⟨Clo.int, trivial⟩ rfl (by kernel_rfl) (by kernel_rfl)) (by kernel_rfl) rfl (by kernel_rfl) ?_
                             exact SD.vie D_5088 [.g 0, .g 1, .g 2, .g 3, .g 4, .g 5, .g 6, .g 7, .g 8, .g 9, .g 10, .g 11, .g 12, .g 13, .g 14] c_5088_4 (by kernel_rfl)
                           · refine SD.lay 5 [I, I, I, I, O, I, I, I, I, O, O, O, O] [(0, vp 0 0), (12, vp 11 0), (152, vp 0 0), (155, vp 0 31), (160, vs 14)] [.blk 53 (C_wirelesslaw33_wire w_1 (.s 1) (.s 2) (.s 3) (.s 4) (.s 5) (.s 6) (.s 7) (.s 8)), .rd 1 (RSl 1 R8) w_1.a.Out, .rd 1 R8 w_1.a.In, .rd 1 (RSl 1 R8) w_1.b.Out, .rd 1 R8 w_1.b.In, .own 1 24 (RSl 1 R8) w_1.frames, .own 1 3 (RInt .i64) w_1.credits, .own 1 24 (RSl 1 R8) w_1.queued, .own 1 24 (RSl 1 R8) w_1.got, .rd 1 R8 x_2.SDU, .blk 49 (C_wirelesslaw33_Step x_2 (.s 9)), .blk 26 (C_api_Channel c_5084 (.s 12) (.s 13)), .rd 1 (RSl 1 R8) c_5084.Out, .rd 1 R8 c_5084.In, .own 1 3 (RInt .i64) [w64 x_2.N]] ?_ (fun c_5088_6 => ?_)
                             · refine SD.all1 (i := 4) (by kernel_rfl) ?_
                               refine SW.eff D_5088 (i := 4) (v := vs 6) (bs' := [I, I, I, I, I, I, I, I, I, O, O, O, O]) rfl (.inl rfl) rfl (e_val tk (by kernel_rfl)) (by kernel_rfl) rfl (by kernel_rfl) ?_
                               exact SD.vie D_5088 [.g 0, .g 1, .g 2, .g 3, .g 4, .g 5, .g 6, .g 7, .g 8, .g 9, .g 10, .g 11, .g 12, .g 13, .g 14] c_5088_4 (by kernel_rfl)
                             · refine SD.lay 6 [I, I, I, I, O, I, I, I, O, O, O, O, O] [(0, vp 0 0), (12, vp 11 0), (152, vp 0 0), (155, vp 0 31), (159, vi .i64 (w64 x_2.N))] [.blk 53 (C_wirelesslaw33_wire w_1 (.s 1) (.s 2) (.s 3) (.s 4) (.s 5) (.s 6) (.s 7) (.s 8)), .rd 1 (RSl 1 R8) w_1.a.Out, .rd 1 R8 w_1.a.In, .rd 1 (RSl 1 R8) w_1.b.Out, .rd 1 R8 w_1.b.In, .own 1 24 (RSl 1 R8) w_1.frames, .own 1 3 (RInt .i64) w_1.credits, .own 1 24 (RSl 1 R8) w_1.queued, .own 1 24 (RSl 1 R8) w_1.got, .rd 1 R8 x_2.SDU, .blk 49 (C_wirelesslaw33_Step x_2 (.s 9)), .blk 26 (C_api_Channel c_5084 (.s 12) (.s 13)), .rd 1 (RSl 1 R8) c_5084.Out, .rd 1 R8 c_5084.In] ?_ (fun c_5088_7 => ?_)
                               · refine SD.all2 (i := 4) (j := 8) (by kernel_rfl) ?_ ?_
                                 · refine SW.eff D_5088 (i := 4) (v := vs 6) (bs' := [I, I, I, I, I, I, I, I, O, O, O, O, O]) rfl (.inl rfl) rfl (e_val tk (by kernel_rfl)) (by kernel_rfl) rfl (by kernel_rfl) ?_
                                   exact SD.vie D_5088 [.g 0, .g 1, .g 2, .g 3, .g 4, .g 5, .g 6, .g 7, .g 8, .g 9, .g 10, .g 11, .g 12, .g 13] c_5088_5 (by kernel_rfl)
                                 · refine SW.eff D_5088 (i := 8) (bs' := [I, I, I, I, O, I, I, I, I, O, O, O, O]) rfl (.inl rfl) rfl (e_lit (sz := 1) (E := 3) (R := (RInt .i64)) (by_ := 8) tk [[ci .i64 (w64 x_2.N)]] [w64 x_2.N] (by kernel_rfl) ⟨Clo.int, trivial⟩ rfl (by kernel_rfl) (by kernel_rfl)) (by kernel_rfl) rfl (by kernel_rfl) ?_
                                   exact SD.vie D_5088 [.g 0, .g 1, .g 2, .g 3, .g 4, .g 5, .g 6, .g 7, .g 8, .g 9, .g 10, .g 11, .g 12, .g 13, .g 14] c_5088_6 (by kernel_rfl)
                               · refine SD.lay 6 [I, I, I, O, O, I, I, I, I, O, O, O, O] [(0, vp 0 0), (12, vp 11 0), (152, vp 0 0), (154, vp 0 0), (160, vs 14)] [.blk 53 (C_wirelesslaw33_wire w_1 (.s 1) (.s 2) (.s 3) (.s 4) (.s 5) (.s 6) (.s 7) (.s 8)), .rd 1 (RSl 1 R8) w_1.a.Out, .rd 1 R8 w_1.a.In, .rd 1 (RSl 1 R8) w_1.b.Out, .rd 1 R8 w_1.b.In, .own 1 24 (RSl 1 R8) w_1.frames, .own 1 3 (RInt .i64) w_1.credits, .own 1 24 (RSl 1 R8) w_1.queued, .own 1 24 (RSl 1 R8) w_1.got, .rd 1 R8 x_2.SDU, .blk 49 (C_wirelesslaw33_Step x_2 (.s 9)), .blk 26 (C_api_Channel c_5084 (.s 12) (.s 13)), .rd 1 (RSl 1 R8) c_5084.Out, .rd 1 R8 c_5084.In, .own 1 3 (RInt .i64) [w64 x_2.N]] ?_ (fun c_5088_8 => ?_)
                                 · refine SD.all1 (i := 3) (by kernel_rfl) ?_
                                   refine SW.eff D_5088 (i := 3) (v := vp 0 31) (bs' := [I, I, I, I, O, I, I, I, I, O, O, O, O]) rfl (.inl rfl) rfl (e_val tk (by kernel_rfl)) (by kernel_rfl) rfl (by kernel_rfl) ?_
                                   exact SD.vie D_5088 [.g 0, .g 1, .g 2, .g 3, .g 4, .g 5, .g 6, .g 7, .g 8, .g 9, .g 10, .g 11, .g 12, .g 13, .g 14] c_5088_6 (by kernel_rfl)
                                 · refine SD.lay 7 [I, I, I, O, O, I, I, I, O, O, O, O, O] [(0, vp 0 0), (12, vp 11 0), (152, vp 0 0), (154, vp 0 0), (159, vi .i64 (w64 x_2.N))] [.blk 53 (C_wirelesslaw33_wire w_1 (.s 1) (.s 2) (.s 3) (.s 4) (.s 5) (.s 6) (.s 7) (.s 8)), .rd 1 (RSl 1 R8) w_1.a.Out, .rd 1 R8 w_1.a.In, .rd 1 (RSl 1 R8) w_1.b.Out, .rd 1 R8 w_1.b.In, .own 1 24 (RSl 1 R8) w_1.frames, .own 1 3 (RInt .i64) w_1.credits, .own 1 24 (RSl 1 R8) w_1.queued, .own 1 24 (RSl 1 R8) w_1.got, .rd 1 R8 x_2.SDU, .blk 49 (C_wirelesslaw33_Step x_2 (.s 9)), .blk 26 (C_api_Channel c_5084 (.s 12) (.s 13)), .rd 1 (RSl 1 R8) c_5084.Out, .rd 1 R8 c_5084.In] ?_ (fun c_5088_9 => ?_)
                                   · refine SD.all2 (i := 3) (j := 8) (by kernel_rfl) ?_ ?_
                                     · refine SW.eff D_5088 (i := 3) (v := vp 0 31) (bs' := [I, I, I, I, O, I, I, I, O, O, O, O, O]) rfl (.inl rfl) rfl (e_val tk (by kernel_rfl)) (by kernel_rfl) rfl (by kernel_rfl) ?_
                                       exact SD.vie D_5088 [.g 0, .g 1, .g 2, .g 3, .g 4, .g 5, .g 6, .g 7, .g 8, .g 9, .g 10, .g 11, .g 12, .g 13] c_5088_7 (by kernel_rfl)
                                     · refine SW.eff D_5088 (i := 8) (bs' := [I, I, I, O, O, I, I, I, I, O, O, O, O]) rfl (.inl rfl) rfl (e_lit (sz := 1) (E := 3) (R := (RInt .i64)) (by_ := 8) tk [[ci .i64 (w64 x_2.N)]] [w64 x_2.N] (by kernel_rfl) ⟨Clo.int, trivial⟩ rfl (by kernel_rfl) (by kernel_rfl)) (by kernel_rfl) rfl (by kernel_rfl) ?_
                                       exact SD.vie D_5088 [.g 0, .g 1, .g 2, .g 3, .g 4, .g 5, .g 6, .g 7, .g 8, .g 9, .g 10, .g 11, .g 12, .g 13, .g 14] c_5088_8 (by kernel_rfl)
                                   · refine SD.lay 7 [I, I, O, O, O, I, I, I, I, O, O, O, O] [(0, vp 0 0), (12, vp 11 0), (152, vp 0 0), (153, vp 0 0), (160, vs 14)] [.blk 53 (C_wirelesslaw33_wire w_1 (.s 1) (.s 2) (.s 3) (.s 4) (.s 5) (.s 6) (.s 7) (.s 8)), .rd 1 (RSl 1 R8) w_1.a.Out, .rd 1 R8 w_1.a.In, .rd 1 (RSl 1 R8) w_1.b.Out, .rd 1 R8 w_1.b.In, .own 1 24 (RSl 1 R8) w_1.frames, .own 1 3 (RInt .i64) w_1.credits, .own 1 24 (RSl 1 R8) w_1.queued, .own 1 24 (RSl 1 R8) w_1.got, .rd 1 R8 x_2.SDU, .blk 49 (C_wirelesslaw33_Step x_2 (.s 9)), .blk 26 (C_api_Channel c_5084 (.s 12) (.s 13)), .rd 1 (RSl 1 R8) c_5084.Out, .rd 1 R8 c_5084.In, .own 1 3 (RInt .i64) [w64 x_2.N]] ?_ (fun c_5088_10 => ?_)
                                     · refine SD.all1 (i := 2) (by kernel_rfl) ?_
                                       refine SW.eff D_5088 (i := 2) (v := vp 0 0) (bs' := [I, I, I, O, O, I, I, I, I, O, O, O, O]) rfl (.inl rfl) rfl (e_val tk (by kernel_rfl)) (by kernel_rfl) rfl (by kernel_rfl) ?_
                                       exact SD.vie D_5088 [.g 0, .g 1, .g 2, .g 3, .g 4, .g 5, .g 6, .g 7, .g 8, .g 9, .g 10, .g 11, .g 12, .g 13, .g 14] c_5088_8 (by kernel_rfl)
                                     · refine SD.all2 (i := 2) (j := 8) (by kernel_rfl) ?_ ?_
                                       · refine SW.eff D_5088 (i := 2) (v := vp 0 0) (bs' := [I, I, I, O, O, I, I, I, O, O, O, O, O]) rfl (.inl rfl) rfl (e_val tk (by kernel_rfl)) (by kernel_rfl) rfl (by kernel_rfl) ?_
                                         exact SD.vie D_5088 [.g 0, .g 1, .g 2, .g 3, .g 4, .g 5, .g 6, .g 7, .g 8, .g 9, .g 10, .g 11, .g 12, .g 13] c_5088_9 (by kernel_rfl)
                                       · refine SW.eff D_5088 (i := 8) (bs' := [I, I, O, O, O, I, I, I, I, O, O, O, O]) rfl (.inl rfl) rfl (e_lit (sz := 1) (E := 3) (R := (RInt .i64)) (by_ := 8) tk [[ci .i64 (w64 x_2.N)]] [w64 x_2.N] (by kernel_rfl) ⟨Clo.int, trivial⟩ rfl (by kernel_rfl) (by kernel_rfl)) (by kernel_rfl) rfl (by kernel_rfl) ?_
                                         exact SD.vie D_5088 [.g 0, .g 1, .g 2, .g 3, .g 4, .g 5, .g 6, .g 7, .g 8, .g 9, .g 10, .g 11, .g 12, .g 13, .g 14] c_5088_10 (by kernel_rfl)
               · refine SC.skipJ fun a w h => ?_
                 exact ⟨w_1.credits, hp, h.at (js := [.g 0, .g 1, .g 2, .g 3, .g 4, .g 5, .g 6, .g 7, .g 8, .g 9, .g 6, .g 11, .g 12, .g 13]) (by kernel_rfl)⟩
             · rintro a w ⟨l_5086, hp, h⟩
               refine h.go ?_
               refine SC.reg ?_
               refine SL.sim tk 5 [] [(0, 53, (C_wirelesslaw33_wire ({ w_1 with b := c_5084, credits := l_5086 }) (.s 1) (.s 2) (.s 12) (.s 13) (.s 5) (.s 10) (.s 7) (.s 8)))] [] [] (by kernel_rfl) ?_
               refine SL.nilJ fun a w h => ?_
               exact ⟨{ w_1 with b := c_5084, credits := l_5086 }, hp, h.at (js := [.g 0, .g 1, .g 2, .g 3, .g 4, .g 5, .g 6, .g 7, .g 8, .g 9, .g 1, .g 2, .g 12, .g 13, .g 5, .g 10, .g 7, .g 8]) (by kernel_rfl)⟩
         · refine SC.r tk [(0, vp 0 0), (3, vp 10 0), (168, vb ((remp x_2.Kind 5) == 4))] [] [] [] (by kernel_rfl) ?_
           refine SC.if' rfl hp (fun hp => ?_) (fun hp => ?_)
           · refine SC.r tk [(0, vp 0 0), (3, vp 10 0), (14, vi .i64 0)] [] [] [] (by kernel_rfl) ?_
             refine SC.block ?_
             obtain ⟨o2, hi2, ho2⟩ := bind_inv hp
             clear hp
             refine SC.loop (fun n a w => ∃ (c_7428 : T_wirelesslaw33_wire) (x_7429 : Int), iter (fun s => wirelesslaw33_wire_step_l2 F w_1 x_2 s.1 s.2) n (c_7428, x_7429) = some o2 ∧ A 223 10 fx [(0, vp 0 0), (3, vp 13 0), (14, vi .i64 x_7429)] [.blk 53 (C_wirelesslaw33_wire ({ w_1 with a := c_7428.a, credits := c_7428.credits, bad := c_7428.bad }) (.s 10) (.s 11) (.s 3) (.s 4) (.s 5) (.s 12) (.s 7) (.s 8)), .gone, .gone, .rd 1 (RSl 1 R8) w_1.b.Out, .rd 1 R8 w_1.b.In, .own 1 24 (RSl 1 R8) w_1.frames, .gone, .own 1 24 (RSl 1 R8) w_1.queued, .own 1 24 (RSl 1 R8) w_1.got, .rd 1 R8 x_2.SDU, .rd 1 (RSl 1 R8) c_7428.a.Out, .rd 1 R8 c_7428.a.In, .own 1 3 (RInt .i64) c_7428.credits, .blk 49 (C_wirelesslaw33_Step x_2 (.s 9))] a w) F (fun a w h => ⟨w_1, 0, hi2, h.at (js := [.g 0, .g 1, .g 2, .g 3, .g 4, .g 5, .g 6, .g 7, .g 8, .g 9, .g 1, .g 2, .g 6, .g 10]) (by kernel_rfl)⟩) ?_
             rintro n2 a w ⟨c_7428, x_7429, hi2, h⟩
             obtain ⟨n2, q2, rfl, hp, hs2⟩ := iter_inv hi2
             replace hp : wirelesslaw33_wire_step_l2 F w_1 x_2 c_7428 x_7429 = some q2 := hp
             clear hi2
             refine h.go ?_
             refine SC.seq ?_
             refine SC.r tk [(0, vp 0 0), (3, vp 13 0), (14, vi .i64 x_7429), (189, vb (((decide (x_7429 < (w64 x_2.N))) && (decide ((len c_7428.credits) > 0))) && (!c_7428.bad)))] [] [] [] (by kernel_rfl) ?_
             refine SC.if' rfl hp (fun hp => ?_) (fun hp => ?_)
             · refine SC.skipThen ?_
               refine SC.seq ?_
               refine SC.block ?_
               refine SC.cut (fun a w => ∃ (c_7445 : T_api_Channel) (x_7446 : Int), wirelesslaw33_wire_step_j8 F w_1 c_7428 x_7429 c_7445 x_7446 = some q2 ∧ A 223 10 fx [(0, vp 0 0), (3, vp 13 0), (14, vi .i64 x_7429), (15, vp 14 0), (16, vi .i64 x_7446)] [.blk 53 (C_wirelesslaw33_wire ({ w_1 with a := c_7428.a, credits := c_7428.credits, bad := c_7428.bad }) (.s 10) (.s 11) (.s 3) (.s 4) (.s 5) (.s 12) (.s 7) (.s 8)), .gone, .gone, .rd 1 (RSl 1 R8) w_1.b.Out, .rd 1 R8 w_1.b.In, .own 1 24 (RSl 1 R8) w_1.frames, .gone, .own 1 24 (RSl 1 R8) w_1.queued, .own 1 24 (RSl 1 R8) w_1.got, .rd 1 R8 x_2.SDU, .rd 1 (RSl 1 R8) c_7428.a.Out, .rd 1 R8 c_7428.a.In, .own 1 3 (RInt .i64) c_7428.credits, .blk 49 (C_wirelesslaw33_Step x_2 (.s 9)), .blk 26 (C_api_Channel c_7445 (.s 15) (.s 16)), .rd 1 (RSl 1 R8) c_7445.Out, .rd 1 R8 c_7445.In] a w) ?_ ?_
               · refine SC.draw MO [I, O, O, I, I, I, O, I, I, I, I, I, I, I] (by kernel_rfl) fun kap_8650 D_8651 => ?_
                 refine SD.takes tk D_8651 [] kn0 [0, 1, 2, 3, 4, 5, 6, 7] [] [] [I, I, I, I, I, I, I, I, O, O, O, O, O, O, O, O, O] [(0, vp 0 0), (3, vp 13 0), (14, vi .i64 x_7429), (196, .g (C_api_Channel c_7428.a (.s 10) (.s 11))), (200, vs 12)] rfl (by kernel_rfl) (by kernel_rfl) (by kernel_rfl) ?_
                 obtain ⟨x_9292, e_x_9292, hp⟩ := bind_inv hp
                 obtain ⟨x_9372, e_x_9372, hp⟩ := bind_inv hp
                 obtain ⟨x_9452, e_x_9452, hp⟩ := bind_inv hp
                 refine SD.lay 0 [I, I, I, I, I, I, I, I, I, I, I, I, I, I, I, I, I] [(0, vp 0 0), (3, vp 13 0), (14, vi .i64 x_7429), (15, vp 16 0), (16, vi .i64 x_9452.2)] [.blk 53 (C_wirelesslaw33_wire ({ w_1 with a := c_7428.a, credits := c_7428.credits, bad := c_7428.bad }) (.s 10) (.s 11) (.s 3) (.s 4) (.s 5) (.s 12) (.s 7) (.s 8)), .gone, .gone, .rd 1 (RSl 1 R8) w_1.b.Out, .rd 1 R8 w_1.b.In, .own 1 24 (RSl 1 R8) w_1.frames, .gone, .own 1 24 (RSl 1 R8) w_1.queued, .own 1 24 (RSl 1 R8) w_1.got, .rd 1 R8 x_2.SDU, .rd 1 (RSl 1 R8) c_7428.a.Out, .rd 1 R8 c_7428.a.In, .own 1 3 (RInt .i64) c_7428.credits, .blk 49 (C_wirelesslaw33_Step x_2 (.s 9)), .rd 1 (RSl 1 R8) x_9452.1.Out, .rd 1 R8 x_9452.1.In, .blk 26 (C_api_Channel x_9452.1 (.s 14) (.s 15))] ?_ (fun c_8651_0 => ?_)
                 · refine SD.done (by kernel_rfl) fun a w h => ?_
                   exact ⟨x_9452.1, x_9452.2, hp, h.at (js := [.g 0, .g 1, .g 2, .g 3, .g 4, .g 5, .g 6, .g 7, .g 8, .g 9, .g 10, .g 11, .g 12, .g 13, .g 16, .g 14, .g 15]) (by kernel_rfl)⟩
                 · refine SD.lay 2 [I, I, I, I, I, I, I, I, I, I, I, I, I, I, I, O, O] [(0, vp 0 0), (3, vp 13 0), (14, vi .i64 x_7429), (15, vp 16 0), (204, .g (C_api_Channel x_9452.1 (.s 14) (.s 15))), (205, vi .i64 x_9452.2)] [.blk 53 (C_wirelesslaw33_wire ({ w_1 with a := c_7428.a, credits := c_7428.credits, bad := c_7428.bad }) (.s 10) (.s 11) (.s 3) (.s 4) (.s 5) (.s 12) (.s 7) (.s 8)), .gone, .gone, .rd 1 (RSl 1 R8) w_1.b.Out, .rd 1 R8 w_1.b.In, .own 1 24 (RSl 1 R8) w_1.frames, .gone, .own 1 24 (RSl 1 R8) w_1.queued, .own 1 24 (RSl 1 R8) w_1.got, .rd 1 R8 x_2.SDU, .rd 1 (RSl 1 R8) c_7428.a.Out, .rd 1 R8 c_7428.a.In, .own 1 3 (RInt .i64) c_7428.credits, .blk 49 (C_wirelesslaw33_Step x_2 (.s 9)), .rd 1 (RSl 1 R8) x_9452.1.Out, .rd 1 R8 x_9452.1.In, .blk 26 (C_api_Channel (T_api_Channel.mk 0 0 0 0 0 0 0 0 0 0 [] 0 [] 0 false) nl nl)] ?_ (fun c_8651_1 => ?_)
                   · refine SD.all1 (i := 15) (by kernel_rfl) ?_
                     refine SW.store D_8651 tk (i := 15) (q := 16) (T := 26) (cs := (C_api_Channel x_9452.1 (.s 14) (.s 15))) (bs' := [I, I, I, I, I, I, I, I, I, I, I, I, I, I, I, I, O]) rfl (by kernel_rfl) rfl rfl (by kernel_rfl) ?_
                     refine SD.takes tk D_8651 [] kn0 [16] [] [] [I, I, I, I, I, I, I, I, I, I, I, I, I, I, I, I, I] [(0, vp 0 0), (3, vp 13 0), (14, vi .i64 x_7429), (15, vp 16 0), (16, vi .i64 x_9452.2)] rfl (by kernel_rfl) (by kernel_rfl) (by kernel_rfl) ?_
                     exact SD.vie D_8651 [.g 0, .g 1, .g 2, .g 3, .g 4, .g 5, .g 6, .g 7, .g 8, .g 9, .g 10, .g 11, .g 12, .g 13, .g 14, .g 15, .g 16] c_8651_0 (by kernel_rfl)
                   · refine SD.lay 3 [I, I, I, I, I, I, I, I, I, I, I, I, I, I, O, O, O] [(0, vp 0 0), (3, vp 13 0), (14, vi .i64 x_7429), (204, .g (C_api_Channel x_9452.1 (.s 14) (.s 15))), (205, vi .i64 x_9452.2)] [.blk 53 (C_wirelesslaw33_wire ({ w_1 with a := c_7428.a, credits := c_7428.credits, bad := c_7428.bad }) (.s 10) (.s 11) (.s 3) (.s 4) (.s 5) (.s 12) (.s 7) (.s 8)), .gone, .gone, .rd 1 (RSl 1 R8) w_1.b.Out, .rd 1 R8 w_1.b.In, .own 1 24 (RSl 1 R8) w_1.frames, .gone, .own 1 24 (RSl 1 R8) w_1.queued, .own 1 24 (RSl 1 R8) w_1.got, .rd 1 R8 x_2.SDU, .rd 1 (RSl 1 R8) c_7428.a.Out, .rd 1 R8 c_7428.a.In, .own 1 3 (RInt .i64) c_7428.credits, .blk 49 (C_wirelesslaw33_Step x_2 (.s 9)), .rd 1 (RSl 1 R8) x_9452.1.Out, .rd 1 R8 x_9452.1.In] ?_ (fun c_8651_2 => ?_)
                     · refine SD.all1 (i := 14) (by kernel_rfl) ?_
                       refine SW.eff D_8651 (i := 14) (bs' := [I, I, I, I, I, I, I, I, I, I, I, I, I, I, I, O, O]) rfl (.inl rfl) rfl (e_alloc (E := 26) tk (C_api_Channel (T_api_Channel.mk 0 0 0 0 0 0 0 0 0 0 [] 0 [] 0 false) nl nl) (by kernel_rfl)) (by kernel_rfl) rfl (by kernel_rfl) ?_
                       exact SD.vie D_8651 [.g 0, .g 1, .g 2, .g 3, .g 4, .g 5, .g 6, .g 7, .g 8, .g 9, .g 10, .g 11, .g 12, .g 13, .g 14, .g 15, .g 16] c_8651_1 (by kernel_rfl)
                     · refine SD.lay 6 [I, I, I, I, I, I, I, I, I, I, O, O, O, O, I, O, O] [(0, vp 0 0), (3, vp 13 0), (14, vi .i64 x_7429), (15, vp 14 0), (196, .g (C_api_Channel c_7428.a (.s 10) (.s 11))), (202, vi .i64 x_9372)] [.blk 53 (C_wirelesslaw33_wire ({ w_1 with a := c_7428.a, credits := c_7428.credits, bad := c_7428.bad }) (.s 10) (.s 11) (.s 3) (.s 4) (.s 5) (.s 12) (.s 7) (.s 8)), .gone, .gone, .rd 1 (RSl 1 R8) w_1.b.Out, .rd 1 R8 w_1.b.In, .own 1 24 (RSl 1 R8) w_1.frames, .gone, .own 1 24 (RSl 1 R8) w_1.queued, .own 1 24 (RSl 1 R8) w_1.got, .rd 1 R8 x_2.SDU, .rd 1 (RSl 1 R8) c_7428.a.Out, .rd 1 R8 c_7428.a.In, .own 1 3 (RInt .i64) c_7428.credits, .blk 49 (C_wirelesslaw33_Step x_2 (.s 9)), .blk 26 (C_api_Channel (T_api_Channel.mk 0 0 0 0 0 0 0 0 0 0 [] 0 [] 0 false) nl nl)] ?_ (fun c_8651_3 => ?_)
                       · refine SD.all1 (i := 10) (by kernel_rfl) ?_
                         refine SW.eff D_8651 (i := 10) (bs' := [I, I, I, I, I, I, I, I, I, I, I, O, O, O, I, O, O]) rfl (.inl rfl) rfl (e_c Try.call24 (ok_sdu_Credit F c_7428.a x_9372 _ e_x_9452) [.g 10, .g 11] [.g (C_api_Channel c_7428.a (.s 10) (.s 11)), vi .i64 x_9372] (.u [.inr (C_api_Channel x_9452.1 (.s 15) (.s 16)), .inl (ci .i64 x_9452.2)]) (by kernel_rfl) (.inl rfl)) (by kernel_rfl) rfl (by kernel_rfl) ?_
                         refine SD.takes tk D_8651 [] kn0 [11, 12, 13] [] [] [I, I, I, I, I, I, I, I, I, I, I, I, I, I, I, O, O] [(0, vp 0 0), (3, vp 13 0), (14, vi .i64 x_7429), (15, vp 14 0), (204, .g (C_api_Channel x_9452.1 (.s 15) (.s 16))), (205, vi .i64 x_9452.2)] rfl (by kernel_rfl) (by kernel_rfl) (by kernel_rfl) ?_
                         exact SD.vie D_8651 [.g 0, .g 1, .g 2, .g 3, .g 4, .g 5, .g 6, .g 7, .g 8, .g 9, .g 10, .g 11, .g 12, .g 13, .g 15, .g 16, .g 14] c_8651_1 (by kernel_rfl)
                       · refine SD.lay 7 [I, I, I, I, I, I, I, I, I, I, O, O, O, O, O, O, O] [(0, vp 0 0), (3, vp 13 0), (14, vi .i64 x_7429), (196, .g (C_api_Channel c_7428.a (.s 10) (.s 11))), (202, vi .i64 x_9372)] [.blk 53 (C_wirelesslaw33_wire ({ w_1 with a := c_7428.a, credits := c_7428.credits, bad := c_7428.bad }) (.s 10) (.s 11) (.s 3) (.s 4) (.s 5) (.s 12) (.s 7) (.s 8)), .gone, .gone, .rd 1 (RSl 1 R8) w_1.b.Out, .rd 1 R8 w_1.b.In, .own 1 24 (RSl 1 R8) w_1.frames, .gone, .own 1 24 (RSl 1 R8) w_1.queued, .own 1 24 (RSl 1 R8) w_1.got, .rd 1 R8 x_2.SDU, .rd 1 (RSl 1 R8) c_7428.a.Out, .rd 1 R8 c_7428.a.In, .own 1 3 (RInt .i64) c_7428.credits, .blk 49 (C_wirelesslaw33_Step x_2 (.s 9))] ?_ (fun c_8651_4 => ?_)
                         · refine SD.all2 (i := 10) (j := 14) (by kernel_rfl) ?_ ?_
                           · refine SW.eff D_8651 (i := 10) (bs' := [I, I, I, I, I, I, I, I, I, I, I, O, O, O, O, O, O]) rfl (.inl rfl) rfl (e_c Try.call24 (ok_sdu_Credit F c_7428.a x_9372 _ e_x_9452) [.g 10, .g 11] [.g (C_api_Channel c_7428.a (.s 10) (.s 11)), vi .i64 x_9372] (.u [.inr (C_api_Channel x_9452.1 (.s 14) (.s 15)), .inl (ci .i64 x_9452.2)]) (by kernel_rfl) (.inl rfl)) (by kernel_rfl) rfl (by kernel_rfl) ?_
                             refine SD.takes tk D_8651 [] kn0 [11, 12, 13] [] [] [I, I, I, I, I, I, I, I, I, I, I, I, I, I, O, O, O] [(0, vp 0 0), (3, vp 13 0), (14, vi .i64 x_7429), (204, .g (C_api_Channel x_9452.1 (.s 14) (.s 15))), (205, vi .i64 x_9452.2)] rfl (by kernel_rfl) (by kernel_rfl) (by kernel_rfl) ?_
                             exact SD.vie D_8651 [.g 0, .g 1, .g 2, .g 3, .g 4, .g 5, .g 6, .g 7, .g 8, .g 9, .g 10, .g 11, .g 12, .g 13, .g 14, .g 15] c_8651_2 (by kernel_rfl)
                           · refine SW.eff D_8651 (i := 14) (bs' := [I, I, I, I, I, I, I, I, I, I, O, O, O, O, I, O, O]) rfl (.inl rfl) rfl (e_alloc (E := 26) tk (C_api_Channel (T_api_Channel.mk 0 0 0 0 0 0 0 0 0 0 [] 0 [] 0 false) nl nl) (by kernel_rfl)) (by kernel_rfl) rfl (by kernel_rfl) ?_
                             exact SD.vie D_8651 [.g 0, .g 1, .g 2, .g 3, .g 4, .g 5, .g 6, .g 7, .g 8, .g 9, .g 10, .g 11, .g 12, .g 13, .g 14] c_8651_3 (by kernel_rfl)
                         · refine SD.lay 7 [I, I, I, I, I, I, I, I, I, O, O, O, O, O, I, O, O] [(0, vp 0 0), (3, vp 13 0), (14, vi .i64 x_7429), (15, vp 14 0), (196, .g (C_api_Channel c_7428.a (.s 10) (.s 11))), (201, vp 12 ((0 : Int).toNat * 1))] [.blk 53 (C_wirelesslaw33_wire ({ w_1 with a := c_7428.a, credits := c_7428.credits, bad := c_7428.bad }) (.s 10) (.s 11) (.s 3) (.s 4) (.s 5) (.s 12) (.s 7) (.s 8)), .gone, .gone, .rd 1 (RSl 1 R8) w_1.b.Out, .rd 1 R8 w_1.b.In, .own 1 24 (RSl 1 R8) w_1.frames, .gone, .own 1 24 (RSl 1 R8) w_1.queued, .own 1 24 (RSl 1 R8) w_1.got, .rd 1 R8 x_2.SDU, .rd 1 (RSl 1 R8) c_7428.a.Out, .rd 1 R8 c_7428.a.In, .own 1 3 (RInt .i64) c_7428.credits, .blk 49 (C_wirelesslaw33_Step x_2 (.s 9)), .blk 26 (C_api_Channel (T_api_Channel.mk 0 0 0 0 0 0 0 0 0 0 [] 0 [] 0 false) nl nl)] ?_ (fun c_8651_5 => ?_)
                           · refine SD.all1 (i := 9) (by kernel_rfl) ?_
                             refine SW.eff D_8651 (i := 9) (bs' := [I, I, I, I, I, I, I, I, I, I, O, O, O, O, I, O, O]) rfl (.inl rfl) rfl (e_ldp1 (E := 3) (R := (RInt .i64)) (i := 12) (iv := 0) (l := c_7428.credits) tk rfl rfl e_x_9372 rfl (by kernel_rfl) (by kernel_rfl) rfl) (by kernel_rfl) rfl (by kernel_rfl) ?_
                             exact SD.vie D_8651 [.g 0, .g 1, .g 2, .g 3, .g 4, .g 5, .g 6, .g 7, .g 8, .g 9, .g 10, .g 11, .g 12, .g 13, .g 14] c_8651_3 (by kernel_rfl)
                           · refine SD.lay 8 [I, I, I, I, I, I, I, I, I, O, O, O, O, O, O, O, O] [(0, vp 0 0), (3, vp 13 0), (14, vi .i64 x_7429), (196, .g (C_api_Channel c_7428.a (.s 10) (.s 11))), (201, vp 12 ((0 : Int).toNat * 1))] [.blk 53 (C_wirelesslaw33_wire ({ w_1 with a := c_7428.a, credits := c_7428.credits, bad := c_7428.bad }) (.s 10) (.s 11) (.s 3) (.s 4) (.s 5) (.s 12) (.s 7) (.s 8)), .gone, .gone, .rd 1 (RSl 1 R8) w_1.b.Out, .rd 1 R8 w_1.b.In, .own 1 24 (RSl 1 R8) w_1.frames, .gone, .own 1 24 (RSl 1 R8) w_1.queued, .own 1 24 (RSl 1 R8) w_1.got, .rd 1 R8 x_2.SDU, .rd 1 (RSl 1 R8) c_7428.a.Out, .rd 1 R8 c_7428.a.In, .own 1 3 (RInt .i64) c_7428.credits, .blk 49 (C_wirelesslaw33_Step x_2 (.s 9))] ?_ (fun c_8651_6 => ?_)
                             · refine SD.all2 (i := 9) (j := 14) (by kernel_rfl) ?_ ?_
                               · refine SW.eff D_8651 (i := 9) (bs' := [I, I, I, I, I, I, I, I, I, I, O, O, O, O, O, O, O]) rfl (.inl rfl) rfl (e_ldp1 (E := 3) (R := (RInt .i64)) (i := 12) (iv := 0) (l := c_7428.credits) tk rfl rfl e_x_9372 rfl (by kernel_rfl) (by kernel_rfl) rfl) (by kernel_rfl) rfl (by kernel_rfl) ?_
                                 exact SD.vie D_8651 [.g 0, .g 1, .g 2, .g 3, .g 4, .g 5, .g 6, .g 7, .g 8, .g 9, .g 10, .g 11, .g 12, .g 13] c_8651_4 (by kernel_rfl)
                               · refine SW.eff D_8651 (i := 14) (bs' := [I, I, I, I, I, I, I, I, I, O, O, O, O, O, I, O, O]) rfl (.inl rfl) rfl (e_alloc (E := 26) tk (C_api_Channel (T_api_Channel.mk 0 0 0 0 0 0 0 0 0 0 [] 0 [] 0 false) nl nl) (by kernel_rfl)) (by kernel_rfl) rfl (by kernel_rfl) ?_
                                 exact SD.vie D_8651 [.g 0, .g 1, .g 2, .g 3, .g 4, .g 5, .g 6, .g 7, .g 8, .g 9, .g 10, .g 11, .g 12, .g 13, .g 14] c_8651_5 (by kernel_rfl)
                             · refine SD.lay 8 [I, I, I, I, I, I, I, I, O, O, O, O, O, O, I, O, O] [(0, vp 0 0), (3, vp 13 0), (14, vi .i64 x_7429), (15, vp 14 0), (196, .g (C_api_Channel c_7428.a (.s 10) (.s 11))), (200, vs 12)] [.blk 53 (C_wirelesslaw33_wire ({ w_1 with a := c_7428.a, credits := c_7428.credits, bad := c_7428.bad }) (.s 10) (.s 11) (.s 3) (.s 4) (.s 5) (.s 12) (.s 7) (.s 8)), .gone, .gone, .rd 1 (RSl 1 R8) w_1.b.Out, .rd 1 R8 w_1.b.In, .own 1 24 (RSl 1 R8) w_1.frames, .gone, .own 1 24 (RSl 1 R8) w_1.queued, .own 1 24 (RSl 1 R8) w_1.got, .rd 1 R8 x_2.SDU, .rd 1 (RSl 1 R8) c_7428.a.Out, .rd 1 R8 c_7428.a.In, .own 1 3 (RInt .i64) c_7428.credits, .blk 49 (C_wirelesslaw33_Step x_2 (.s 9)), .blk 26 (C_api_Channel (T_api_Channel.mk 0 0 0 0 0 0 0 0 0 0 [] 0 [] 0 false) nl nl)] ?_ (fun c_8651_7 => ?_)
                               · refine SD.all1 (i := 8) (by kernel_rfl) ?_
                                 refine SW.eff D_8651 (i := 8) (bs' := [I, I, I, I, I, I, I, I, I, O, O, O, O, O, I, O, O]) rfl (.inl rfl) rfl (e_ixp (sz := 1) (E := 3) (R := (RInt .i64)) (by_ := 8) (l := c_7428.credits) tk rfl rfl rfl e_x_9292 (by kernel_rfl)) (by kernel_rfl) rfl (by kernel_rfl) ?_
                                 exact SD.vie D_8651 [.g 0, .g 1, .g 2, .g 3, .g 4, .g 5, .g 6, .g 7, .g 8, .g 9, .g 10, .g 11, .g 12, .g 13, .g 14] c_8651_5 (by kernel_rfl)
                               · refine SD.all2 (i := 8) (j := 14) (by kernel_rfl) ?_ ?_
                                 · refine SW.eff D_8651 (i := 8) (bs' := [I, I, I, I, I, I, I, I, I, O, O, O, O, O, O, O, O]) rfl (.inl rfl) rfl (e_ixp (sz := 1) (E := 3) (R := (RInt .i64)) (by_ := 8) (l := c_7428.credits) tk rfl rfl rfl e_x_9292 (by kernel_rfl)) (by kernel_rfl) rfl (by kernel_rfl) ?_
                                   exact SD.vie D_8651 [.g 0, .g 1, .g 2, .g 3, .g 4, .g 5, .g 6, .g 7, .g 8, .g 9, .g 10, .g 11, .g 12, .g 13] c_8651_6 (by kernel_rfl)
                                 · refine SW.eff D_8651 (i := 14) (bs' := [I, I, I, I, I, I, I, I, O, O, O, O, O, O, I, O, O]) rfl (.inl rfl) rfl (e_alloc (E := 26) tk (C_api_Channel (T_api_Channel.mk 0 0 0 0 0 0 0 0 0 0 [] 0 [] 0 false) nl nl) (by kernel_rfl)) (by kernel_rfl) rfl (by kernel_rfl) ?_
                                   exact SD.vie D_8651 [.g 0, .g 1, .g 2, .g 3, .g 4, .g 5, .g 6, .g 7, .g 8, .g 9, .g 10, .g 11, .g 12, .g 13, .g 14] c_8651_7 (by kernel_rfl)
               · rintro a w ⟨c_7445, x_7446, hp, h⟩
                 refine h.go ?_
                 refine SC.cut (fun a w => ∃ (l_7447 : (List Int)), wirelesslaw33_wire_step_j9 F w_1 x_7429 c_7445 x_7446 l_7447 = some q2 ∧ A 223 10 fx [(0, vp 0 0), (3, vp 13 0), (14, vi .i64 x_7429), (16, vi .i64 x_7446)] [.blk 53 (C_wirelesslaw33_wire ({ w_1 with a := c_7445, credits := l_7447, bad := c_7428.bad }) (.s 10) (.s 11) (.s 3) (.s 4) (.s 5) (.s 12) (.s 7) (.s 8)), .gone, .gone, .rd 1 (RSl 1 R8) w_1.b.Out, .rd 1 R8 w_1.b.In, .own 1 24 (RSl 1 R8) w_1.frames, .gone, .own 1 24 (RSl 1 R8) w_1.queued, .own 1 24 (RSl 1 R8) w_1.got, .rd 1 R8 x_2.SDU, .rd 1 (RSl 1 R8) c_7445.Out, .rd 1 R8 c_7445.In, .own 1 3 (RInt .i64) l_7447, .blk 49 (C_wirelesslaw33_Step x_2 (.s 9))] a w) ?_ ?_
                 · refine SC.draw MO [O, O, O, I, I, I, O, I, I, I, I, I, O, I, I, I, I] (by kernel_rfl) fun kap_7448 D_7449 => ?_
                   refine SD.takes tk D_7449 [] kn0 [0, 1, 2, 3] [] [] [I, I, I, I, O, O, O, O, O, O, O, O, O, O] [(0, vp 0 0), (3, vp 13 0), (14, vi .i64 x_7429), (16, vi .i64 x_7446), (206, vp 0 0), (207, vp 0 0), (208, .g (C_api_Channel c_7445 (.s 15) (.s 16))), (209, vp 0 0)] rfl (by kernel_rfl) (by kernel_rfl) (by kernel_rfl) ?_
                   refine SD.all1 (i := 4) (by kernel_rfl) ?_
                   refine SW.eff D_7449 (i := 4) (v := vp 0 0) (bs' := [I, I, I, I, I, O, O, O, O, O, O, O, O, O]) rfl (.inl rfl) rfl (e_val tk (by kernel_rfl)) (by kernel_rfl) rfl (by kernel_rfl) ?_
                   refine SD.all1 (i := 5) (by kernel_rfl) ?_
                   refine SW.eff D_7449 (i := 5) (v := vp 0 31) (bs' := [I, I, I, I, I, I, O, O, O, O, O, O, O, O]) rfl (.inl rfl) rfl (e_val tk (by kernel_rfl)) (by kernel_rfl) rfl (by kernel_rfl) ?_
                   refine SD.norm (itsN := [.blk 53 (C_wirelesslaw33_wire ({ w_1 with a := c_7428.a, credits := c_7428.credits, bad := c_7428.bad }) (.s 10) (.s 11) (.s 3) (.s 4) (.s 5) (.s 12) (.s 7) (.s 8)), .gone, .gone, .rd 1 (RSl 1 R8) w_1.b.Out, .rd 1 R8 w_1.b.In, .own 1 24 (RSl 1 R8) w_1.frames, .gone, .own 1 24 (RSl 1 R8) w_1.queued, .own 1 24 (RSl 1 R8) w_1.got, .rd 1 R8 x_2.SDU, .rd 1 (RSl 1 R8) c_7428.a.Out, .rd 1 R8 c_7428.a.In, .own 1 3 (RInt .i64) c_7428.credits, .blk 49 (C_wirelesslaw33_Step x_2 (.s 9)), .blk 26 (C_api_Channel c_7445 (.s 15) (.s 16)), .rd 1 (RSl 1 R8) c_7445.Out, .rd 1 R8 c_7445.In]) (by kernel_rfl) ?_
                   refine SD.all1 (i := 6) (by kernel_rfl) ?_
                   refine SW.eff D_7449 (i := 6) (v := vs 12) (bs' := [I, I, I, I, I, I, I, O, O, O, O, O, O, O]) rfl (.inl rfl) rfl (e_val tk (by kernel_rfl)) (by kernel_rfl) rfl (by kernel_rfl) ?_
                   obtain ⟨l_8010, e_l_8010, hp⟩ := bind_inv hp
                   refine SD.lay 0 [I, I, I, I, I, I, I, I, I, I, I, I, I, I] [(0, vp 0 0), (3, vp 13 0), (14, vi .i64 x_7429), (16, vi .i64 x_7446)] [.blk 53 (C_wirelesslaw33_wire ({ w_1 with a := c_7445, credits := l_8010, bad := c_7428.bad }) (.s 15) (.s 16) (.s 3) (.s 4) (.s 5) (.s 17) (.s 7) (.s 8)), .gone, .gone, .rd 1 (RSl 1 R8) w_1.b.Out, .rd 1 R8 w_1.b.In, .own 1 24 (RSl 1 R8) w_1.frames, .gone, .own 1 24 (RSl 1 R8) w_1.queued, .own 1 24 (RSl 1 R8) w_1.got, .rd 1 R8 x_2.SDU, .rd 1 (RSl 1 R8) c_7428.a.Out, .rd 1 R8 c_7428.a.In, .gone, .blk 49 (C_wirelesslaw33_Step x_2 (.s 9)), .blk 26 (C_api_Channel c_7445 (.s 15) (.s 16)), .rd 1 (RSl 1 R8) c_7445.Out, .rd 1 R8 c_7445.In, .own 1 3 (RInt .i64) l_8010] ?_ (fun c_7449_0 => ?_)
                   · refine SD.done (by kernel_rfl) fun a w h => ?_
                     exact ⟨l_8010, hp, h.at (js := [.g 0, .g 1, .g 2, .g 3, .g 4, .g 5, .g 6, .g 7, .g 8, .g 9, .g 15, .g 16, .g 17, .g 13]) (by kernel_rfl)⟩
                   · refine SD.lay 1 [I, I, I, I, I, I, I, I, I, I, I, I, I, O] [(0, vp 0 0), (3, vp 13 0), (14, vi .i64 x_7429), (16, vi .i64 x_7446), (213, vs 17), (217, vp 0 31)] [.blk 53 [ci .u16 c_7445.Local, ci .u16 c_7445.Remote, ci .u16 c_7445.PSM, ci .i64 c_7445.MTU, ci .i64 c_7445.MPS, ci .i64 c_7445.PeerMTU, ci .i64 c_7445.PeerMPS, ci .i64 c_7445.TxCredits, ci .i64 c_7445.RxCredits, ci .i64 c_7445.Given, .s 15, ci .i64 c_7445.Sent, .s 16, ci .i64 c_7445.Want, cb c_7445.Failed, ci .u16 w_1.b.Local, ci .u16 w_1.b.Remote, ci .u16 w_1.b.PSM, ci .i64 w_1.b.MTU, ci .i64 w_1.b.MPS, ci .i64 w_1.b.PeerMTU, ci .i64 w_1.b.PeerMPS, ci .i64 w_1.b.TxCredits, ci .i64 w_1.b.RxCredits, ci .i64 w_1.b.Given, .s 3, ci .i64 w_1.b.Sent, .s 4, ci .i64 w_1.b.Want, cb w_1.b.Failed, .s 5, .s 12, .s 7, .s 8, cb c_7428.bad], .gone, .gone, .rd 1 (RSl 1 R8) w_1.b.Out, .rd 1 R8 w_1.b.In, .own 1 24 (RSl 1 R8) w_1.frames, .gone, .own 1 24 (RSl 1 R8) w_1.queued, .own 1 24 (RSl 1 R8) w_1.got, .rd 1 R8 x_2.SDU, .rd 1 (RSl 1 R8) c_7428.a.Out, .rd 1 R8 c_7428.a.In, .gone, .blk 49 (C_wirelesslaw33_Step x_2 (.s 9)), .blk 26 (C_api_Channel c_7445 (.s 15) (.s 16)), .rd 1 (RSl 1 R8) c_7445.Out, .rd 1 R8 c_7445.In, .own 1 3 (RInt .i64) l_8010] ?_ (fun c_7449_1 => ?_)
                     · refine SD.all1 (i := 13) (by kernel_rfl) ?_
                       refine SW.store D_7449 tk (i := 13) (q := 0) (T := 53) (cs := (C_wirelesslaw33_wire ({ w_1 with a := c_7445, credits := l_8010, bad := c_7428.bad }) (.s 15) (.s 16) (.s 3) (.s 4) (.s 5) (.s 17) (.s 7) (.s 8))) (bs' := [I, I, I, I, I, I, I, I, I, I, I, I, I, I]) rfl (by kernel_rfl) rfl rfl (by kernel_rfl) ?_
                       exact SD.vie D_7449 [.g 0, .g 1, .g 2, .g 3, .g 4, .g 5, .g 6, .g 7, .g 8, .g 9, .g 10, .g 11, .g 12, .g 13, .g 14, .g 15, .g 16, .g 17] c_7449_0 (by kernel_rfl)
                     · refine SD.lay 2 [I, I, I, I, I, I, I, I, I, I, I, I, O, O] [(0, vp 0 0), (3, vp 13 0), (14, vi .i64 x_7429), (16, vi .i64 x_7446), (213, vs 17), (216, vp 0 0)] [.blk 53 [ci .u16 c_7445.Local, ci .u16 c_7445.Remote, ci .u16 c_7445.PSM, ci .i64 c_7445.MTU, ci .i64 c_7445.MPS, ci .i64 c_7445.PeerMTU, ci .i64 c_7445.PeerMPS, ci .i64 c_7445.TxCredits, ci .i64 c_7445.RxCredits, ci .i64 c_7445.Given, .s 15, ci .i64 c_7445.Sent, .s 16, ci .i64 c_7445.Want, cb c_7445.Failed, ci .u16 w_1.b.Local, ci .u16 w_1.b.Remote, ci .u16 w_1.b.PSM, ci .i64 w_1.b.MTU, ci .i64 w_1.b.MPS, ci .i64 w_1.b.PeerMTU, ci .i64 w_1.b.PeerMPS, ci .i64 w_1.b.TxCredits, ci .i64 w_1.b.RxCredits, ci .i64 w_1.b.Given, .s 3, ci .i64 w_1.b.Sent, .s 4, ci .i64 w_1.b.Want, cb w_1.b.Failed, .s 5, .s 12, .s 7, .s 8, cb c_7428.bad], .gone, .gone, .rd 1 (RSl 1 R8) w_1.b.Out, .rd 1 R8 w_1.b.In, .own 1 24 (RSl 1 R8) w_1.frames, .gone, .own 1 24 (RSl 1 R8) w_1.queued, .own 1 24 (RSl 1 R8) w_1.got, .rd 1 R8 x_2.SDU, .rd 1 (RSl 1 R8) c_7428.a.Out, .rd 1 R8 c_7428.a.In, .gone, .blk 49 (C_wirelesslaw33_Step x_2 (.s 9)), .blk 26 (C_api_Channel c_7445 (.s 15) (.s 16)), .rd 1 (RSl 1 R8) c_7445.Out, .rd 1 R8 c_7445.In, .own 1 3 (RInt .i64) l_8010] ?_ (fun c_7449_2 => ?_)
                       · refine SD.all1 (i := 12) (by kernel_rfl) ?_
                         refine SW.eff D_7449 (i := 12) (v := vp 0 31) (bs' := [I, I, I, I, I, I, I, I, I, I, I, I, I, O]) rfl (.inl rfl) rfl (e_val tk (by kernel_rfl)) (by kernel_rfl) rfl (by kernel_rfl) ?_
                         exact SD.vie D_7449 [.g 0, .g 1, .g 2, .g 3, .g 4, .g 5, .g 6, .g 7, .g 8, .g 9, .g 10, .g 11, .g 12, .g 13, .g 14, .g 15, .g 16, .g 17] c_7449_1 (by kernel_rfl)
                       · refine SD.lay 3 [I, I, I, I, I, I, I, I, I, I, I, O, O, O] [(0, vp 0 0), (3, vp 13 0), (14, vi .i64 x_7429), (16, vi .i64 x_7446), (207, vp 0 0), (213, vs 17)] [.blk 53 [ci .u16 c_7445.Local, ci .u16 c_7445.Remote, ci .u16 c_7445.PSM, ci .i64 c_7445.MTU, ci .i64 c_7445.MPS, ci .i64 c_7445.PeerMTU, ci .i64 c_7445.PeerMPS, ci .i64 c_7445.TxCredits, ci .i64 c_7445.RxCredits, ci .i64 c_7445.Given, .s 15, ci .i64 c_7445.Sent, .s 16, ci .i64 c_7445.Want, cb c_7445.Failed, ci .u16 w_1.b.Local, ci .u16 w_1.b.Remote, ci .u16 w_1.b.PSM, ci .i64 w_1.b.MTU, ci .i64 w_1.b.MPS, ci .i64 w_1.b.PeerMTU, ci .i64 w_1.b.PeerMPS, ci .i64 w_1.b.TxCredits, ci .i64 w_1.b.RxCredits, ci .i64 w_1.b.Given, .s 3, ci .i64 w_1.b.Sent, .s 4, ci .i64 w_1.b.Want, cb w_1.b.Failed, .s 5, .s 12, .s 7, .s 8, cb c_7428.bad], .gone, .gone, .rd 1 (RSl 1 R8) w_1.b.Out, .rd 1 R8 w_1.b.In, .own 1 24 (RSl 1 R8) w_1.frames, .gone, .own 1 24 (RSl 1 R8) w_1.queued, .own 1 24 (RSl 1 R8) w_1.got, .rd 1 R8 x_2.SDU, .rd 1 (RSl 1 R8) c_7428.a.Out, .rd 1 R8 c_7428.a.In, .gone, .blk 49 (C_wirelesslaw33_Step x_2 (.s 9)), .blk 26 (C_api_Channel c_7445 (.s 15) (.s 16)), .rd 1 (RSl 1 R8) c_7445.Out, .rd 1 R8 c_7445.In, .own 1 3 (RInt .i64) l_8010] ?_ (fun c_7449_3 => ?_)
                         · refine SD.all1 (i := 11) (by kernel_rfl) ?_
                           refine SW.eff D_7449 (i := 11) (v := vp 0 0) (bs' := [I, I, I, I, I, I, I, I, I, I, I, I, O, O]) rfl (.inl rfl) rfl (e_val tk (by kernel_rfl)) (by kernel_rfl) rfl (by kernel_rfl) ?_
                           exact SD.vie D_7449 [.g 0, .g 1, .g 2, .g 3, .g 4, .g 5, .g 6, .g 7, .g 8, .g 9, .g 10, .g 11, .g 12, .g 13, .g 14, .g 15, .g 16, .g 17] c_7449_2 (by kernel_rfl)
                         · refine SD.lay 4 [I, I, I, I, I, I, I, I, I, I, O, O, O, O] [(0, vp 0 0), (3, vp 13 0), (14, vi .i64 x_7429), (16, vi .i64 x_7446), (207, vp 0 0), (208, .g (C_api_Channel c_7445 (.s 15) (.s 16))), (213, vs 17), (215, vp 0 0)] [.blk 53 [ci .u16 c_7428.a.Local, ci .u16 c_7428.a.Remote, ci .u16 c_7428.a.PSM, ci .i64 c_7428.a.MTU, ci .i64 c_7428.a.MPS, ci .i64 c_7428.a.PeerMTU, ci .i64 c_7428.a.PeerMPS, ci .i64 c_7428.a.TxCredits, ci .i64 c_7428.a.RxCredits, ci .i64 c_7428.a.Given, .s 10, ci .i64 c_7428.a.Sent, .s 11, ci .i64 c_7428.a.Want, cb c_7428.a.Failed, ci .u16 w_1.b.Local, ci .u16 w_1.b.Remote, ci .u16 w_1.b.PSM, ci .i64 w_1.b.MTU, ci .i64 w_1.b.MPS, ci .i64 w_1.b.PeerMTU, ci .i64 w_1.b.PeerMPS, ci .i64 w_1.b.TxCredits, ci .i64 w_1.b.RxCredits, ci .i64 w_1.b.Given, .s 3, ci .i64 w_1.b.Sent, .s 4, ci .i64 w_1.b.Want, cb w_1.b.Failed, .s 5, .s 12, .s 7, .s 8, cb c_7428.bad], .gone, .gone, .rd 1 (RSl 1 R8) w_1.b.Out, .rd 1 R8 w_1.b.In, .own 1 24 (RSl 1 R8) w_1.frames, .gone, .own 1 24 (RSl 1 R8) w_1.queued, .own 1 24 (RSl 1 R8) w_1.got, .rd 1 R8 x_2.SDU, .rd 1 (RSl 1 R8) c_7428.a.Out, .rd 1 R8 c_7428.a.In, .gone, .blk 49 (C_wirelesslaw33_Step x_2 (.s 9)), .blk 26 (C_api_Channel c_7445 (.s 15) (.s 16)), .rd 1 (RSl 1 R8) c_7445.Out, .rd 1 R8 c_7445.In, .own 1 3 (RInt .i64) l_8010] ?_ (fun c_7449_4 => ?_)
                           · refine SD.all1 (i := 10) (by kernel_rfl) ?_
                             refine SW.store D_7449 tk (i := 10) (q := 0) (T := 53) (cs := [ci .u16 c_7445.Local, ci .u16 c_7445.Remote, ci .u16 c_7445.PSM, ci .i64 c_7445.MTU, ci .i64 c_7445.MPS, ci .i64 c_7445.PeerMTU, ci .i64 c_7445.PeerMPS, ci .i64 c_7445.TxCredits, ci .i64 c_7445.RxCredits, ci .i64 c_7445.Given, .s 15, ci .i64 c_7445.Sent, .s 16, ci .i64 c_7445.Want, cb c_7445.Failed, ci .u16 w_1.b.Local, ci .u16 w_1.b.Remote, ci .u16 w_1.b.PSM, ci .i64 w_1.b.MTU, ci .i64 w_1.b.MPS, ci .i64 w_1.b.PeerMTU, ci .i64 w_1.b.PeerMPS, ci .i64 w_1.b.TxCredits, ci .i64 w_1.b.RxCredits, ci .i64 w_1.b.Given, .s 3, ci .i64 w_1.b.Sent, .s 4, ci .i64 w_1.b.Want, cb w_1.b.Failed, .s 5, .s 12, .s 7, .s 8, cb c_7428.bad]) (bs' := [I, I, I, I, I, I, I, I, I, I, I, O, O, O]) rfl (by kernel_rfl) rfl rfl (by kernel_rfl) ?_
                             exact SD.vie D_7449 [.g 0, .g 1, .g 2, .g 3, .g 4, .g 5, .g 6, .g 7, .g 8, .g 9, .g 10, .g 11, .g 12, .g 13, .g 14, .g 15, .g 16, .g 17] c_7449_3 (by kernel_rfl)
                           · refine SD.lay 5 [I, I, I, I, I, I, I, I, I, O, O, O, O, O] [(0, vp 0 0), (3, vp 13 0), (14, vi .i64 x_7429), (16, vi .i64 x_7446), (207, vp 0 0), (208, .g (C_api_Channel c_7445 (.s 15) (.s 16))), (213, vs 17), (214, vp 0 0)] [.blk 53 [ci .u16 c_7428.a.Local, ci .u16 c_7428.a.Remote, ci .u16 c_7428.a.PSM, ci .i64 c_7428.a.MTU, ci .i64 c_7428.a.MPS, ci .i64 c_7428.a.PeerMTU, ci .i64 c_7428.a.PeerMPS, ci .i64 c_7428.a.TxCredits, ci .i64 c_7428.a.RxCredits, ci .i64 c_7428.a.Given, .s 10, ci .i64 c_7428.a.Sent, .s 11, ci .i64 c_7428.a.Want, cb c_7428.a.Failed, ci .u16 w_1.b.Local, ci .u16 w_1.b.Remote, ci .u16 w_1.b.PSM, ci .i64 w_1.b.MTU, ci .i64 w_1.b.MPS, ci .i64 w_1.b.PeerMTU, ci .i64 w_1.b.PeerMPS, ci .i64 w_1.b.TxCredits, ci .i64 w_1.b.RxCredits, ci .i64 w_1.b.Given, .s 3, ci .i64 w_1.b.Sent, .s 4, ci .i64 w_1.b.Want, cb w_1.b.Failed, .s 5, .s 12, .s 7, .s 8, cb c_7428.bad], .gone, .gone, .rd 1 (RSl 1 R8) w_1.b.Out, .rd 1 R8 w_1.b.In, .own 1 24 (RSl 1 R8) w_1.frames, .gone, .own 1 24 (RSl 1 R8) w_1.queued, .own 1 24 (RSl 1 R8) w_1.got, .rd 1 R8 x_2.SDU, .rd 1 (RSl 1 R8) c_7428.a.Out, .rd 1 R8 c_7428.a.In, .gone, .blk 49 (C_wirelesslaw33_Step x_2 (.s 9)), .blk 26 (C_api_Channel c_7445 (.s 15) (.s 16)), .rd 1 (RSl 1 R8) c_7445.Out, .rd 1 R8 c_7445.In, .own 1 3 (RInt .i64) l_8010] ?_ (fun c_7449_5 => ?_)
                             · refine SD.all1 (i := 9) (by kernel_rfl) ?_
                               refine SW.eff D_7449 (i := 9) (v := vp 0 0) (bs' := [I, I, I, I, I, I, I, I, I, I, O, O, O, O]) rfl (.inl rfl) rfl (e_val tk (by kernel_rfl)) (by kernel_rfl) rfl (by kernel_rfl) ?_
                               exact SD.vie D_7449 [.g 0, .g 1, .g 2, .g 3, .g 4, .g 5, .g 6, .g 7, .g 8, .g 9, .g 10, .g 11, .g 12, .g 13, .g 14, .g 15, .g 16, .g 17] c_7449_4 (by kernel_rfl)
                             · refine SD.lay 6 [I, I, I, I, I, I, I, I, O, O, O, O, O, O] [(0, vp 0 0), (3, vp 13 0), (14, vi .i64 x_7429), (16, vi .i64 x_7446), (206, vp 0 0), (207, vp 0 0), (208, .g (C_api_Channel c_7445 (.s 15) (.s 16))), (213, vs 17)] [.blk 53 [ci .u16 c_7428.a.Local, ci .u16 c_7428.a.Remote, ci .u16 c_7428.a.PSM, ci .i64 c_7428.a.MTU, ci .i64 c_7428.a.MPS, ci .i64 c_7428.a.PeerMTU, ci .i64 c_7428.a.PeerMPS, ci .i64 c_7428.a.TxCredits, ci .i64 c_7428.a.RxCredits, ci .i64 c_7428.a.Given, .s 10, ci .i64 c_7428.a.Sent, .s 11, ci .i64 c_7428.a.Want, cb c_7428.a.Failed, ci .u16 w_1.b.Local, ci .u16 w_1.b.Remote, ci .u16 w_1.b.PSM, ci .i64 w_1.b.MTU, ci .i64 w_1.b.MPS, ci .i64 w_1.b.PeerMTU, ci .i64 w_1.b.PeerMPS, ci .i64 w_1.b.TxCredits, ci .i64 w_1.b.RxCredits, ci .i64 w_1.b.Given, .s 3, ci .i64 w_1.b.Sent, .s 4, ci .i64 w_1.b.Want, cb w_1.b.Failed, .s 5, .s 12, .s 7, .s 8, cb c_7428.bad], .gone, .gone, .rd 1 (RSl 1 R8) w_1.b.Out, .rd 1 R8 w_1.b.In, .own 1 24 (RSl 1 R8) w_1.frames, .gone, .own 1 24 (RSl 1 R8) w_1.queued, .own 1 24 (RSl 1 R8) w_1.got, .rd 1 R8 x_2.SDU, .rd 1 (RSl 1 R8) c_7428.a.Out, .rd 1 R8 c_7428.a.In, .gone, .blk 49 (C_wirelesslaw33_Step x_2 (.s 9)), .blk 26 (C_api_Channel c_7445 (.s 15) (.s 16)), .rd 1 (RSl 1 R8) c_7445.Out, .rd 1 R8 c_7445.In, .own 1 3 (RInt .i64) l_8010] ?_ (fun c_7449_6 => ?_)
                               · refine SD.all1 (i := 8) (by kernel_rfl) ?_
                                 refine SW.eff D_7449 (i := 8) (v := vp 0 0) (bs' := [I, I, I, I, I, I, I, I, I, O, O, O, O, O]) rfl (.inl rfl) rfl (e_val tk (by kernel_rfl)) (by kernel_rfl) rfl (by kernel_rfl) ?_
                                 exact SD.vie D_7449 [.g 0, .g 1, .g 2, .g 3, .g 4, .g 5, .g 6, .g 7, .g 8, .g 9, .g 10, .g 11, .g 12, .g 13, .g 14, .g 15, .g 16, .g 17] c_7449_5 (by kernel_rfl)
                               · refine SD.lay 4 [I, I, I, I, I, I, I, O, I, I, I, O, O, O] [(0, vp 0 0), (3, vp 13 0), (14, vi .i64 x_7429), (16, vi .i64 x_7446), (207, vp 0 0), (212, vs 12)] [.blk 53 (C_wirelesslaw33_wire ({ w_1 with a := c_7445, credits := c_7428.credits, bad := c_7428.bad }) (.s 15) (.s 16) (.s 3) (.s 4) (.s 5) (.s 12) (.s 7) (.s 8)), .gone, .gone, .rd 1 (RSl 1 R8) w_1.b.Out, .rd 1 R8 w_1.b.In, .own 1 24 (RSl 1 R8) w_1.frames, .gone, .own 1 24 (RSl 1 R8) w_1.queued, .own 1 24 (RSl 1 R8) w_1.got, .rd 1 R8 x_2.SDU, .rd 1 (RSl 1 R8) c_7428.a.Out, .rd 1 R8 c_7428.a.In, .own 1 3 (RInt .i64) c_7428.credits, .blk 49 (C_wirelesslaw33_Step x_2 (.s 9)), .blk 26 (C_api_Channel c_7445 (.s 15) (.s 16)), .rd 1 (RSl 1 R8) c_7445.Out, .rd 1 R8 c_7445.In] ?_ (fun c_7449_7 => ?_)
                                 · refine SD.all1 (i := 7) (by kernel_rfl) ?_
                                   refine SW.eff D_7449 (i := 7) (bs' := [I, I, I, I, I, I, I, I, I, I, I, O, O, O]) rfl (.inl rfl) rfl (e_subo (sz := 1) (E := 3) (R := (RInt .i64)) (i := 12) (by_ := 8) (l := c_7428.credits) tk rfl rfl rfl rfl e_l_8010 (by kernel_rfl)) (by kernel_rfl) rfl (by kernel_rfl) ?_
                                   exact SD.vie D_7449 [.g 0, .g 1, .g 2, .g 3, .g 4, .g 5, .g 6, .g 7, .g 8, .g 9, .g 10, .g 11, .g 12, .g 13, .g 14, .g 15, .g 16, .g 17] c_7449_3 (by kernel_rfl)
                                 · refine SD.lay 5 [I, I, I, I, I, I, I, O, I, I, O, O, O, O] [(0, vp 0 0), (3, vp 13 0), (14, vi .i64 x_7429), (16, vi .i64 x_7446), (207, vp 0 0), (208, .g (C_api_Channel c_7445 (.s 15) (.s 16))), (212, vs 12), (215, vp 0 0)] [.blk 53 (C_wirelesslaw33_wire ({ w_1 with a := c_7428.a, credits := c_7428.credits, bad := c_7428.bad }) (.s 10) (.s 11) (.s 3) (.s 4) (.s 5) (.s 12) (.s 7) (.s 8)), .gone, .gone, .rd 1 (RSl 1 R8) w_1.b.Out, .rd 1 R8 w_1.b.In, .own 1 24 (RSl 1 R8) w_1.frames, .gone, .own 1 24 (RSl 1 R8) w_1.queued, .own 1 24 (RSl 1 R8) w_1.got, .rd 1 R8 x_2.SDU, .rd 1 (RSl 1 R8) c_7428.a.Out, .rd 1 R8 c_7428.a.In, .own 1 3 (RInt .i64) c_7428.credits, .blk 49 (C_wirelesslaw33_Step x_2 (.s 9)), .blk 26 (C_api_Channel c_7445 (.s 15) (.s 16)), .rd 1 (RSl 1 R8) c_7445.Out, .rd 1 R8 c_7445.In] ?_ (fun c_7449_8 => ?_)
                                   · refine SD.all2 (i := 7) (j := 10) (by kernel_rfl) ?_ ?_
                                     · refine SW.eff D_7449 (i := 7) (bs' := [I, I, I, I, I, I, I, I, I, I, O, O, O, O]) rfl (.inl rfl) rfl (e_subo (sz := 1) (E := 3) (R := (RInt .i64)) (i := 12) (by_ := 8) (l := c_7428.credits) tk rfl rfl rfl rfl e_l_8010 (by kernel_rfl)) (by kernel_rfl) rfl (by kernel_rfl) ?_
                                       exact SD.vie D_7449 [.g 0, .g 1, .g 2, .g 3, .g 4, .g 5, .g 6, .g 7, .g 8, .g 9, .g 10, .g 11, .g 12, .g 13, .g 14, .g 15, .g 16, .g 17] c_7449_4 (by kernel_rfl)
                                     · refine SW.store D_7449 tk (i := 10) (q := 0) (T := 53) (cs := (C_wirelesslaw33_wire ({ w_1 with a := c_7445, credits := c_7428.credits, bad := c_7428.bad }) (.s 15) (.s 16) (.s 3) (.s 4) (.s 5) (.s 12) (.s 7) (.s 8))) (bs' := [I, I, I, I, I, I, I, O, I, I, I, O, O, O]) rfl (by kernel_rfl) rfl rfl (by kernel_rfl) ?_
                                       exact SD.vie D_7449 [.g 0, .g 1, .g 2, .g 3, .g 4, .g 5, .g 6, .g 7, .g 8, .g 9, .g 10, .g 11, .g 12, .g 13, .g 14, .g 15, .g 16] c_7449_7 (by kernel_rfl)
                                   · refine SD.lay 6 [I, I, I, I, I, I, I, O, I, O, O, O, O, O] [(0, vp 0 0), (3, vp 13 0), (14, vi .i64 x_7429), (16, vi .i64 x_7446), (207, vp 0 0), (208, .g (C_api_Channel c_7445 (.s 15) (.s 16))), (212, vs 12), (214, vp 0 0)] [.blk 53 (C_wirelesslaw33_wire ({ w_1 with a := c_7428.a, credits := c_7428.credits, bad := c_7428.bad }) (.s 10) (.s 11) (.s 3) (.s 4) (.s 5) (.s 12) (.s 7) (.s 8)), .gone, .gone, .rd 1 (RSl 1 R8) w_1.b.Out, .rd 1 R8 w_1.b.In, .own 1 24 (RSl 1 R8) w_1.frames, .gone, .own 1 24 (RSl 1 R8) w_1.queued, .own 1 24 (RSl 1 R8) w_1.got, .rd 1 R8 x_2.SDU, .rd 1 (RSl 1 R8) c_7428.a.Out, .rd 1 R8 c_7428.a.In, .own 1 3 (RInt .i64) c_7428.credits, .blk 49 (C_wirelesslaw33_Step x_2 (.s 9)), .blk 26 (C_api_Channel c_7445 (.s 15) (.s 16)), .rd 1 (RSl 1 R8) c_7445.Out, .rd 1 R8 c_7445.In] ?_ (fun c_7449_9 => ?_)
                                     · refine SD.all2 (i := 7) (j := 9) (by kernel_rfl) ?_ ?_
                                       · refine SW.eff D_7449 (i := 7) (bs' := [I, I, I, I, I, I, I, I, I, O, O, O, O, O]) rfl (.inl rfl) rfl (e_subo (sz := 1) (E := 3) (R := (RInt .i64)) (i := 12) (by_ := 8) (l := c_7428.credits) tk rfl rfl rfl rfl e_l_8010 (by kernel_rfl)) (by kernel_rfl) rfl (by kernel_rfl) ?_
                                         exact SD.vie D_7449 [.g 0, .g 1, .g 2, .g 3, .g 4, .g 5, .g 6, .g 7, .g 8, .g 9, .g 10, .g 11, .g 12, .g 13, .g 14, .g 15, .g 16, .g 17] c_7449_5 (by kernel_rfl)
                                       · refine SW.eff D_7449 (i := 9) (v := vp 0 0) (bs' := [I, I, I, I, I, I, I, O, I, I, O, O, O, O]) rfl (.inl rfl) rfl (e_val tk (by kernel_rfl)) (by kernel_rfl) rfl (by kernel_rfl) ?_
                                         exact SD.vie D_7449 [.g 0, .g 1, .g 2, .g 3, .g 4, .g 5, .g 6, .g 7, .g 8, .g 9, .g 10, .g 11, .g 12, .g 13, .g 14, .g 15, .g 16] c_7449_8 (by kernel_rfl)
                                     · refine SD.all2 (i := 7) (j := 8) (by kernel_rfl) ?_ ?_
                                       · refine SW.eff D_7449 (i := 7) (bs' := [I, I, I, I, I, I, I, I, O, O, O, O, O, O]) rfl (.inl rfl) rfl (e_subo (sz := 1) (E := 3) (R := (RInt .i64)) (i := 12) (by_ := 8) (l := c_7428.credits) tk rfl rfl rfl rfl e_l_8010 (by kernel_rfl)) (by kernel_rfl) rfl (by kernel_rfl) ?_
                                         refine SD.norm (itsN := [.blk 53 [ci .u16 c_7428.a.Local, ci .u16 c_7428.a.Remote, ci .u16 c_7428.a.PSM, ci .i64 c_7428.a.MTU, ci .i64 c_7428.a.MPS, ci .i64 c_7428.a.PeerMTU, ci .i64 c_7428.a.PeerMPS, ci .i64 c_7428.a.TxCredits, ci .i64 c_7428.a.RxCredits, ci .i64 c_7428.a.Given, .s 10, ci .i64 c_7428.a.Sent, .s 11, ci .i64 c_7428.a.Want, cb c_7428.a.Failed, ci .u16 w_1.b.Local, ci .u16 w_1.b.Remote, ci .u16 w_1.b.PSM, ci .i64 w_1.b.MTU, ci .i64 w_1.b.MPS, ci .i64 w_1.b.PeerMTU, ci .i64 w_1.b.PeerMPS, ci .i64 w_1.b.TxCredits, ci .i64 w_1.b.RxCredits, ci .i64 w_1.b.Given, .s 3, ci .i64 w_1.b.Sent, .s 4, ci .i64 w_1.b.Want, cb w_1.b.Failed, .s 5, .s 12, .s 7, .s 8, cb c_7428.bad], .gone, .gone, .rd 1 (RSl 1 R8) w_1.b.Out, .rd 1 R8 w_1.b.In, .own 1 24 (RSl 1 R8) w_1.frames, .gone, .own 1 24 (RSl 1 R8) w_1.queued, .own 1 24 (RSl 1 R8) w_1.got, .rd 1 R8 x_2.SDU, .rd 1 (RSl 1 R8) c_7428.a.Out, .rd 1 R8 c_7428.a.In, .gone, .blk 49 (C_wirelesslaw33_Step x_2 (.s 9)), .blk 26 (C_api_Channel c_7445 (.s 15) (.s 16)), .rd 1 (RSl 1 R8) c_7445.Out, .rd 1 R8 c_7445.In, .own 1 3 (RInt .i64) l_8010]) (by kernel_rfl) ?_
                                         exact SD.vie D_7449 [.g 0, .g 1, .g 2, .g 3, .g 4, .g 5, .g 6, .g 7, .g 8, .g 9, .g 10, .g 11, .g 12, .g 13, .g 14, .g 15, .g 16, .g 17] c_7449_6 (by kernel_rfl)
                                       · refine SW.eff D_7449 (i := 8) (v := vp 0 0) (bs' := [I, I, I, I, I, I, I, O, I, O, O, O, O, O]) rfl (.inl rfl) rfl (e_val tk (by kernel_rfl)) (by kernel_rfl) rfl (by kernel_rfl) ?_
                                         refine SD.norm (itsN := [.blk 53 (C_wirelesslaw33_wire ({ w_1 with a := c_7428.a, credits := c_7428.credits, bad := c_7428.bad }) (.s 10) (.s 11) (.s 3) (.s 4) (.s 5) (.s 12) (.s 7) (.s 8)), .gone, .gone, .rd 1 (RSl 1 R8) w_1.b.Out, .rd 1 R8 w_1.b.In, .own 1 24 (RSl 1 R8) w_1.frames, .gone, .own 1 24 (RSl 1 R8) w_1.queued, .own 1 24 (RSl 1 R8) w_1.got, .rd 1 R8 x_2.SDU, .rd 1 (RSl 1 R8) c_7428.a.Out, .rd 1 R8 c_7428.a.In, .own 1 3 (RInt .i64) c_7428.credits, .blk 49 (C_wirelesslaw33_Step x_2 (.s 9)), .blk 26 (C_api_Channel c_7445 (.s 15) (.s 16)), .rd 1 (RSl 1 R8) c_7445.Out, .rd 1 R8 c_7445.In]) (by kernel_rfl) ?_
                                         exact SD.vie D_7449 [.g 0, .g 1, .g 2, .g 3, .g 4, .g 5, .g 6, .g 7, .g 8, .g 9, .g 10, .g 11, .g 12, .g 13, .g 14, .g 15, .g 16] c_7449_9 (by kernel_rfl)
                 · rintro a w ⟨l_7447, hp, h⟩
                   refine h.go ?_
                   refine SC.reg ?_
                   refine SL.sim tk 6 [(0, vp 0 0), (3, vp 13 0), (14, vi .i64 x_7429)] [(0, 53, (C_wirelesslaw33_wire ({ w_1 with a := c_7445, credits := l_7447, bad := (x_7446 != 0) }) (.s 10) (.s 11) (.s 3) (.s 4) (.s 5) (.s 12) (.s 7) (.s 8)))] [] [] (by kernel_rfl) ?_
                   refine SL.nilThen ?_
                   refine SC.reg ?_
                   refine SL.sim tk 3 [(0, vp 0 0), (3, vp 13 0), (14, vi .i64 (w64 (x_7429 + 1)))] [] [] [] (by kernel_rfl) ?_
                   refine SL.nilJ fun a w h => ?_
                   exact ⟨n2, Nat.lt_succ_self _, { w_1 with a := c_7445, credits := l_7447, bad := (x_7446 != 0) }, w64 (x_7429 + 1), next_inv hp hs2, h.at (js := [.g 0, .g 1, .g 2, .g 3, .g 4, .g 5, .g 6, .g 7, .g 8, .g 9, .g 10, .g 11, .g 12, .g 13]) (by kernel_rfl)⟩
             · refine SC.exitJ rfl fun a w h => ?_
               have ho := done_inv hp hs2
               replace hp := ho2
               try rw [ho] at hp
               exact ⟨{ w_1 with a := c_7428.a, credits := c_7428.credits, bad := c_7428.bad }, hp, h.at (js := [.g 0, .g 1, .g 2, .g 3, .g 4, .g 5, .g 6, .g 7, .g 8, .g 9, .g 10, .g 11, .g 3, .g 4, .g 5, .g 12, .g 7, .g 8]) (by kernel_rfl)⟩
           · refine SC.skipJ fun a w h => ?_
             exact ⟨w_1, hp, h.at (js := [.g 0, .g 1, .g 2, .g 3, .g 4, .g 5, .g 6, .g 7, .g 8, .g 9, .g 1, .g 2, .g 3, .g 4, .g 5, .g 6, .g 7, .g 8]) (by kernel_rfl)⟩
 · rintro a w ⟨c_38, hp, h⟩
   obtain rfl := some_inv' hp
   exact A.re (js := [.g 0, .g 1, .g 2, .g 3, .g 4, .g 5, .g 6, .g 7, .g 8, .g 9, .g 10, .g 11, .g 12, .g 13, .g 14, .g 15, .g 16, .g 17]) tk h (by kernel_rfl)

theorem ok_wirelessref23_Same (F : Nat) (a_1 : (List Int)) (b_2 : (List Int)) (r : Bool) (hp : wirelessref23_Same F a_1 b_2 = some r) : Spec Try.prog 20 [vs 0, vs 1] [.rd 1 R8 a_1, .rd 1 R8 b_2] (vb r) [.gone, .gone] := by
 refine Spec.enter Try.func20 rfl Try.ntmps20 rfl rfl fun fx => ?_
 refine SC.r tk [(0, vs 0), (1, vs 1)] [] [] [] (by kernel_rfl) ?_
 refine SC.seq ?_
 refine SC.reg ?_
 refine SL.sim tk 1 [(1, vs 1), (5, vs 0)] [] [] [] (by kernel_rfl) ?_
 refine SL.eff (e_b2s (l := a_1) tk rfl (.r (by kernel_rfl)) (by kernel_rfl)) rfl (by kernel_rfl) ?_
 refine SL.sim tk 1 [(6, vt 2), (7, vs 1)] [] [] [] (by kernel_rfl) ?_
 refine SL.eff (e_b2s (l := b_2) tk rfl (.r (by kernel_rfl)) (by kernel_rfl)) rfl (by kernel_rfl) ?_
 refine SL.sim tk 2 [(4, vb ((str a_1) == (str b_2)))] [] [] [] (by kernel_rfl) ?_
 refine SL.nilThen ?_
 obtain rfl := some_inv' hp
 exact SC.re (js := [.g 0, .g 1]) tk (by kernel_rfl)

theorem ok_wirelessref33_SameLists (F : Nat) (a_1 : (List (List Int))) (b_2 : (List (List Int))) (r : Bool) (hp : wirelessref33_SameLists F a_1 b_2 = some r) : Spec Try.prog 15 [vs 0, vs 1] [.rd 1 (RSl 1 R8) a_1, .rd 1 (RSl 1 R8) b_2] (vb r) [.gone, .gone] := by
 refine Spec.enter Try.func15 rfl Try.ntmps15 rfl rfl fun fx => ?_
 refine SC.r tk [(0, vs 0), (1, vs 1)] [] [] [] (by kernel_rfl) ?_
 refine SC.seq ?_
 refine SC.r tk [(0, vs 0), (1, vs 1), (10, vb ((len a_1) != (len b_2)))] [] [] [] (by kernel_rfl) ?_
 refine SC.if' rfl hp (fun hp => ?_) (fun hp => ?_)
 · refine SC.r tk [(4, vb false)] [] [] [] (by kernel_rfl) ?_
   obtain rfl := some_inv' hp
   exact SC.re (js := [.g 0, .g 1]) tk (by kernel_rfl)
 · refine SC.skipThen ?_
   refine SC.cut (fun a w => wirelessref33_SameLists_j1 F = some r ∧ A 27 2 fx [] [.gone, .gone] a w) ?_ ?_
   · refine SC.r tk [(0, vs 0), (1, vs 1), (5, vi .i64 0)] [] [] [] (by kernel_rfl) ?_
     refine SC.block ?_
     obtain ⟨o1, hi1, ho1⟩ := bind_inv hp
     clear hp
     refine SC.loop (fun n a w => ∃ (x_3 : Int), iter (fun s => wirelessref33_SameLists_l1 F a_1 b_2 s) n (x_3) = some o1 ∧ A 27 2 fx [(0, vs 0), (1, vs 1), (5, vi .i64 x_3)] [.rd 1 (RSl 1 R8) a_1, .rd 1 (RSl 1 R8) b_2] a w) F (fun a w h => ⟨0, hi1, h.at (js := [.g 0, .g 1]) (by kernel_rfl)⟩) ?_
     rintro n1 a w ⟨x_3, hi1, h⟩
     obtain ⟨n1, q1, rfl, hp, hs1⟩ := iter_inv hi1
     replace hp : wirelessref33_SameLists_l1 F a_1 b_2 x_3 = some q1 := hp
     clear hi1
     refine h.go ?_
     refine SC.seq ?_
     refine SC.r tk [(0, vs 0), (1, vs 1), (5, vi .i64 x_3), (14, vb (decide (x_3 < (len a_1))))] [] [] [] (by kernel_rfl) ?_
     refine SC.if' rfl hp (fun hp => ?_) (fun hp => ?_)
     · refine SC.skipThen ?_
       refine SC.seq ?_
       refine SC.block ?_
       refine SC.cut (fun a w => ∃ (z_4 : Bool), wirelessref33_SameLists_j2 F x_3 z_4 = some q1 ∧ A 27 2 fx [(0, vs 0), (1, vs 1), (5, vi .i64 x_3), (26, vb z_4)] [.rd 1 (RSl 1 R8) a_1, .rd 1 (RSl 1 R8) b_2] a w) ?_ ?_
       · obtain ⟨x_5, e_x_5, hp⟩ := bind_inv hp
         obtain ⟨x_6, e_x_6, hp⟩ := bind_inv hp
         refine SC.pre (pre_ix (i := 0) (iv := x_3) (sz := 1) (R := (RSl 1 R8)) (l := a_1) (by kernel_rfl) rfl e_x_5) ?_
         refine SC.pre (pre_ix (i := 1) (iv := x_3) (sz := 1) (R := (RSl 1 R8)) (l := b_2) (by kernel_rfl) rfl e_x_6) ?_
         refine SC.draw MO [I, I, I, I, I, I] (by kernel_rfl) fun kap_7 D_8 => ?_
         refine SD.takes tk D_8 [] kn0 [0, 1, 2, 3, 4, 5, 6, 7] [.el 2, .el 4] [x_3, x_3] [I, I, I, I, I, I, I, I, O, O] [(0, vs 0), (1, vs 1), (5, vi .i64 x_3), (20, vs 3), (24, vs 5)] rfl (by kernel_rfl) (by kernel_rfl) (by kernel_rfl) ?_
         obtain ⟨x_9, e_x_9, hp⟩ := bind_inv hp
         refine SD.all1 (i := 8) (by kernel_rfl) ?_
         refine SW.eff D_8 (i := 8) (bs' := [I, I, I, I, I, I, I, I, I, O]) rfl (.inl rfl) rfl (e_c Try.call20 (ok_wirelessref23_Same F x_5 x_6 _ e_x_9) [.g 3, .g 5] [vs 3, vs 5] (vb x_9) (by kernel_rfl) (.inl rfl)) (by kernel_rfl) rfl (by kernel_rfl) ?_
         refine SD.takes tk D_8 [] kn0 [9] [] [] [I, I, I, I, I, I, I, I, I, I] [(0, vs 0), (1, vs 1), (5, vi .i64 x_3), (26, vb (!x_9))] rfl (by kernel_rfl) (by kernel_rfl) (by kernel_rfl) ?_
         refine SD.done (by kernel_rfl) fun a w h => ?_
         exact ⟨(!x_9), hp, h.at (js := [.g 0, .g 1]) (by kernel_rfl)⟩
       · rintro a w ⟨z_4, hp, h⟩
         refine h.go ?_
         refine SC.if' rfl hp (fun hp => ?_) (fun hp => ?_)
         · refine SC.r tk [(4, vb false)] [] [] [] (by kernel_rfl) ?_
           have ho := done_inv hp hs1
           replace hp := ho1
           try rw [ho] at hp
           obtain rfl := some_inv' hp
           exact SC.re (js := [.g 0, .g 1]) tk (by kernel_rfl)
         · refine SC.skipThen ?_
           refine SC.reg ?_
           refine SL.sim tk 3 [(0, vs 0), (1, vs 1), (5, vi .i64 (w64 (x_3 + 1)))] [] [] [] (by kernel_rfl) ?_
           refine SL.nilJ fun a w h => ?_
           exact ⟨n1, Nat.lt_succ_self _, w64 (x_3 + 1), next_inv hp hs1, h.at (js := [.g 0, .g 1]) (by kernel_rfl)⟩
     · refine SC.exitJ rfl fun a w h => ?_
       have ho := done_inv hp hs1
       replace hp := ho1
       try rw [ho] at hp
       exact ⟨hp, h.at (js := [.g 0, .g 1]) (by kernel_rfl)⟩
   · rintro a w ⟨hp, h⟩
     refine h.go ?_
     refine SC.r tk [(4, vb true)] [] [] [] (by kernel_rfl) ?_
     obtain rfl := some_inv' hp
     exact SC.re (js := [.g 0, .g 1]) tk (by kernel_rfl)

theorem ok_wirelesslaw33_wire_sound (F : Nat) (w_1 : T_wirelesslaw33_wire) (r : Bool) (hp : wirelesslaw33_wire_sound F w_1 = some r) : Spec Try.prog 27 [vp 0 0] [.blk 53 (C_wirelesslaw33_wire w_1 (.s 1) (.s 2) (.s 3) (.s 4) (.s 5) (.s 6) (.s 7) (.s 8)), .rd 1 (RSl 1 R8) w_1.a.Out, .rd 1 R8 w_1.a.In, .rd 1 (RSl 1 R8) w_1.b.Out, .rd 1 R8 w_1.b.In, .rd 1 (RSl 1 R8) w_1.frames, .rd 1 (RInt .i64) w_1.credits, .rd 1 (RSl 1 R8) w_1.queued, .rd 1 (RSl 1 R8) w_1.got] (vb r) [.blk 53 (C_wirelesslaw33_wire w_1 (.s 1) (.s 2) (.s 3) (.s 4) (.s 5) (.s 6) (.s 7) (.s 8)), .rd 1 (RSl 1 R8) w_1.a.Out, .rd 1 R8 w_1.a.In, .rd 1 (RSl 1 R8) w_1.b.Out, .rd 1 R8 w_1.b.In, .rd 1 (RSl 1 R8) w_1.frames, .rd 1 (RInt .i64) w_1.credits, .rd 1 (RSl 1 R8) w_1.queued, .rd 1 (RSl 1 R8) w_1.got] := by
 refine Spec.enter Try.func27 rfl Try.ntmps27 rfl rfl fun fx => ?_
 refine SC.r tk [(0, vp 0 0)] [] [] [] (by kernel_rfl) ?_
 refine SC.cut (fun a w => wirelesslaw33_wire_sound_j1 F w_1 = some r ∧ A 75 9 fx [(0, vp 0 0), (3, vi .i64 (w64 (w_1.a.TxCredits + (len w_1.frames))))] [.blk 53 (C_wirelesslaw33_wire w_1 (.s 1) (.s 2) (.s 3) (.s 4) (.s 5) (.s 6) (.s 7) (.s 8)), .rd 1 (RSl 1 R8) w_1.a.Out, .rd 1 R8 w_1.a.In, .rd 1 (RSl 1 R8) w_1.b.Out, .rd 1 R8 w_1.b.In, .rd 1 (RSl 1 R8) w_1.frames, .rd 1 (RInt .i64) w_1.credits, .rd 1 (RSl 1 R8) w_1.queued, .rd 1 (RSl 1 R8) w_1.got] a w) ?_ ?_
 · refine SC.draw MO [I, I, I, I, I, I, I, I, I] (by kernel_rfl) fun kap_13 D_14 => ?_
   refine SD.takes tk D_14 [] kn0 [0, 1, 2, 3, 4, 5, 6, 7, 8, 9, 10, 11] [] [] [I, I, I, I, I, I, I, I, I, I, I, I] [(0, vp 0 0), (3, vi .i64 (w64 (w_1.a.TxCredits + (len w_1.frames))))] rfl (by kernel_rfl) (by kernel_rfl) (by kernel_rfl) ?_
   refine SD.done (by kernel_rfl) fun a w h => ?_
   exact ⟨hp, h.at (js := [.g 0, .g 1, .g 2, .g 3, .g 4, .g 5, .g 6, .g 7, .g 8]) (by kernel_rfl)⟩
 · rintro a w ⟨hp, h⟩
   refine h.go ?_
   refine SC.cut (fun a w => ∃ (x_2 : Int), wirelesslaw33_wire_sound_j2 F w_1 x_2 = some r ∧ A 75 9 fx [(0, vp 0 0), (3, vi .i64 x_2)] [.blk 53 (C_wirelesslaw33_wire w_1 (.s 1) (.s 2) (.s 3) (.s 4) (.s 5) (.s 6) (.s 7) (.s 8)), .rd 1 (RSl 1 R8) w_1.a.Out, .rd 1 R8 w_1.a.In, .rd 1 (RSl 1 R8) w_1.b.Out, .rd 1 R8 w_1.b.In, .rd 1 (RSl 1 R8) w_1.frames, .rd 1 (RInt .i64) w_1.credits, .rd 1 (RSl 1 R8) w_1.queued, .rd 1 (RSl 1 R8) w_1.got] a w) ?_ ?_
   · refine SC.r tk [(0, vp 0 0), (3, vi .i64 (w64 (w_1.a.TxCredits + (len w_1.frames)))), (4, vi .i64 0)] [] [] [] (by kernel_rfl) ?_
     refine SC.block ?_
     obtain ⟨o1, hi1, ho1⟩ := bind_inv hp
     clear hp
     refine SC.loop (fun n a w => ∃ (x_10 : Int) (x_11 : Int), iter (fun s => wirelesslaw33_wire_sound_l1 F w_1 s.1 s.2) n (x_10, x_11) = some o1 ∧ A 75 9 fx [(0, vp 0 0), (3, vi .i64 x_10), (4, vi .i64 x_11)] [.blk 53 (C_wirelesslaw33_wire w_1 (.s 1) (.s 2) (.s 3) (.s 4) (.s 5) (.s 6) (.s 7) (.s 8)), .rd 1 (RSl 1 R8) w_1.a.Out, .rd 1 R8 w_1.a.In, .rd 1 (RSl 1 R8) w_1.b.Out, .rd 1 R8 w_1.b.In, .rd 1 (RSl 1 R8) w_1.frames, .rd 1 (RInt .i64) w_1.credits, .rd 1 (RSl 1 R8) w_1.queued, .rd 1 (RSl 1 R8) w_1.got] a w) F (fun a w h => ⟨w64 (w_1.a.TxCredits + (len w_1.frames)), 0, hi1, h.at (js := [.g 0, .g 1, .g 2, .g 3, .g 4, .g 5, .g 6, .g 7, .g 8]) (by kernel_rfl)⟩) ?_
     rintro n1 a w ⟨x_10, x_11, hi1, h⟩
     obtain ⟨n1, q1, rfl, hp, hs1⟩ := iter_inv hi1
     replace hp : wirelesslaw33_wire_sound_l1 F w_1 x_10 x_11 = some q1 := hp
     clear hi1
     refine h.go ?_
     refine SC.seq ?_
     refine SC.r tk [(0, vp 0 0), (3, vi .i64 x_10), (4, vi .i64 x_11), (22, vb (decide (x_11 < (len w_1.credits))))] [] [] [] (by kernel_rfl) ?_
     refine SC.if' rfl hp (fun hp => ?_) (fun hp => ?_)
     · refine SC.skipThen ?_
       refine SC.seq ?_
       refine SC.block ?_
       refine SC.reg ?_
       obtain ⟨x_12, e_x_12, hp⟩ := bind_inv hp
       refine SL.pre (pre_ix (i := 6) (iv := x_11) (sz := 1) (R := (RInt .i64)) (l := w_1.credits) (by kernel_rfl) rfl e_x_12) ?_
       refine SL.sim tk 10 [(0, vp 0 0), (3, vi .i64 (w64 (x_10 + x_12))), (4, vi .i64 x_11)] [] [.el 9] [x_11] (by kernel_rfl) ?_
       refine SL.nilThen ?_
       refine SC.reg ?_
       refine SL.sim tk 3 [(0, vp 0 0), (3, vi .i64 (w64 (x_10 + x_12))), (4, vi .i64 (w64 (x_11 + 1)))] [] [] [] (by kernel_rfl) ?_
       refine SL.nilJ fun a w h => ?_
       exact ⟨n1, Nat.lt_succ_self _, w64 (x_10 + x_12), w64 (x_11 + 1), next_inv hp hs1, h.at (js := [.g 0, .g 1, .g 2, .g 3, .g 4, .g 5, .g 6, .g 7, .g 8]) (by kernel_rfl)⟩
     · refine SC.exitJ rfl fun a w h => ?_
       have ho := done_inv hp hs1
       replace hp := ho1
       try rw [ho] at hp
       exact ⟨x_10, hp, h.at (js := [.g 0, .g 1, .g 2, .g 3, .g 4, .g 5, .g 6, .g 7, .g 8]) (by kernel_rfl)⟩
   · rintro a w ⟨x_2, hp, h⟩
     refine h.go ?_
     refine SC.seq ?_
     refine SC.cut (fun a w => wirelesslaw33_wire_sound_j3 F w_1 x_2 = some r ∧ A 75 9 fx [(0, vp 0 0), (59, vb ((w_1.bad || (x_2 != w_1.b.RxCredits)) || (decide ((len w_1.got) > (len w_1.queued)))))] [.blk 53 (C_wirelesslaw33_wire w_1 (.s 1) (.s 2) (.s 3) (.s 4) (.s 5) (.s 6) (.s 7) (.s 8)), .rd 1 (RSl 1 R8) w_1.a.Out, .rd 1 R8 w_1.a.In, .rd 1 (RSl 1 R8) w_1.b.Out, .rd 1 R8 w_1.b.In, .rd 1 (RSl 1 R8) w_1.frames, .rd 1 (RInt .i64) w_1.credits, .rd 1 (RSl 1 R8) w_1.queued, .rd 1 (RSl 1 R8) w_1.got] a w) ?_ ?_
     · refine SC.draw MO [I, I, I, I, I, I, I, I, I] (by kernel_rfl) fun kap_8 D_9 => ?_
       refine SD.takes tk D_9 [] kn0 [0, 1, 2, 3, 4, 5, 6, 7, 8, 9, 10, 11, 12, 13, 14, 15, 16, 17, 18, 19, 20, 21, 22, 23, 24, 25] [] [] [I, I, I, I, I, I, I, I, I, I, I, I, I, I, I, I, I, I, I, I, I, I, I, I, I, I] [(0, vp 0 0), (59, vb ((w_1.bad || (x_2 != w_1.b.RxCredits)) || (decide ((len w_1.got) > (len w_1.queued)))))] rfl (by kernel_rfl) (by kernel_rfl) (by kernel_rfl) ?_
       refine SD.done (by kernel_rfl) fun a w h => ?_
       exact ⟨hp, h.at (js := [.g 0, .g 1, .g 2, .g 3, .g 4, .g 5, .g 6, .g 7, .g 8]) (by kernel_rfl)⟩
     · rintro a w ⟨hp, h⟩
       refine h.go ?_
       refine SC.if' rfl hp (fun hp => ?_) (fun hp => ?_)
       · refine SC.r tk [(2, vb false)] [] [] [] (by kernel_rfl) ?_
         obtain rfl := some_inv' hp
         exact SC.re (js := [.g 0, .g 1, .g 2, .g 3, .g 4, .g 5, .g 6, .g 7, .g 8]) tk (by kernel_rfl)
       · refine SC.skipThen ?_
         refine SC.cut (fun a w => ∃ (z_3 : Bool), wirelesslaw33_wire_sound_j4 F z_3 = some r ∧ A 75 9 fx [(2, vb z_3)] [.blk 53 (C_wirelesslaw33_wire w_1 (.s 1) (.s 2) (.s 3) (.s 4) (.s 5) (.s 6) (.s 7) (.s 8)), .rd 1 (RSl 1 R8) w_1.a.Out, .rd 1 R8 w_1.a.In, .rd 1 (RSl 1 R8) w_1.b.Out, .rd 1 R8 w_1.b.In, .rd 1 (RSl 1 R8) w_1.frames, .rd 1 (RInt .i64) w_1.credits, .rd 1 (RSl 1 R8) w_1.queued, .rd 1 (RSl 1 R8) w_1.got] a w) ?_ ?_
         · refine SC.draw MO [I, I, I, I, I, I, I, I, I] (by kernel_rfl) fun kap_4 D_5 => ?_
           refine SD.takes tk D_5 [] kn0 [0, 1, 2, 3, 4, 5, 6, 7, 8, 9, 10, 11, 12] [] [] [I, I, I, I, I, I, I, I, I, I, I, I, I, O, O, O] [(63, vs 8), (67, vs 7), (72, vi .i64 (len w_1.got))] rfl (by kernel_rfl) (by kernel_rfl) (by kernel_rfl) ?_
           obtain ⟨l_6, e_l_6, hp⟩ := bind_inv hp
           refine SD.all1 (i := 13) (by kernel_rfl) ?_
           refine SW.eff D_5 (i := 13) (bs' := [I, I, I, I, I, I, I, I, I, I, I, I, I, I, O, O]) rfl (.inl rfl) rfl (e_sub (sz := 1) (E := 24) (R := (RSl 1 R8)) (by_ := 24) (l := w_1.queued) tk rfl (.inl ⟨7, rfl, (by kernel_rfl)⟩) rfl rfl e_l_6 (by kernel_rfl)) (by kernel_rfl) rfl (by kernel_rfl) ?_
           obtain ⟨x_7, e_x_7, hp⟩ := bind_inv hp
           refine SD.all1 (i := 14) (by kernel_rfl) ?_
           refine SW.eff D_5 (i := 14) (bs' := [I, I, I, I, I, I, I, I, I, I, I, I, I, I, I, O]) rfl (.inl rfl) rfl (e_c Try.call15 (ok_wirelessref33_SameLists F w_1.got l_6 _ e_x_7) [.g 8, .g 9] [vs 8, vs 9] (vb x_7) (by kernel_rfl) (.inl rfl)) (by kernel_rfl) rfl (by kernel_rfl) ?_
           refine SD.norm (itsN := [.blk 53 (C_wirelesslaw33_wire w_1 (.s 1) (.s 2) (.s 3) (.s 4) (.s 5) (.s 6) (.s 7) (.s 8)), .rd 1 (RSl 1 R8) w_1.a.Out, .rd 1 R8 w_1.a.In, .rd 1 (RSl 1 R8) w_1.b.Out, .rd 1 R8 w_1.b.In, .rd 1 (RSl 1 R8) w_1.frames, .rd 1 (RInt .i64) w_1.credits, .rd 1 (RSl 1 R8) w_1.queued, .rd 1 (RSl 1 R8) w_1.got, .rd 1 (RSl 1 R8) l_6]) (by kernel_rfl) ?_
           refine SD.takes tk D_5 [] kn0 [15] [] [] [I, I, I, I, I, I, I, I, I, I, I, I, I, I, I, I] [(2, vb x_7)] rfl (by kernel_rfl) (by kernel_rfl) (by kernel_rfl) ?_
           refine SD.done (by kernel_rfl) fun a w h => ?_
           exact ⟨x_7, hp, h.at (js := [.g 0, .g 1, .g 2, .g 3, .g 4, .g 5, .g 6, .g 7, .g 8]) (by kernel_rfl)⟩
         · rintro a w ⟨z_3, hp, h⟩
           refine h.go ?_
           obtain rfl := some_inv' hp
           exact SC.re (js := [.g 0, .g 1, .g 2, .g 3, .g 4, .g 5, .g 6, .g 7, .g 8]) tk (by kernel_rfl)

theorem ok_wirelesslaw33_SduCredits (F : Nat) (x_1 : T_wirelesslaw33_Way) (r : Bool) (hp : wirelesslaw33_SduCredits F x_1 = some r) : Spec Try.prog 7 [.g (C_wirelesslaw33_Way x_1 (.s 0))] [.rd 3 R_T_wirelesslaw33_Step x_1.Steps] (vb r) [.gone] := by
 refine Spec.enter Try.func7 rfl Try.ntmps7 rfl rfl fun fx => ?_
 refine SC.seq ?_
 refine SC.reg ?_
 refine SL.eff (e_box (E := 47) (C_wirelesslaw33_Way x_1 (.s 0)) (by kernel_rfl)) rfl (by kernel_rfl) ?_
 refine SL.sim tk 1 [(1, vp 1 0)] [] [] [] (by kernel_rfl) ?_
 refine SL.nilThen ?_
 refine SC.r tk [(1, vp 1 0), (3, vi .i64 0)] [] [] [] (by kernel_rfl) ?_
 refine SC.cut (fun a w => ∃ (x_2 : Int), wirelesslaw33_SduCredits_j1 F x_1 x_2 = some r ∧ A 146 1 fx [(1, vp 1 0), (3, vi .i64 x_2)] [.rd 3 R_T_wirelesslaw33_Step x_1.Steps, .blk 47 (C_wirelesslaw33_Way x_1 (.s 0))] a w) ?_ ?_
 · refine SC.r tk [(1, vp 1 0), (3, vi .i64 0), (4, vi .i64 0)] [] [] [] (by kernel_rfl) ?_
   refine SC.block ?_
   obtain ⟨o4, hi4, ho4⟩ := bind_inv hp
   clear hp
   refine SC.loop (fun n a w => ∃ (x_311 : Int) (x_312 : Int), iter (fun s => wirelesslaw33_SduCredits_l4 F x_1 s.1 s.2) n (x_311, x_312) = some o4 ∧ A 146 1 fx [(1, vp 1 0), (3, vi .i64 x_311), (4, vi .i64 x_312)] [.rd 3 R_T_wirelesslaw33_Step x_1.Steps, .blk 47 (C_wirelesslaw33_Way x_1 (.s 0))] a w) F (fun a w h => ⟨0, 0, hi4, h.at (js := [.g 0, .g 1]) (by kernel_rfl)⟩) ?_
   rintro n4 a w ⟨x_311, x_312, hi4, h⟩
   obtain ⟨n4, q4, rfl, hp, hs4⟩ := iter_inv hi4
   replace hp : wirelesslaw33_SduCredits_l4 F x_1 x_311 x_312 = some q4 := hp
   clear hi4
   refine h.go ?_
   refine SC.seq ?_
   refine SC.r tk [(1, vp 1 0), (3, vi .i64 x_311), (4, vi .i64 x_312), (16, vb ((decide (x_312 < (len x_1.Steps))) && (decide (x_312 < 60))))] [] [] [] (by kernel_rfl) ?_
   refine SC.if' rfl hp (fun hp => ?_) (fun hp => ?_)
   · refine SC.skipThen ?_
     refine SC.seq ?_
     refine SC.block ?_
     refine SC.seq ?_
     obtain ⟨x_313, e_x_313, hp⟩ := bind_inv hp
     refine SC.pre (pre_ix (i := 0) (iv := x_312) (sz := 3) (R := R_T_wirelesslaw33_Step) (l := x_1.Steps) (by kernel_rfl) rfl e_x_313) ?_
     refine SC.r tk [(1, vp 1 0), (3, vi .i64 x_311), (4, vi .i64 x_312), (26, vb (decide ((len x_313.SDU) > 16384)))] [] [.el 2] [x_312] (by kernel_rfl) ?_
     refine SC.if' rfl hp (fun hp => ?_) (fun hp => ?_)
     · refine SC.seq ?_
       refine SC.reg ?_
       obtain ⟨x_314, e_x_314, hp⟩ := bind_inv hp
       refine SL.eff (e_c Try.call11 (ok_wirelesslaw33_exampleHolds F  _ e_x_314) [] [] (vb x_314) (by kernel_rfl) (.inl rfl)) rfl (by kernel_rfl) ?_
       refine SL.sim tk 1 [(2, vb x_314)] [] [] [] (by kernel_rfl) ?_
       refine SL.nilThen ?_
       have ho := done_inv hp hs4
       replace hp := ho4
       try rw [ho] at hp
       obtain rfl := some_inv' hp
       exact SC.re (js := [.g 0]) tk (by kernel_rfl)
     · refine SC.skipThen ?_
       refine SC.reg ?_
       obtain ⟨x_315, e_x_315, hp⟩ := bind_inv hp
       refine SL.pre (pre_ix (i := 0) (iv := x_312) (sz := 3) (R := R_T_wirelesslaw33_Step) (l := x_1.Steps) (by kernel_rfl) rfl e_x_315) ?_
       refine SL.sim tk 10 [(1, vp 1 0), (3, vi .i64 (w64 (x_311 + (len x_315.SDU)))), (4, vi .i64 x_312)] [] [.el 4] [x_312] (by kernel_rfl) ?_
       refine SL.nilThen ?_
       refine SC.reg ?_
       refine SL.sim tk 3 [(1, vp 1 0), (3, vi .i64 (w64 (x_311 + (len x_315.SDU)))), (4, vi .i64 (w64 (x_312 + 1)))] [] [] [] (by kernel_rfl) ?_
       refine SL.nilJ fun a w h => ?_
       exact ⟨n4, Nat.lt_succ_self _, w64 (x_311 + (len x_315.SDU)), w64 (x_312 + 1), next_inv hp hs4, h.at (js := [.g 0, .g 1]) (by kernel_rfl)⟩
   · refine SC.exitJ rfl fun a w h => ?_
     have ho := done_inv hp hs4
     replace hp := ho4
     try rw [ho] at hp
     exact ⟨x_311, hp, h.at (js := [.g 0, .g 1]) (by kernel_rfl)⟩
 · rintro a w ⟨x_2, hp, h⟩
   refine h.go ?_
   refine SC.cut (fun a w => ∃ (x_3 : Int) (x_4 : Int) (x_5 : Int) (x_6 : Int) (x_7 : Int) (x_8 : Int) (x_9 : Int) (x_10 : Int) (x_11 : Int) (x_12 : Int) (l_13 : (List (List Int))) (x_14 : Int) (l_15 : (List Int)) (x_16 : Int) (z_17 : Bool) (x_18 : Int) (x_19 : Int) (x_20 : Int) (x_21 : Int) (x_22 : Int) (x_23 : Int) (x_24 : Int) (x_25 : Int) (x_26 : Int) (x_27 : Int) (l_28 : (List (List Int))) (x_29 : Int) (l_30 : (List Int)) (x_31 : Int) (z_32 : Bool), wirelesslaw33_SduCredits_j2 F x_1 x_2 x_3 x_4 x_5 x_6 x_7 x_8 x_9 x_10 x_11 x_12 l_13 x_14 l_15 x_16 z_17 x_18 x_19 x_20 x_21 x_22 x_23 x_24 x_25 x_26 x_27 l_28 x_29 l_30 x_31 z_32 = some r ∧ A 146 1 fx [(1, vp 1 0), (3, vi .i64 x_2), (5, vp 2 0)] [.rd 3 R_T_wirelesslaw33_Step x_1.Steps, .blk 47 (C_wirelesslaw33_Way x_1 (.s 0)), .blk 53 (C_wirelesslaw33_wire (T_wirelesslaw33_wire.mk (T_api_Channel.mk x_3 x_4 x_5 x_6 x_7 x_8 x_9 x_10 x_11 x_12 l_13 x_14 l_15 x_16 z_17) (T_api_Channel.mk x_18 x_19 x_20 x_21 x_22 x_23 x_24 x_25 x_26 x_27 l_28 x_29 l_30 x_31 z_32) [] [] [] [] false) (.s 3) (.s 4) (.s 5) (.s 6) nl nl nl nl), .rd 1 (RSl 1 R8) l_13, .rd 1 R8 l_15, .rd 1 (RSl 1 R8) l_28, .rd 1 R8 l_30] a w) ?_ ?_
   · refine SC.draw MO [true, true] (by kernel_rfl) fun kap_307 D_308 => ?_
     refine SD.takes tk D_308 [] kn0 [0, 1, 2, 3, 4, 5, 7, 8, 9, 10, 11, 12] [] [] [I, I, I, I, I, I, O, I, I, I, I, I, I, O, O, O, O] [(1, vp 1 0), (3, vi .i64 x_2), (38, vi .i64 x_1.MTU), (40, vi .i64 x_1.MPS), (42, vi .i64 x_1.Credits), (45, vi .i64 x_1.MTU), (47, vi .i64 x_1.MPS), (49, vi .i64 x_1.Credits)] rfl (by kernel_rfl) (by kernel_rfl) (by kernel_rfl) ?_
     obtain ⟨x_309, e_x_309, hp⟩ := bind_inv hp
     refine SD.all1 (i := 6) (by kernel_rfl) ?_
     refine SW.eff D_308 (i := 6) (bs' := [I, I, I, I, I, I, I, I, I, I, I, I, I, O, O, O, O]) rfl (.inl rfl) rfl (e_c Try.call19 (ok_wirelesslaw33_end F x_1.MTU x_1.MPS x_1.Credits _ e_x_309) [] [vi .i64 x_1.MTU, vi .i64 x_1.MPS, vi .i64 x_1.Credits] (.g (C_api_Channel x_309 (.s 2) (.s 3))) (by kernel_rfl) (.inl rfl)) (by kernel_rfl) rfl (by kernel_rfl) ?_
     obtain ⟨x_310, e_x_310, hp⟩ := bind_inv hp
     refine SD.all1 (i := 13) (by kernel_rfl) ?_
     refine SW.eff D_308 (i := 13) (bs' := [I, I, I, I, I, I, I, I, I, I, I, I, I, I, O, O, O]) rfl (.inl rfl) rfl (e_c Try.call19 (ok_wirelesslaw33_end F x_1.MTU x_1.MPS x_1.Credits _ e_x_310) [] [vi .i64 x_1.MTU, vi .i64 x_1.MPS, vi .i64 x_1.Credits] (.g (C_api_Channel x_310 (.s 4) (.s 5))) (by kernel_rfl) (.inl rfl)) (by kernel_rfl) rfl (by kernel_rfl) ?_
     refine SD.norm (itsN := [.rd 3 R_T_wirelesslaw33_Step x_1.Steps, .blk 47 (C_wirelesslaw33_Way x_1 (.s 0)), .rd 1 (RSl 1 R8) x_309.Out, .rd 1 R8 x_309.In, .rd 1 (RSl 1 R8) x_310.Out, .rd 1 R8 x_310.In]) (by kernel_rfl) ?_
     refine SD.all1 (i := 14) (by kernel_rfl) ?_
     refine SW.eff D_308 (i := 14) (v := .g (C_wirelesslaw33_wire (T_wirelesslaw33_wire.mk x_309 x_310 [] [] [] [] false) (.s 2) (.s 3) (.s 4) (.s 5) nl nl nl nl)) (bs' := [I, I, I, I, I, I, I, I, I, I, I, I, I, I, I, O, O]) rfl (.inl rfl) rfl (e_val tk (by kernel_rfl)) (by kernel_rfl) rfl (by kernel_rfl) ?_
     refine SD.all1 (i := 15) (by kernel_rfl) ?_
     refine SW.eff D_308 (i := 15) (bs' := [I, I, I, I, I, I, I, I, I, I, I, I, I, I, I, I, O]) rfl (.inl rfl) rfl (e_box (E := 53) (C_wirelesslaw33_wire (T_wirelesslaw33_wire.mk x_309 x_310 [] [] [] [] false) (.s 2) (.s 3) (.s 4) (.s 5) nl nl nl nl) (by kernel_rfl)) (by kernel_rfl) rfl (by kernel_rfl) ?_
     refine SD.norm (itsN := [.rd 3 R_T_wirelesslaw33_Step x_1.Steps, .blk 47 (C_wirelesslaw33_Way x_1 (.s 0)), .rd 1 (RSl 1 R8) x_309.Out, .rd 1 R8 x_309.In, .rd 1 (RSl 1 R8) x_310.Out, .rd 1 R8 x_310.In, .blk 53 (C_wirelesslaw33_wire (T_wirelesslaw33_wire.mk x_309 x_310 [] [] [] [] false) (.s 2) (.s 3) (.s 4) (.s 5) nl nl nl nl)]) (by kernel_rfl) ?_
     refine SD.takes tk D_308 [] kn0 [16] [] [] [I, I, I, I, I, I, I, I, I, I, I, I, I, I, I, I, I] [(1, vp 1 0), (3, vi .i64 x_2), (5, vp 6 0)] rfl (by kernel_rfl) (by kernel_rfl) (by kernel_rfl) ?_
     refine SD.done (by kernel_rfl) fun a w h => ?_
     exact ⟨x_309.Local, x_309.Remote, x_309.PSM, x_309.MTU, x_309.MPS, x_309.PeerMTU, x_309.PeerMPS, x_309.TxCredits, x_309.RxCredits, x_309.Given, x_309.Out, x_309.Sent, x_309.In, x_309.Want, x_309.Failed, x_310.Local, x_310.Remote, x_310.PSM, x_310.MTU, x_310.MPS, x_310.PeerMTU, x_310.PeerMPS, x_310.TxCredits, x_310.RxCredits, x_310.Given, x_310.Out, x_310.Sent, x_310.In, x_310.Want, x_310.Failed, hp, h.at (js := [.g 0, .g 1, .g 6, .g 2, .g 3, .g 4, .g 5]) (by kernel_rfl)⟩
   · rintro a w ⟨x_3, x_4, x_5, x_6, x_7, x_8, x_9, x_10, x_11, x_12, l_13, x_14, l_15, x_16, z_17, x_18, x_19, x_20, x_21, x_22, x_23, x_24, x_25, x_26, x_27, l_28, x_29, l_30, x_31, z_32, hp, h⟩
     refine h.go ?_
     refine SC.seq ?_
     refine SC.seq ?_
     refine SC.reg ?_
     refine SL.sim tk 9 [(1, vp 1 0), (5, vp 2 0), (61, vb ((decide ((len x_1.Steps) > 60)) || (decide (x_2 > 16384))))] [] [] [] (by kernel_rfl) ?_
     obtain ⟨z_34, hz, hpr⟩ := bind_inv hp
     clear hp
     refine SL.cutAt 7 (fun a w => A 146 1 fx [(1, vp 1 0), (5, vp 2 0), (68, vb z_34)] [.rd 3 R_T_wirelesslaw33_Step x_1.Steps, .blk 47 (C_wirelesslaw33_Way x_1 (.s 0)), .blk 53 (C_wirelesslaw33_wire (T_wirelesslaw33_wire.mk (T_api_Channel.mk x_3 x_4 x_5 x_6 x_7 x_8 x_9 x_10 x_11 x_12 l_13 x_14 l_15 x_16 z_17) (T_api_Channel.mk x_18 x_19 x_20 x_21 x_22 x_23 x_24 x_25 x_26 x_27 l_28 x_29 l_30 x_31 z_32) [] [] [] [] false) (.s 3) (.s 4) (.s 5) (.s 6) nl nl nl nl), .rd 1 (RSl 1 R8) l_13, .rd 1 R8 l_15, .rd 1 (RSl 1 R8) l_28, .rd 1 R8 l_30] a w) ?_ ?_
     · have hp := hz
       rcases Bool.eq_false_or_eq_true (((decide ((len x_1.Steps) > 60)) || (decide (x_2 > 16384)))) with hg_33 | hg_33
       · replace hp := if_t hp hg_33
         refine SL.no rfl rfl hg_33 rfl ?_
         refine SL.no rfl rfl hg_33 rfl ?_
         refine SL.no rfl rfl hg_33 rfl ?_
         refine SL.no rfl rfl hg_33 rfl ?_
         refine SL.no rfl rfl hg_33 rfl ?_
         refine SL.no rfl rfl hg_33 rfl ?_
         refine SL.pickt rfl hg_33 rfl rfl ?_
         refine SL.nilJ fun a w h => ?_
         obtain rfl := some_inv' hp
         exact h.at (js := [.g 0, .g 1, .g 2, .g 3, .g 4, .g 5, .g 6]) (by kernel_rfl)
       · replace hp := if_f hp hg_33
         refine SL.yes rfl rfl hg_33 ?_
         refine SL.sim tk 1 [(1, vp 1 0), (5, vp 2 0), (61, vb ((decide ((len x_1.Steps) > 60)) || (decide (x_2 > 16384)))), (62, vp 2 0)] [] [] [] (by kernel_rfl) ?_
         refine SL.yes rfl rfl hg_33 ?_
         refine SL.sim tk 1 [(1, vp 1 0), (5, vp 2 0), (61, vb ((decide ((len x_1.Steps) > 60)) || (decide (x_2 > 16384)))), (63, vp 2 0)] [] [] [] (by kernel_rfl) ?_
         refine SL.yes rfl rfl hg_33 ?_
         refine SL.sim tk 1 [(1, vp 1 0), (5, vp 2 0), (61, vb ((decide ((len x_1.Steps) > 60)) || (decide (x_2 > 16384)))), (64, vp 2 0)] [] [] [] (by kernel_rfl) ?_
         refine SL.yes rfl rfl hg_33 ?_
         refine SL.sim tk 1 [(1, vp 1 0), (5, vp 2 0), (61, vb ((decide ((len x_1.Steps) > 60)) || (decide (x_2 > 16384)))), (65, .g (C_api_Channel (T_api_Channel.mk x_3 x_4 x_5 x_6 x_7 x_8 x_9 x_10 x_11 x_12 l_13 x_14 l_15 x_16 z_17) (.s 3) (.s 4)))] [] [] [] (by kernel_rfl) ?_
         refine SL.yes rfl rfl hg_33 ?_
         obtain ⟨x_306, e_x_306, hp⟩ := bind_inv hp
         refine SL.eff (e_c Try.call10 (ok_wirelessref33_Check F (T_api_Channel.mk x_3 x_4 x_5 x_6 x_7 x_8 x_9 x_10 x_11 x_12 l_13 x_14 l_15 x_16 z_17) _ e_x_306) [.g 3, .g 4] [.g (C_api_Channel (T_api_Channel.mk x_3 x_4 x_5 x_6 x_7 x_8 x_9 x_10 x_11 x_12 l_13 x_14 l_15 x_16 z_17) (.s 3) (.s 4))] (vi .i64 x_306) (by kernel_rfl) (.inl rfl)) rfl (by kernel_rfl) ?_
         refine SL.yes rfl rfl hg_33 ?_
         refine SL.sim tk 1 [(1, vp 1 0), (5, vp 2 0), (61, vb ((decide ((len x_1.Steps) > 60)) || (decide (x_2 > 16384)))), (67, vb (x_306 != 0))] [] [] [] (by kernel_rfl) ?_
         refine SL.pickf rfl hg_33 rfl rfl ?_
         refine SL.nilJ fun a w h => ?_
         obtain rfl := some_inv' hp
         exact h.at (js := [.g 0, .g 1, .g 2, .g 3, .g 4, .g 5, .g 6]) (by kernel_rfl)
     · intro a w h
       have hp := hpr; clear hpr hz
       refine h.goL ?_
       refine SL.nilThen ?_
       refine SC.if' rfl hp (fun hp => ?_) (fun hp => ?_)
       · refine SC.seq ?_
         refine SC.reg ?_
         obtain ⟨x_35, e_x_35, hp⟩ := bind_inv hp
         refine SL.eff (e_c Try.call11 (ok_wirelesslaw33_exampleHolds F  _ e_x_35) [] [] (vb x_35) (by kernel_rfl) (.inl rfl)) rfl (by kernel_rfl) ?_
         refine SL.sim tk 1 [(2, vb x_35)] [] [] [] (by kernel_rfl) ?_
         refine SL.nilThen ?_
         obtain rfl := some_inv' hp
         exact SC.re (js := [.g 0]) tk (by kernel_rfl)
       · refine SC.skipThen ?_
         refine SC.cut (fun a w => ∃ (c_71 : T_wirelesslaw33_wire), wirelesslaw33_SduCredits_j3 F c_71 = some r ∧ A 146 1 fx [(5, vp 1 0)] [.gone, .blk 53 (C_wirelesslaw33_wire c_71 (.s 2) (.s 3) (.s 4) (.s 5) (.s 6) (.s 7) (.s 8) (.s 9)), .rd 1 (RSl 1 R8) c_71.a.Out, .rd 1 R8 c_71.a.In, .rd 1 (RSl 1 R8) c_71.b.Out, .rd 1 R8 c_71.b.In, .own 1 24 (RSl 1 R8) c_71.frames, .own 1 3 (RInt .i64) c_71.credits, .own 1 24 (RSl 1 R8) c_71.queued, .own 1 24 (RSl 1 R8) c_71.got] a w) ?_ ?_
         · refine SC.r tk [(1, vp 1 0), (5, vp 2 0), (6, vi .i64 0)] [] [] [] (by kernel_rfl) ?_
           refine SC.block ?_
           obtain ⟨o3, hi3, ho3⟩ := bind_inv hp
           clear hp
           refine SC.loop (fun n a w => ∃ (c_300 : T_wirelesslaw33_wire) (x_301 : Int), iter (fun s => wirelesslaw33_SduCredits_l3 F x_1 s.1 s.2) n (c_300, x_301) = some o3 ∧ A 146 1 fx [(1, vp 1 0), (5, vp 2 0), (6, vi .i64 x_301)] [.rd 3 R_T_wirelesslaw33_Step x_1.Steps, .blk 47 (C_wirelesslaw33_Way x_1 (.s 0)), .blk 53 (C_wirelesslaw33_wire c_300 (.s 3) (.s 4) (.s 5) (.s 6) (.s 7) (.s 8) (.s 9) (.s 10)), .rd 1 (RSl 1 R8) c_300.a.Out, .rd 1 R8 c_300.a.In, .rd 1 (RSl 1 R8) c_300.b.Out, .rd 1 R8 c_300.b.In, .own 1 24 (RSl 1 R8) c_300.frames, .own 1 3 (RInt .i64) c_300.credits, .own 1 24 (RSl 1 R8) c_300.queued, .own 1 24 (RSl 1 R8) c_300.got] a w) F (fun a w h => ⟨(T_wirelesslaw33_wire.mk (T_api_Channel.mk x_3 x_4 x_5 x_6 x_7 x_8 x_9 x_10 x_11 x_12 l_13 x_14 l_15 x_16 z_17) (T_api_Channel.mk x_18 x_19 x_20 x_21 x_22 x_23 x_24 x_25 x_26 x_27 l_28 x_29 l_30 x_31 z_32) [] [] [] [] false), 0, hi3, h.at (js := [.g 0, .g 1, .g 2, .g 3, .g 4, .g 5, .g 6, .n, .n, .n, .n]) (by kernel_rfl)⟩) ?_
           rintro n3 a w ⟨c_300, x_301, hi3, h⟩
           obtain ⟨n3, q3, rfl, hp, hs3⟩ := iter_inv hi3
           replace hp : wirelesslaw33_SduCredits_l3 F x_1 c_300 x_301 = some q3 := hp
           clear hi3
           refine h.go ?_
           refine SC.seq ?_
           refine SC.r tk [(1, vp 1 0), (5, vp 2 0), (6, vi .i64 x_301), (74, vb (decide (x_301 < (len x_1.Steps))))] [] [] [] (by kernel_rfl) ?_
           refine SC.if' rfl hp (fun hp => ?_) (fun hp => ?_)
           · refine SC.skipThen ?_
             refine SC.seq ?_
             refine SC.block ?_
             refine SC.seq ?_
             refine SC.reg ?_
             obtain ⟨x_302, e_x_302, hp⟩ := bind_inv hp
             refine SL.pre (pre_ix (i := 0) (iv := x_301) (sz := 3) (R := R_T_wirelesslaw33_Step) (l := x_1.Steps) (by kernel_rfl) rfl e_x_302) ?_
             refine SL.sim tk 6 [(1, vp 1 0), (5, vp 2 0), (6, vi .i64 x_301), (77, vp 2 0), (82, .g (C_wirelesslaw33_Step x_302 (.s 12)))] [] [.el 11] [x_301] (by kernel_rfl) ?_
             obtain ⟨x_303, e_x_303, hp⟩ := bind_inv hp
             refine SL.eff (e_c Try.call26 (ok_wirelesslaw33_wire_step F c_300 x_302 _ e_x_303) [.g 2, .g 3, .g 4, .g 5, .g 6, .g 7, .g 8, .g 9, .g 10, .g 12] [vp 2 0, .g (C_wirelesslaw33_Step x_302 (.s 12))] (.u []) (by kernel_rfl) (.inl rfl)) rfl (by kernel_rfl) ?_
             refine SL.nilThen ?_
             refine SC.seq ?_
             refine SC.reg ?_
             refine SL.sim tk 1 [(1, vp 1 0), (5, vp 2 0), (6, vi .i64 x_301), (84, vp 2 0)] [] [] [] (by kernel_rfl) ?_
             obtain ⟨x_304, e_x_304, hp⟩ := bind_inv hp
             refine SL.eff (e_c Try.call27 (ok_wirelesslaw33_wire_sound F x_303 _ e_x_304) [.g 2, .g 13, .g 14, .g 15, .g 16, .l 17, .l 18, .l 19, .l 20] [vp 2 0] (vb x_304) (by kernel_rfl) (.inr ⟨trivial, trivial, trivial, trivial, trivial, trivial, trivial, trivial, trivial, trivial⟩)) rfl (by kernel_rfl) ?_
             refine SL.norm (itsN := [.rd 3 R_T_wirelesslaw33_Step x_1.Steps, .blk 47 (C_wirelesslaw33_Way x_1 (.s 0)), .blk 53 (C_wirelesslaw33_wire x_303 (.s 13) (.s 14) (.s 15) (.s 16) (.s 17) (.s 18) (.s 19) (.s 20)), .rd 1 (RSl 1 R8) c_300.a.Out, .rd 1 R8 c_300.a.In, .rd 1 (RSl 1 R8) c_300.b.Out, .rd 1 R8 c_300.b.In, .gone, .gone, .gone, .gone, .elt (some (0, x_301)) false (C_wirelesslaw33_Step x_302 (.s 12)), .rd 1 R8 x_302.SDU, .rd 1 (RSl 1 R8) x_303.a.Out, .rd 1 R8 x_303.a.In, .rd 1 (RSl 1 R8) x_303.b.Out, .rd 1 R8 x_303.b.In, .own 1 24 (RSl 1 R8) x_303.frames, .own 1 3 (RInt .i64) x_303.credits, .own 1 24 (RSl 1 R8) x_303.queued, .own 1 24 (RSl 1 R8) x_303.got]) (by kernel_rfl) ?_
             refine SL.sim tk 1 [(1, vp 1 0), (5, vp 2 0), (6, vi .i64 x_301), (86, vb (!x_304))] [] [] [] (by kernel_rfl) ?_
             refine SL.nilThen ?_
             refine SC.if' rfl hp (fun hp => ?_) (fun hp => ?_)
             · refine SC.r tk [(2, vb false)] [] [] [] (by kernel_rfl) ?_
               have ho := done_inv hp hs3
               replace hp := ho3
               try rw [ho] at hp
               obtain rfl := some_inv' hp
               exact SC.re (js := [.g 0]) tk (by kernel_rfl)
             · refine SC.skipThen ?_
               refine SC.reg ?_
               refine SL.sim tk 3 [(1, vp 1 0), (5, vp 2 0), (6, vi .i64 (w64 (x_301 + 1)))] [] [] [] (by kernel_rfl) ?_
               refine SL.nilJ fun a w h => ?_
               exact ⟨n3, Nat.lt_succ_self _, x_303, w64 (x_301 + 1), next_inv hp hs3, h.at (js := [.g 0, .g 1, .g 2, .g 13, .g 14, .g 15, .g 16, .g 17, .g 18, .g 19, .g 20]) (by kernel_rfl)⟩
           · refine SC.exitJ rfl fun a w h => ?_
             have ho := done_inv hp hs3
             replace hp := ho3
             try rw [ho] at hp
             exact ⟨c_300, hp, h.at (js := [.g 0, .g 2, .g 3, .g 4, .g 5, .g 6, .g 7, .g 8, .g 9, .g 10]) (by kernel_rfl)⟩
         · rintro a w ⟨c_71, hp, h⟩
           refine h.go ?_
           refine SC.cut (fun a w => ∃ (c_107 : T_wirelesslaw33_wire), wirelesslaw33_SduCredits_j4 F c_107 = some r ∧ A 146 1 fx [(5, vp 1 0)] [.gone, .blk 53 (C_wirelesslaw33_wire c_107 (.s 2) (.s 3) (.s 4) (.s 5) (.s 6) (.s 7) (.s 8) (.s 9)), .rd 1 (RSl 1 R8) c_107.a.Out, .rd 1 R8 c_107.a.In, .rd 1 (RSl 1 R8) c_107.b.Out, .rd 1 R8 c_107.b.In, .own 1 24 (RSl 1 R8) c_107.frames, .own 1 3 (RInt .i64) c_107.credits, .own 1 24 (RSl 1 R8) c_107.queued, .own 1 24 (RSl 1 R8) c_107.got] a w) ?_ ?_
           · refine SC.r tk [(5, vp 1 0), (7, vi .i64 0)] [] [] [] (by kernel_rfl) ?_
             refine SC.block ?_
             obtain ⟨o1, hi1, ho1⟩ := bind_inv hp
             clear hp
             refine SC.loop (fun n a w => ∃ (c_148 : T_wirelesslaw33_wire) (x_149 : Int), iter (fun s => wirelesslaw33_SduCredits_l1 F s.1 s.2) n (c_148, x_149) = some o1 ∧ A 146 1 fx [(5, vp 1 0), (7, vi .i64 x_149)] [.gone, .blk 53 (C_wirelesslaw33_wire c_148 (.s 2) (.s 3) (.s 4) (.s 5) (.s 6) (.s 7) (.s 8) (.s 9)), .rd 1 (RSl 1 R8) c_148.a.Out, .rd 1 R8 c_148.a.In, .rd 1 (RSl 1 R8) c_148.b.Out, .rd 1 R8 c_148.b.In, .own 1 24 (RSl 1 R8) c_148.frames, .own 1 3 (RInt .i64) c_148.credits, .own 1 24 (RSl 1 R8) c_148.queued, .own 1 24 (RSl 1 R8) c_148.got] a w) F (fun a w h => ⟨c_71, 0, hi1, h.at (js := [.g 0, .g 1, .g 2, .g 3, .g 4, .g 5, .g 6, .g 7, .g 8, .g 9]) (by kernel_rfl)⟩) ?_
             rintro n1 a w ⟨c_148, x_149, hi1, h⟩
             obtain ⟨n1, q1, rfl, hp, hs1⟩ := iter_inv hi1
             replace hp : wirelesslaw33_SduCredits_l1 F c_148 x_149 = some q1 := hp
             clear hi1
             refine h.go ?_
             refine SC.seq ?_
             refine SC.cut (fun a w => wirelesslaw33_SduCredits_j6 F c_148 x_149 = some q1 ∧ A 146 1 fx [(5, vp 1 0), (7, vi .i64 x_149), (101, vb ((decide (x_149 < 100)) && (decide ((len c_148.got) < (len c_148.queued)))))] [.gone, .blk 53 (C_wirelesslaw33_wire c_148 (.s 2) (.s 3) (.s 4) (.s 5) (.s 6) (.s 7) (.s 8) (.s 9)), .rd 1 (RSl 1 R8) c_148.a.Out, .rd 1 R8 c_148.a.In, .rd 1 (RSl 1 R8) c_148.b.Out, .rd 1 R8 c_148.b.In, .own 1 24 (RSl 1 R8) c_148.frames, .own 1 3 (RInt .i64) c_148.credits, .own 1 24 (RSl 1 R8) c_148.queued, .own 1 24 (RSl 1 R8) c_148.got] a w) ?_ ?_
             · refine SC.draw MO [O, I, I, I, I, I, I, I, I, I] (by kernel_rfl) fun kap_263 D_264 => ?_
               refine SD.takes tk D_264 [] kn0 [0, 1, 2, 3, 4, 5, 6, 7, 8, 9, 10, 11, 12, 13, 14] [] [] [I, I, I, I, I, I, I, I, I, I, I, I, I, I, I] [(5, vp 1 0), (7, vi .i64 x_149), (101, vb ((decide (x_149 < 100)) && (decide ((len c_148.got) < (len c_148.queued)))))] rfl (by kernel_rfl) (by kernel_rfl) (by kernel_rfl) ?_
               refine SD.done (by kernel_rfl) fun a w h => ?_
               exact ⟨hp, h.at (js := [.g 0, .g 1, .g 2, .g 3, .g 4, .g 5, .g 6, .g 7, .g 8, .g 9]) (by kernel_rfl)⟩
             · rintro a w ⟨hp, h⟩
               refine h.go ?_
               refine SC.if' rfl hp (fun hp => ?_) (fun hp => ?_)
               · refine SC.skipThen ?_
                 refine SC.cut (fun a w => ∃ (c_185 : T_wirelesslaw33_wire), wirelesslaw33_SduCredits_j7 F x_149 c_185 = some q1 ∧ A 146 1 fx [(5, vp 1 0), (7, vi .i64 x_149)] [.gone, .blk 53 (C_wirelesslaw33_wire c_185 (.s 2) (.s 3) (.s 4) (.s 5) (.s 6) (.s 7) (.s 8) (.s 9)), .rd 1 (RSl 1 R8) c_185.a.Out, .rd 1 R8 c_185.a.In, .rd 1 (RSl 1 R8) c_185.b.Out, .rd 1 R8 c_185.b.In, .own 1 24 (RSl 1 R8) c_185.frames, .own 1 3 (RInt .i64) c_185.credits, .own 1 24 (RSl 1 R8) c_185.queued, .own 1 24 (RSl 1 R8) c_185.got] a w) ?_ ?_
                 · refine SC.block ?_
                   refine SC.seq ?_
                   refine SC.reg ?_
                   refine SL.sim tk 2 [(5, vp 1 0), (7, vi .i64 x_149), (104, vp 1 0), (105, .g [ci .u8 3, nl, ci .u8 60])] [] [] [] (by kernel_rfl) ?_
                   obtain ⟨x_186, e_x_186, hp⟩ := bind_inv hp
                   refine SL.eff (e_c Try.call26 (ok_wirelesslaw33_wire_step F c_148 (T_wirelesslaw33_Step.mk 3 [] 60) _ e_x_186) [.g 1, .g 2, .g 3, .g 4, .g 5, .g 6, .g 7, .g 8, .g 9, .n] [vp 1 0, .g [ci .u8 3, nl, ci .u8 60]] (.u []) (by kernel_rfl) (.inl rfl)) rfl (by kernel_rfl) ?_
                   refine SL.nilThen ?_
                   refine SC.seq ?_
                   refine SC.reg ?_
                   refine SL.sim tk 2 [(5, vp 1 0), (7, vi .i64 x_149), (107, vp 1 0), (108, .g [ci .u8 4, nl, ci .u8 255])] [] [] [] (by kernel_rfl) ?_
                   obtain ⟨x_187, e_x_187, hp⟩ := bind_inv hp
                   refine SL.eff (e_c Try.call26 (ok_wirelesslaw33_wire_step F x_186 (T_wirelesslaw33_Step.mk 4 [] 255) _ e_x_187) [.g 1, .g 10, .g 11, .g 12, .g 13, .g 14, .g 15, .g 16, .g 17, .n] [vp 1 0, .g [ci .u8 4, nl, ci .u8 255]] (.u []) (by kernel_rfl) (.inl rfl)) rfl (by kernel_rfl) ?_
                   refine SL.norm (itsN := [.gone, .blk 53 (C_wirelesslaw33_wire x_187 (.s 18) (.s 19) (.s 20) (.s 21) (.s 22) (.s 23) (.s 24) (.s 25)), .rd 1 (RSl 1 R8) c_148.a.Out, .rd 1 R8 c_148.a.In, .rd 1 (RSl 1 R8) c_148.b.Out, .rd 1 R8 c_148.b.In, .gone, .gone, .gone, .gone, .rd 1 (RSl 1 R8) x_186.a.Out, .rd 1 R8 x_186.a.In, .rd 1 (RSl 1 R8) x_186.b.Out, .rd 1 R8 x_186.b.In, .gone, .gone, .gone, .gone, .rd 1 (RSl 1 R8) x_187.a.Out, .rd 1 R8 x_187.a.In, .rd 1 (RSl 1 R8) x_187.b.Out, .rd 1 R8 x_187.b.In, .own 1 24 (RSl 1 R8) x_187.frames, .own 1 3 (RInt .i64) x_187.credits, .own 1 24 (RSl 1 R8) x_187.queued, .own 1 24 (RSl 1 R8) x_187.got]) (by kernel_rfl) ?_
                   refine SL.nilThen ?_
                   refine SC.seq ?_
                   refine SC.reg ?_
                   refine SL.sim tk 2 [(5, vp 1 0), (7, vi .i64 x_149), (110, vp 1 0), (111, .g [ci .u8 1, nl, ci .u8 0])] [] [] [] (by kernel_rfl) ?_
                   obtain ⟨x_188, e_x_188, hp⟩ := bind_inv hp
                   refine SL.eff (e_c Try.call26 (ok_wirelesslaw33_wire_step F x_187 (T_wirelesslaw33_Step.mk 1 [] 0) _ e_x_188) [.g 1, .g 18, .g 19, .g 20, .g 21, .g 22, .g 23, .g 24, .g 25, .n] [vp 1 0, .g [ci .u8 1, nl, ci .u8 0]] (.u []) (by kernel_rfl) (.inl rfl)) rfl (by kernel_rfl) ?_
                   refine SL.nilThen ?_
                   refine SC.cut (fun a w => ∃ (c_224 : T_wirelesslaw33_wire), wirelesslaw33_SduCredits_j8 F x_149 c_224 = some q1 ∧ A 146 1 fx [(5, vp 1 0), (7, vi .i64 x_149)] [.gone, .blk 53 (C_wirelesslaw33_wire c_224 (.s 2) (.s 3) (.s 4) (.s 5) (.s 6) (.s 7) (.s 8) (.s 9)), .rd 1 (RSl 1 R8) c_224.a.Out, .rd 1 R8 c_224.a.In, .rd 1 (RSl 1 R8) c_224.b.Out, .rd 1 R8 c_224.b.In, .own 1 24 (RSl 1 R8) c_224.frames, .own 1 3 (RInt .i64) c_224.credits, .own 1 24 (RSl 1 R8) c_224.queued, .own 1 24 (RSl 1 R8) c_224.got] a w) ?_ ?_
                   · refine SC.block ?_
                     obtain ⟨o2, hi2, ho2⟩ := bind_inv hp
                     clear hp
                     refine SC.loop (fun n a w => ∃ (c_261 : T_wirelesslaw33_wire), iter (fun s => wirelesslaw33_SduCredits_l2 F s) n (c_261) = some o2 ∧ A 146 1 fx [(5, vp 1 0), (7, vi .i64 x_149)] [.gone, .blk 53 (C_wirelesslaw33_wire c_261 (.s 2) (.s 3) (.s 4) (.s 5) (.s 6) (.s 7) (.s 8) (.s 9)), .rd 1 (RSl 1 R8) c_261.a.Out, .rd 1 R8 c_261.a.In, .rd 1 (RSl 1 R8) c_261.b.Out, .rd 1 R8 c_261.b.In, .own 1 24 (RSl 1 R8) c_261.frames, .own 1 3 (RInt .i64) c_261.credits, .own 1 24 (RSl 1 R8) c_261.queued, .own 1 24 (RSl 1 R8) c_261.got] a w) F (fun a w h => ⟨x_188, hi2, h.at (js := [.g 0, .g 1, .g 26, .g 27, .g 28, .g 29, .g 30, .g 31, .g 32, .g 33]) (by kernel_rfl)⟩) ?_
                     rintro n2 a w ⟨c_261, hi2, h⟩
                     obtain ⟨n2, q2, rfl, hp, hs2⟩ := iter_inv hi2
                     replace hp : wirelesslaw33_SduCredits_l2 F c_261 = some q2 := hp
                     clear hi2
                     refine h.go ?_
                     refine SC.seq ?_
                     refine SC.r tk [(5, vp 1 0), (7, vi .i64 x_149), (125, vb ((decide ((len c_261.frames) > 0)) && (!c_261.bad)))] [] [] [] (by kernel_rfl) ?_
                     refine SC.if' rfl hp (fun hp => ?_) (fun hp => ?_)
                     · refine SC.skipThen ?_
                       refine SC.block ?_
                       refine SC.reg ?_
                       refine SL.sim tk 2 [(5, vp 1 0), (7, vi .i64 x_149), (126, vp 1 0), (127, .g [ci .u8 2, nl, ci .u8 255])] [] [] [] (by kernel_rfl) ?_
                       obtain ⟨x_262, e_x_262, hp⟩ := bind_inv hp
                       refine SL.eff (e_c Try.call26 (ok_wirelesslaw33_wire_step F c_261 (T_wirelesslaw33_Step.mk 2 [] 255) _ e_x_262) [.g 1, .g 2, .g 3, .g 4, .g 5, .g 6, .g 7, .g 8, .g 9, .n] [vp 1 0, .g [ci .u8 2, nl, ci .u8 255]] (.u []) (by kernel_rfl) (.inl rfl)) rfl (by kernel_rfl) ?_
                       refine SL.nilJ fun a w h => ?_
                       exact ⟨n2, Nat.lt_succ_self _, x_262, next_inv hp hs2, h.at (js := [.g 0, .g 1, .g 10, .g 11, .g 12, .g 13, .g 14, .g 15, .g 16, .g 17]) (by kernel_rfl)⟩
                     · refine SC.exitJ rfl fun a w h => ?_
                       have ho := done_inv hp hs2
                       replace hp := ho2
                       try rw [ho] at hp
                       exact ⟨c_261, hp, h.at (js := [.g 0, .g 1, .g 2, .g 3, .g 4, .g 5, .g 6, .g 7, .g 8, .g 9]) (by kernel_rfl)⟩
                   · rintro a w ⟨c_224, hp, h⟩
                     refine h.go ?_
                     refine SC.seq ?_
                     refine SC.reg ?_
                     refine SL.sim tk 1 [(5, vp 1 0), (7, vi .i64 x_149), (129, vp 1 0)] [] [] [] (by kernel_rfl) ?_
                     obtain ⟨x_225, e_x_225, hp⟩ := bind_inv hp
                     refine SL.eff (e_c Try.call27 (ok_wirelesslaw33_wire_sound F c_224 _ e_x_225) [.g 1, .g 2, .g 3, .g 4, .g 5, .l 6, .l 7, .l 8, .l 9] [vp 1 0] (vb x_225) (by kernel_rfl) (.inr ⟨trivial, trivial, trivial, trivial, trivial, trivial, trivial, trivial, trivial, trivial⟩)) rfl (by kernel_rfl) ?_
                     refine SL.sim tk 1 [(5, vp 1 0), (7, vi .i64 x_149), (131, vb (!x_225))] [] [] [] (by kernel_rfl) ?_
                     refine SL.nilThen ?_
                     refine SC.if' rfl hp (fun hp => ?_) (fun hp => ?_)
                     · refine SC.r tk [(2, vb false)] [] [] [] (by kernel_rfl) ?_
                       have ho := done_inv hp hs1
                       replace hp := ho1
                       try rw [ho] at hp
                       obtain rfl := some_inv' hp
                       exact SC.re (js := [.g 0]) tk (by kernel_rfl)
                     · refine SC.skipJ fun a w h => ?_
                       exact ⟨c_224, hp, h.at (js := [.g 0, .g 1, .g 2, .g 3, .g 4, .g 5, .g 6, .g 7, .g 8, .g 9]) (by kernel_rfl)⟩
                 · rintro a w ⟨c_185, hp, h⟩
                   refine h.go ?_
                   refine SC.reg ?_
                   refine SL.sim tk 3 [(5, vp 1 0), (7, vi .i64 (w64 (x_149 + 1)))] [] [] [] (by kernel_rfl) ?_
                   refine SL.nilJ fun a w h => ?_
                   exact ⟨n1, Nat.lt_succ_self _, c_185, w64 (x_149 + 1), next_inv hp hs1, h.at (js := [.g 0, .g 1, .g 2, .g 3, .g 4, .g 5, .g 6, .g 7, .g 8, .g 9]) (by kernel_rfl)⟩
               · refine SC.exitJ rfl fun a w h => ?_
                 have ho := done_inv hp hs1
                 replace hp := ho1
                 try rw [ho] at hp
                 exact ⟨c_148, hp, h.at (js := [.g 0, .g 1, .g 2, .g 3, .g 4, .g 5, .g 6, .g 7, .g 8, .g 9]) (by kernel_rfl)⟩
           · rintro a w ⟨c_107, hp, h⟩
             refine h.go ?_
             refine SC.cut (fun a w => ∃ (z_108 : Bool), wirelesslaw33_SduCredits_j5 F z_108 = some r ∧ A 146 1 fx [(2, vb z_108)] [.gone] a w) ?_ ?_
             · refine SC.draw MO [O, I, I, I, I, I, I, I, I, I] (by kernel_rfl) fun kap_109 D_110 => ?_
               refine SD.takes tk D_110 [] kn0 [0, 1, 2, 3, 4, 5, 6, 7, 8, 9, 10, 11] [] [] [I, I, I, I, I, I, I, I, I, I, I, I, O, O, O] [(143, vb ((len c_107.got) == (len c_107.queued)))] rfl (by kernel_rfl) (by kernel_rfl) (by kernel_rfl) ?_
               rcases Bool.eq_false_or_eq_true (((len c_107.got) == (len c_107.queued))) with hg_111 | hg_111
               · replace hp := if_t hp hg_111
                 obtain ⟨x_112, e_x_112, hp⟩ := bind_inv hp
                 refine SD.all1 (i := 12) (by kernel_rfl) ?_
                 refine SW.eff D_110 (i := 12) (bs' := [I, I, I, I, I, I, I, I, I, I, I, I, I, O, O]) rfl (.inr ⟨_, _, _, _, rfl, rfl, rfl, hg_111⟩) rfl (e_c Try.call11 (ok_wirelesslaw33_exampleHolds F  _ e_x_112) [] [] (vb x_112) (by kernel_rfl) (.inl rfl)) (by kernel_rfl) rfl (by kernel_rfl) ?_
                 refine SD.takes tk D_110 [(143, true)] (knS rfl hg_111 kn0) [13, 14] [] [] [I, I, I, I, I, I, I, I, I, I, I, I, I, I, I] [(2, vb x_112)] rfl (by kernel_rfl) (by kernel_rfl) (by kernel_rfl) ?_
                 refine SD.done (by kernel_rfl) fun a w h => ?_
                 exact ⟨x_112, hp, h.at (js := [.g 0]) (by kernel_rfl)⟩
               · replace hp := if_f hp hg_111
                 refine SD.takes tk D_110 [(143, false)] (knS rfl hg_111 kn0) [12, 13, 14] [] [] [I, I, I, I, I, I, I, I, I, I, I, I, I, I, I] [(2, vb false)] rfl (by kernel_rfl) (by kernel_rfl) (by kernel_rfl) ?_
                 refine SD.done (by kernel_rfl) fun a w h => ?_
                 exact ⟨false, hp, h.at (js := [.g 0]) (by kernel_rfl)⟩
             · rintro a w ⟨z_108, hp, h⟩
               refine h.go ?_
               obtain rfl := some_inv' hp
               exact SC.re (js := [.g 0]) tk (by kernel_rfl)
end V
end Go.Proofs.Ytfdiabglpgkbeaa
