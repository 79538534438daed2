/-
  Walks, written by program: each Go function returns what its pure twin says.
-/
import Derived.Test.YtphigebccfoppaaRep
namespace Go.Proofs.Ytphigebccfoppaa
namespace V
theorem ok_slices_Clone_uint16_uint16 (F : Nat) (s_1 : (List Int)) (r : (List Int)) (hp : slices_Clone_uint16_uint16 F s_1 = some r) : Spec Try.prog 33 [vs 0] [.rd 1 (RInt .u16) s_1] (vs 1) [.gone, .own 1 24 (RInt .u16) r] := by
 refine Spec.enter Try.func33 rfl Try.ntmps33 rfl rfl fun fx => ?_
 refine SC.r tk [(0, vs 0)] [] [] [] (by kernel_rfl) ?_
 refine SC.seq ?_
 refine SC.seq ?_
 refine SC.reg ?_
 refine SL.sim tk 1 [(0, vs 0), (3, vs 0)] [] [] [] (by kernel_rfl) ?_
 refine SL.eff (e_isnil tk rfl rfl rfl rfl (by kernel_rfl)) rfl (by kernel_rfl) ?_
 refine SL.nilThen ?_
 refine SC.nilFact 0 rfl rfl (by decide) (fun hnil => ?_)
 cases hq : nilAt fx 0
 · refine SC.iff rfl ?_
   refine SC.skipThen ?_
   refine SC.seq ?_
   refine SC.reg ?_
   refine SL.eff (e_lit (sz := 1) (E := 24) (R := (RInt .u16)) (by_ := 2) tk [] ([] : (List Int)) (by kernel_rfl) trivial rfl (by kernel_rfl) (by kernel_rfl)) rfl (by kernel_rfl) ?_
   refine SL.sim tk 1 [(5, vs 1), (6, vs 0)] [] [] [] (by kernel_rfl) ?_
   obtain ⟨l_2, e_l_2, hp⟩ := bind_inv hp
   refine SL.eff (e_app (i := 1) (l := ([] : (List Int))) (sz := 1) (E := 24) (R := (RInt .u16)) (by_ := 2) (m := s_1) tk rfl (by kernel_rfl) rfl (.r (by kernel_rfl)) e_l_2 (by kernel_rfl)) rfl (by kernel_rfl) ?_
   refine SL.sim tk 1 [(2, vs 2)] [] [] [] (by kernel_rfl) ?_
   refine SL.nilThen ?_
   obtain rfl := some_inv' hp
   exact SC.re (js := [.g 0, .g 2]) tk (by kernel_rfl)
 · obtain rfl := hnil hq
   have hp : (some [] : Option ((List Int))) = some r := by rw [← hp]; first | rfl | simp [app]
   refine SC.ift rfl ?_
   refine SC.r tk [(2, vn)] [] [] [] (by kernel_rfl) ?_
   obtain rfl := some_inv' hp
   exact SC.re (js := [.g 0, .n]) tk (by kernel_rfl)

theorem ok_slices_Clone_api_Queued_api_Queued (F : Nat) (s_1 : (List T_api_Queued)) (r : (List T_api_Queued)) (hp : slices_Clone_api_Queued_api_Queued F s_1 = some r) : Spec Try.prog 55 [vs 0] [.rd 18 R_T_api_Queued s_1] (vs 1) [.gone, .own 18 38 R_T_api_Queued r] := by
 refine Spec.enter Try.func55 rfl Try.ntmps55 rfl rfl fun fx => ?_
 refine SC.r tk [(0, vs 0)] [] [] [] (by kernel_rfl) ?_
 refine SC.seq ?_
 refine SC.seq ?_
 refine SC.reg ?_
 refine SL.sim tk 1 [(0, vs 0), (3, vs 0)] [] [] [] (by kernel_rfl) ?_
 refine SL.eff (e_isnil tk rfl rfl rfl rfl (by kernel_rfl)) rfl (by kernel_rfl) ?_
 refine SL.nilThen ?_
 refine SC.nilFact 0 rfl rfl (by decide) (fun hnil => ?_)
 cases hq : nilAt fx 0
 · refine SC.iff rfl ?_
   refine SC.skipThen ?_
   refine SC.seq ?_
   refine SC.reg ?_
   refine SL.eff (e_lit (sz := 18) (E := 38) (R := R_T_api_Queued) (by_ := 136) tk [] ([] : (List T_api_Queued)) (by kernel_rfl) trivial rfl (by kernel_rfl) (by kernel_rfl)) rfl (by kernel_rfl) ?_
   refine SL.sim tk 1 [(5, vs 1), (6, vs 0)] [] [] [] (by kernel_rfl) ?_
   obtain ⟨l_2, e_l_2, hp⟩ := bind_inv hp
   refine SL.eff (e_app (i := 1) (l := ([] : (List T_api_Queued))) (sz := 18) (E := 38) (R := R_T_api_Queued) (by_ := 136) (m := s_1) tk rfl (by kernel_rfl) rfl (.r (by kernel_rfl)) e_l_2 (by kernel_rfl)) rfl (by kernel_rfl) ?_
   refine SL.sim tk 1 [(2, vs 2)] [] [] [] (by kernel_rfl) ?_
   refine SL.nilThen ?_
   obtain rfl := some_inv' hp
   exact SC.re (js := [.g 0, .g 2]) tk (by kernel_rfl)
 · obtain rfl := hnil hq
   have hp : (some [] : Option ((List T_api_Queued))) = some r := by rw [← hp]; first | rfl | simp [app]
   refine SC.ift rfl ?_
   refine SC.r tk [(2, vn)] [] [] [] (by kernel_rfl) ?_
   obtain rfl := some_inv' hp
   exact SC.re (js := [.g 0, .n]) tk (by kernel_rfl)

theorem ok_slices_Clone_byte_byte (F : Nat) (s_1 : (List Int)) (r : (List Int)) (hp : slices_Clone_byte_byte F s_1 = some r) : Spec Try.prog 57 [vs 0] [.rd 1 R8 s_1] (vs 1) [.gone, .rd 1 R8 r] := by
 refine Spec.enter Try.func57 rfl Try.ntmps57 rfl rfl fun fx => ?_
 refine SC.r tk [(0, vs 0)] [] [] [] (by kernel_rfl) ?_
 refine SC.seq ?_
 refine SC.seq ?_
 refine SC.reg ?_
 refine SL.sim tk 1 [(0, vs 0), (3, vs 0)] [] [] [] (by kernel_rfl) ?_
 refine SL.eff (e_isnil tk rfl rfl rfl rfl (by kernel_rfl)) rfl (by kernel_rfl) ?_
 refine SL.nilThen ?_
 refine SC.nilFact 0 rfl rfl (by decide) (fun hnil => ?_)
 cases hq : nilAt fx 0
 · refine SC.iff rfl ?_
   refine SC.skipThen ?_
   refine SC.seq ?_
   refine SC.reg ?_
   refine SL.eff (e_lit (sz := 1) (E := 5) (R := R8) (by_ := 1) tk [] ([] : (List Int)) (by kernel_rfl) trivial rfl (by kernel_rfl) (by kernel_rfl)) rfl (by kernel_rfl) ?_
   refine SL.sim tk 1 [(5, vs 1), (6, vs 0)] [] [] [] (by kernel_rfl) ?_
   obtain ⟨l_2, e_l_2, hp⟩ := bind_inv hp
   refine SL.eff (e_app (i := 1) (l := ([] : (List Int))) (sz := 1) (E := 5) (R := R8) (by_ := 1) (m := s_1) tk rfl (by kernel_rfl) rfl (.r (by kernel_rfl)) e_l_2 (by kernel_rfl)) rfl (by kernel_rfl) ?_
   refine SL.sim tk 1 [(2, vs 2)] [] [] [] (by kernel_rfl) ?_
   refine SL.nilThen ?_
   obtain rfl := some_inv' hp
   exact SC.re (js := [.g 0, .z 2]) tk (by kernel_rfl)
 · obtain rfl := hnil hq
   have hp : (some [] : Option ((List Int))) = some r := by rw [← hp]; first | rfl | simp [app]
   refine SC.ift rfl ?_
   refine SC.r tk [(2, vn)] [] [] [] (by kernel_rfl) ?_
   obtain rfl := some_inv' hp
   exact SC.re (js := [.g 0, .n]) tk (by kernel_rfl)

theorem ok_friend_own (F : Nat) (q_1 : T_api_Queued) (r : T_api_Queued) (hp : friend_own F q_1 = some r) : Spec Try.prog 29 [.g (C_api_Queued q_1 (.s 0) (.s 1))] [.rd 1 R8 q_1.PDU.Payload, .rd 1 R8 q_1.Lower.Bytes] (.g (C_api_Queued (T_api_Queued.mk (T_api_NetPDU.mk r.PDU.IV r.PDU.NID r.PDU.Control r.PDU.TTL r.PDU.Seq r.PDU.Src r.PDU.Dst r.PDU.Payload) (T_api_Lower.mk r.Lower.Control r.Lower.Segmented r.Lower.App r.Lower.Zero r.Lower.Index r.Lower.Last r.Lower.Opcode r.Lower.Block r.Lower.Friend r.Lower.Bytes)) (.s 2) (.s 3))) [.gone, .gone, .rd 1 R8 r.PDU.Payload, .rd 1 R8 r.Lower.Bytes] := by
 refine Spec.enter Try.func29 rfl Try.ntmps29 rfl rfl fun fx => ?_
 refine SC.seq ?_
 refine SC.reg ?_
 refine SL.eff (e_box (E := 38) (C_api_Queued q_1 (.s 0) (.s 1)) (by kernel_rfl)) rfl (by kernel_rfl) ?_
 refine SL.eff (e_alloc (E := 38) tk (C_api_Queued (T_api_Queued.mk (T_api_NetPDU.mk 0 0 false 0 0 0 0 []) (T_api_Lower.mk false false false 0 0 0 0 0 false [])) nl nl) (by kernel_rfl)) rfl (by kernel_rfl) ?_
 refine SL.nilThen ?_
 refine SC.seq ?_
 refine SC.reg ?_
 refine SL.sim tk 3 [(1, vp 2 0), (2, vp 3 0), (5, vs 0)] [] [] [] (by kernel_rfl) ?_
 obtain ⟨x_2, e_x_2, hp⟩ := bind_inv hp
 refine SL.eff (e_c Try.call57 (ok_slices_Clone_byte_byte F q_1.PDU.Payload _ e_x_2) [.g 0] [vs 0] (vs 4) (by kernel_rfl) (.inl rfl)) rfl (by kernel_rfl) ?_
 refine SL.norm (itsN := [.rd 1 R8 q_1.PDU.Payload, .rd 1 R8 q_1.Lower.Bytes, .blk 38 (C_api_Queued q_1 (.s 0) (.s 1)), .blk 38 (C_api_Queued (T_api_Queued.mk (T_api_NetPDU.mk 0 0 false 0 0 0 0 []) (T_api_Lower.mk false false false 0 0 0 0 0 false [])) nl nl), .rd 1 R8 x_2]) (by kernel_rfl) ?_
 refine SL.sim tk 3 [(1, vp 2 0), (2, vp 3 0)] [(2, 38, (C_api_Queued ({ q_1 with PDU := { q_1.PDU with Payload := x_2 } }) (.s 4) (.s 1)))] [] [] (by kernel_rfl) ?_
 refine SL.nilThen ?_
 refine SC.seq ?_
 refine SC.reg ?_
 refine SL.sim tk 3 [(1, vp 2 0), (2, vp 3 0), (11, vs 1)] [] [] [] (by kernel_rfl) ?_
 obtain ⟨x_3, e_x_3, hp⟩ := bind_inv hp
 refine SL.eff (e_c Try.call57 (ok_slices_Clone_byte_byte F q_1.Lower.Bytes _ e_x_3) [.g 1] [vs 1] (vs 5) (by kernel_rfl) (.inl rfl)) rfl (by kernel_rfl) ?_
 refine SL.sim tk 3 [(1, vp 2 0), (2, vp 3 0)] [(2, 38, (C_api_Queued (T_api_Queued.mk ({ q_1.PDU with Payload := x_2 }) ({ q_1.Lower with Bytes := x_3 })) (.s 4) (.s 5)))] [] [] (by kernel_rfl) ?_
 refine SL.nilThen ?_
 refine SC.r tk [(2, vp 3 0)] [(3, 38, (C_api_Queued (T_api_Queued.mk ({ q_1.PDU with Payload := x_2 }) ({ q_1.Lower with Bytes := x_3 })) (.s 4) (.s 5)))] [] [] (by kernel_rfl) ?_
 obtain rfl := some_inv' hp
 exact SC.re (js := [.g 0, .g 1, .g 4, .g 5]) tk (by kernel_rfl)

theorem ok_friend_apart (F : Nat) (f_1 : T_api_Friend) (r : T_api_Friend) (hp : friend_apart F f_1 = some r) : Spec Try.prog 25 [.g (C_api_Friend f_1 (.s 0) (.s 1))] [.rd 18 R_T_api_Queued f_1.Queue, .rd 1 (RInt .u16) f_1.Subs] (.g [ci .u16 r.Low, .s 2, .s 3, ci .i64 r.Bit, cb r.Sent, ci .i64 r.Polled, ci .i64 r.Counter, ci .i64 r.Dropped]) [.gone, .gone, .rd 18 R_T_api_Queued r.Queue, .rd 1 (RInt .u16) r.Subs] := by
 refine Spec.enter Try.func25 rfl Try.ntmps25 rfl rfl fun fx => ?_
 refine SC.seq ?_
 refine SC.reg ?_
 refine SL.eff (e_box (E := 28) (C_api_Friend f_1 (.s 0) (.s 1)) (by kernel_rfl)) rfl (by kernel_rfl) ?_
 refine SL.eff (e_alloc (E := 28) tk (C_api_Friend (T_api_Friend.mk 0 [] [] 0 false 0 0 0) nl nl) (by kernel_rfl)) rfl (by kernel_rfl) ?_
 refine SL.nilThen ?_
 refine SC.seq ?_
 refine SC.reg ?_
 refine SL.sim tk 2 [(1, vp 2 0), (2, vp 3 0), (5, vs 1)] [] [] [] (by kernel_rfl) ?_
 obtain ⟨x_2, e_x_2, hp⟩ := bind_inv hp
 refine SL.eff (e_c Try.call33 (ok_slices_Clone_uint16_uint16 F f_1.Subs _ e_x_2) [.g 1] [vs 1] (vs 4) (by kernel_rfl) (.inl rfl)) rfl (by kernel_rfl) ?_
 refine SL.norm (itsN := [.rd 18 R_T_api_Queued f_1.Queue, .rd 1 (RInt .u16) f_1.Subs, .blk 28 (C_api_Friend f_1 (.s 0) (.s 1)), .blk 28 (C_api_Friend (T_api_Friend.mk 0 [] [] 0 false 0 0 0) nl nl), .own 1 24 (RInt .u16) x_2]) (by kernel_rfl) ?_
 refine SL.sim tk 2 [(1, vp 2 0), (2, vp 3 0)] [(2, 28, (C_api_Friend ({ f_1 with Subs := x_2 }) (.s 0) (.s 4)))] [] [] (by kernel_rfl) ?_
 refine SL.nilThen ?_
 refine SC.seq ?_
 refine SC.reg ?_
 refine SL.sim tk 2 [(1, vp 2 0), (2, vp 3 0), (9, vs 0)] [] [] [] (by kernel_rfl) ?_
 obtain ⟨x_3, e_x_3, hp⟩ := bind_inv hp
 refine SL.eff (e_c Try.call55 (ok_slices_Clone_api_Queued_api_Queued F f_1.Queue _ e_x_3) [.g 0] [vs 0] (vs 5) (by kernel_rfl) (.inl rfl)) rfl (by kernel_rfl) ?_
 refine SL.sim tk 2 [(1, vp 2 0), (2, vp 3 0)] [(2, 28, (C_api_Friend ({ f_1 with Queue := x_3, Subs := x_2 }) (.s 5) (.s 4)))] [] [] (by kernel_rfl) ?_
 refine SL.nilThen ?_
 refine SC.cut (fun a w => ∃ (l_4 : (List T_api_Queued)), friend_apart_j1 F f_1 x_2 l_4 = some r ∧ A 30 2 fx [(1, vp 2 0), (2, vp 5 0)] [.gone, .gone, .blk 28 (C_api_Friend ({ f_1 with Queue := l_4, Subs := x_2 }) (.s 3) (.s 4)), .own 18 38 R_T_api_Queued l_4, .own 1 24 (RInt .u16) x_2, .blk 28 (C_api_Friend (T_api_Friend.mk 0 [] [] 0 false 0 0 0) nl nl)] a w) ?_ ?_
 · refine SC.r tk [(1, vp 2 0), (2, vp 3 0), (14, vi .i64 (len x_3)), (15, vi .i64 0)] [] [] [] (by kernel_rfl) ?_
   refine SC.block ?_
   obtain ⟨o1, hi1, ho1⟩ := bind_inv hp
   clear hp
   refine SC.loop (fun n a w => ∃ (l_5 : (List T_api_Queued)) (x_6 : Int), iter (fun s => friend_apart_l1 F x_3 s.1 s.2) n (l_5, x_6) = some o1 ∧ A 30 2 fx [(1, vp 2 0), (2, vp 5 0), (14, vi .i64 (len x_3)), (15, vi .i64 x_6)] [.gone, .gone, .blk 28 (C_api_Friend ({ f_1 with Queue := l_5, Subs := x_2 }) (.s 3) (.s 4)), .own 18 38 R_T_api_Queued l_5, .own 1 24 (RInt .u16) x_2, .blk 28 (C_api_Friend (T_api_Friend.mk 0 [] [] 0 false 0 0 0) nl nl)] a w) F (fun a w h => ⟨x_3, 0, hi1, h.at (js := [.g 0, .g 1, .g 2, .g 5, .g 4, .g 3]) (by kernel_rfl)⟩) ?_
   rintro n1 a w ⟨l_5, x_6, hi1, h⟩
   obtain ⟨n1, q1, rfl, hp, hs1⟩ := iter_inv hi1
   replace hp : friend_apart_l1 F x_3 l_5 x_6 = some q1 := hp
   clear hi1
   refine h.go ?_
   refine SC.r tk [(1, vp 2 0), (2, vp 5 0), (14, vi .i64 (len x_3)), (15, vi .i64 x_6), (16, vb (decide (x_6 < (len x_3))))] [] [] [] (by kernel_rfl) ?_
   refine SC.seq ?_
   refine SC.if' rfl hp (fun hp => ?_) (fun hp => ?_)
   · refine SC.skipThen ?_
     refine SC.seq ?_
     refine SC.block ?_
     refine SC.r tk [(1, vp 2 0), (2, vp 5 0), (3, vi .i64 x_6), (14, vi .i64 (len x_3)), (15, vi .i64 x_6)] [] [] [] (by kernel_rfl) ?_
     refine SC.draw MO [O, O, O, O, I, I] (by kernel_rfl) fun kap_7 D_8 => ?_
     refine SD.takes tk D_8 [] kn0 [2, 5] [] [] [O, O, I, O, O, I, O, O, O, O, O] [(1, vp 2 0), (2, vp 5 0), (14, vi .i64 (len x_3)), (15, vi .i64 x_6), (20, vi .i64 x_6), (23, vi .i64 x_6)] rfl (by kernel_rfl) (by kernel_rfl) (by kernel_rfl) ?_
     obtain ⟨x_489, e_x_489, hp⟩ := bind_inv hp
     obtain ⟨x_569, e_x_569, hp⟩ := bind_inv hp
     obtain ⟨x_649, e_x_649, hp⟩ := bind_inv hp
     obtain ⟨x_729, e_x_729, hp⟩ := bind_inv hp
     obtain ⟨l_809, e_l_809, hp⟩ := bind_inv hp
     refine SD.lay 0 [I, I, I, I, I, I, I, I, I, I, I] [(1, vp 2 0), (2, vp 5 0), (14, vi .i64 (len x_3)), (15, vi .i64 x_6)] [.gone, .gone, .blk 28 (C_api_Friend ({ f_1 with Queue := l_809, Subs := x_2 }) (.s 3) (.s 4)), .own 18 38 R_T_api_Queued l_809, .own 1 24 (RInt .u16) x_2, .blk 28 (C_api_Friend (T_api_Friend.mk 0 [] [] 0 false 0 0 0) nl nl)] ?_ (fun c_8_0 => ?_)
     · refine SD.doneThen (by kernel_rfl) ?_
       refine SC.reg ?_
       refine SL.sim tk 2 [(1, vp 2 0), (2, vp 5 0), (14, vi .i64 (len x_3)), (15, vi .i64 (w64 (x_6 + 1)))] [] [] [] (by kernel_rfl) ?_
       refine SL.nilJ fun a w h => ?_
       exact ⟨n1, Nat.lt_succ_self _, l_809, w64 (x_6 + 1), next_inv hp hs1, h.at (js := [.g 0, .g 1, .g 2, .g 3, .g 4, .g 5]) (by kernel_rfl)⟩
     · refine SD.lay 1 [I, I, I, I, I, I, I, I, I, I, O] [(1, vp 2 0), (2, vp 5 0), (14, vi .i64 (len x_3)), (15, vi .i64 x_6), (26, .g (C_api_Queued x_649 (.s 9) (.s 10))), (27, vp 3 (x_6.toNat * 18))] [.gone, .gone, .blk 28 (C_api_Friend ({ f_1 with Queue := l_5, Subs := x_2 }) (.s 3) (.s 4)), .own 18 38 R_T_api_Queued l_5, .own 1 24 (RInt .u16) x_2, .blk 28 (C_api_Friend (T_api_Friend.mk 0 [] [] 0 false 0 0 0) nl nl), .gone, .gone, .gone, .rd 1 R8 x_649.PDU.Payload, .rd 1 R8 x_649.Lower.Bytes] ?_ (fun c_8_1 => ?_)
       · refine SD.all1 (i := 10) (by kernel_rfl) ?_
         refine SW.effS D_8 (i := 10) (bs' := [I, I, I, I, I, I, I, I, I, I, I]) rfl (e_stp (sz := 18) (E := 38) (R := R_T_api_Queued) (i := 3) (iv := x_6) (l := l_5) (e := x_649) tk rfl rfl rfl rfl (clo_T_api_Queued (x := x_649) (Clo.sl (by kernel_rfl)) (Clo.sl (by kernel_rfl))) (by kernel_rfl) (by kernel_rfl) e_l_809) rfl (by kernel_rfl) ?_
         exact SD.vie D_8 [.g 0, .g 1, .g 2, .g 3, .g 4, .g 5] c_8_0 (by kernel_rfl)
       · refine SD.lay 2 [I, I, I, I, I, I, I, I, I, O, O] [(1, vp 2 0), (2, vp 5 0), (14, vi .i64 (len x_3)), (15, vi .i64 x_6), (19, vs 3), (20, vi .i64 x_6), (26, .g (C_api_Queued x_649 (.s 9) (.s 10)))] [.gone, .gone, .blk 28 (C_api_Friend ({ f_1 with Queue := l_5, Subs := x_2 }) (.s 3) (.s 4)), .own 18 38 R_T_api_Queued l_5, .own 1 24 (RInt .u16) x_2, .blk 28 (C_api_Friend (T_api_Friend.mk 0 [] [] 0 false 0 0 0) nl nl), .gone, .gone, .gone, .rd 1 R8 x_649.PDU.Payload, .rd 1 R8 x_649.Lower.Bytes] ?_ (fun c_8_2 => ?_)
         · refine SD.all1 (i := 9) (by kernel_rfl) ?_
           refine SW.eff D_8 (i := 9) (bs' := [I, I, I, I, I, I, I, I, I, I, O]) rfl (.inl rfl) rfl (e_ixp (sz := 18) (E := 38) (R := R_T_api_Queued) (by_ := 136) (l := l_5) tk rfl rfl rfl e_x_729 (by kernel_rfl)) (by kernel_rfl) rfl (by kernel_rfl) ?_
           exact SD.vie D_8 [.g 0, .g 1, .g 2, .g 3, .g 4, .g 5, .n, .n, .n, .g 9, .g 10] c_8_1 (by kernel_rfl)
         · refine SD.lay 3 [I, I, I, I, I, I, I, I, O, O, O] [(1, vp 2 0), (2, vp 5 0), (14, vi .i64 (len x_3)), (15, vi .i64 x_6), (19, vs 3), (20, vi .i64 x_6), (25, .g (C_api_Queued x_569 (.s 7) (.s 8)))] [.gone, .gone, .blk 28 (C_api_Friend ({ f_1 with Queue := l_5, Subs := x_2 }) (.s 3) (.s 4)), .own 18 38 R_T_api_Queued l_5, .own 1 24 (RInt .u16) x_2, .blk 28 (C_api_Friend (T_api_Friend.mk 0 [] [] 0 false 0 0 0) nl nl), .gone, .rd 1 R8 x_569.PDU.Payload, .rd 1 R8 x_569.Lower.Bytes] ?_ (fun c_8_3 => ?_)
           · refine SD.all1 (i := 8) (by kernel_rfl) ?_
             refine SW.eff D_8 (i := 8) (bs' := [I, I, I, I, I, I, I, I, I, O, O]) rfl (.inl rfl) rfl (e_c Try.call29 (ok_friend_own F x_569 _ e_x_649) [.g 7, .g 8] [.g (C_api_Queued x_569 (.s 7) (.s 8))] (.g (C_api_Queued x_649 (.s 9) (.s 10))) (by kernel_rfl) (.inl rfl)) (by kernel_rfl) rfl (by kernel_rfl) ?_
             exact SD.vie D_8 [.g 0, .g 1, .g 2, .g 3, .g 4, .g 5, .n, .n, .n, .g 9, .g 10] c_8_2 (by kernel_rfl)
           · refine SD.lay 4 [I, I, I, I, I, I, I, O, O, O, O] [(1, vp 2 0), (2, vp 5 0), (14, vi .i64 (len x_3)), (15, vi .i64 x_6), (19, vs 3), (20, vi .i64 x_6), (24, vp 3 (x_6.toNat * 18))] [.gone, .gone, .blk 28 (C_api_Friend ({ f_1 with Queue := l_5, Subs := x_2 }) (.s 3) (.s 4)), .own 18 38 R_T_api_Queued l_5, .own 1 24 (RInt .u16) x_2, .blk 28 (C_api_Friend (T_api_Friend.mk 0 [] [] 0 false 0 0 0) nl nl)] ?_ (fun c_8_4 => ?_)
             · refine SD.all1 (i := 7) (by kernel_rfl) ?_
               refine SW.eff D_8 (i := 7) (bs' := [I, I, I, I, I, I, I, I, O, O, O]) rfl (.inl rfl) rfl (e_ldp (sz := 18) (E := 38) (R := R_T_api_Queued) (i := 3) (iv := x_6) (l := l_5) tk rfl rfl e_x_569 (by kernel_rfl) (by kernel_rfl) rfl) (by kernel_rfl) rfl (by kernel_rfl) ?_
               exact SD.vie D_8 [.g 0, .g 1, .g 2, .g 3, .g 4, .g 5, .n, .g 7, .g 8] c_8_3 (by kernel_rfl)
             · refine SD.lay 5 [I, I, I, I, I, I, O, O, O, O, O] [(1, vp 2 0), (2, vp 5 0), (14, vi .i64 (len x_3)), (15, vi .i64 x_6), (19, vs 3), (20, vi .i64 x_6), (22, vs 3), (23, vi .i64 x_6)] [.gone, .gone, .blk 28 (C_api_Friend ({ f_1 with Queue := l_5, Subs := x_2 }) (.s 3) (.s 4)), .own 18 38 R_T_api_Queued l_5, .own 1 24 (RInt .u16) x_2, .blk 28 (C_api_Friend (T_api_Friend.mk 0 [] [] 0 false 0 0 0) nl nl)] ?_ (fun c_8_5 => ?_)
               · refine SD.all1 (i := 6) (by kernel_rfl) ?_
                 refine SW.eff D_8 (i := 6) (bs' := [I, I, I, I, I, I, I, O, O, O, O]) rfl (.inl rfl) rfl (e_ixp (sz := 18) (E := 38) (R := R_T_api_Queued) (by_ := 136) (l := l_5) tk rfl rfl rfl e_x_489 (by kernel_rfl)) (by kernel_rfl) rfl (by kernel_rfl) ?_
                 exact SD.vie D_8 [.g 0, .g 1, .g 2, .g 3, .g 4, .g 5] c_8_4 (by kernel_rfl)
               · refine SD.lay 6 [I, I, I, I, O, I, O, O, O, O, O] [(1, vp 2 0), (2, vp 5 0), (14, vi .i64 (len x_3)), (15, vi .i64 x_6), (19, vs 3), (20, vi .i64 x_6), (21, vp 2 1), (23, vi .i64 x_6)] [.gone, .gone, .blk 28 (C_api_Friend ({ f_1 with Queue := l_5, Subs := x_2 }) (.s 3) (.s 4)), .own 18 38 R_T_api_Queued l_5, .own 1 24 (RInt .u16) x_2, .blk 28 (C_api_Friend (T_api_Friend.mk 0 [] [] 0 false 0 0 0) nl nl)] ?_ (fun c_8_6 => ?_)
                 · refine SD.all1 (i := 4) (by kernel_rfl) ?_
                   refine SW.eff D_8 (i := 4) (v := vs 3) (bs' := [I, I, I, I, I, I, O, O, O, O, O]) rfl (.inl rfl) rfl (e_val tk (by kernel_rfl)) (by kernel_rfl) rfl (by kernel_rfl) ?_
                   exact SD.vie D_8 [.g 0, .g 1, .g 2, .g 3, .g 4, .g 5] c_8_5 (by kernel_rfl)
                 · refine SD.lay 7 [I, I, I, O, O, I, O, O, O, O, O] [(1, vp 2 0), (2, vp 5 0), (14, vi .i64 (len x_3)), (15, vi .i64 x_6), (19, vs 3), (20, vi .i64 x_6), (23, vi .i64 x_6)] [.gone, .gone, .blk 28 (C_api_Friend ({ f_1 with Queue := l_5, Subs := x_2 }) (.s 3) (.s 4)), .own 18 38 R_T_api_Queued l_5, .own 1 24 (RInt .u16) x_2, .blk 28 (C_api_Friend (T_api_Friend.mk 0 [] [] 0 false 0 0 0) nl nl)] ?_ (fun c_8_7 => ?_)
                   · refine SD.all1 (i := 3) (by kernel_rfl) ?_
                     refine SW.eff D_8 (i := 3) (v := vp 2 1) (bs' := [I, I, I, I, O, I, O, O, O, O, O]) rfl (.inl rfl) rfl (e_val tk (by kernel_rfl)) (by kernel_rfl) rfl (by kernel_rfl) ?_
                     exact SD.vie D_8 [.g 0, .g 1, .g 2, .g 3, .g 4, .g 5] c_8_6 (by kernel_rfl)
                   · refine SD.lay 3 [I, O, I, I, I, I, I, I, I, O, O] [(1, vp 2 0), (2, vp 5 0), (14, vi .i64 (len x_3)), (15, vi .i64 x_6), (18, vp 2 1), (20, vi .i64 x_6), (26, .g (C_api_Queued x_649 (.s 9) (.s 10)))] [.gone, .gone, .blk 28 (C_api_Friend ({ f_1 with Queue := l_5, Subs := x_2 }) (.s 3) (.s 4)), .own 18 38 R_T_api_Queued l_5, .own 1 24 (RInt .u16) x_2, .blk 28 (C_api_Friend (T_api_Friend.mk 0 [] [] 0 false 0 0 0) nl nl), .gone, .gone, .gone, .rd 1 R8 x_649.PDU.Payload, .rd 1 R8 x_649.Lower.Bytes] ?_ (fun c_8_8 => ?_)
                     · refine SD.all1 (i := 1) (by kernel_rfl) ?_
                       refine SW.eff D_8 (i := 1) (v := vs 3) (bs' := [I, I, I, I, I, I, I, I, I, O, O]) rfl (.inl rfl) rfl (e_val tk (by kernel_rfl)) (by kernel_rfl) rfl (by kernel_rfl) ?_
                       exact SD.vie D_8 [.g 0, .g 1, .g 2, .g 3, .g 4, .g 5, .n, .n, .n, .g 9, .g 10] c_8_2 (by kernel_rfl)
                     · refine SD.lay 4 [I, O, I, I, I, I, I, I, O, O, O] [(1, vp 2 0), (2, vp 5 0), (14, vi .i64 (len x_3)), (15, vi .i64 x_6), (18, vp 2 1), (20, vi .i64 x_6), (25, .g (C_api_Queued x_569 (.s 7) (.s 8)))] [.gone, .gone, .blk 28 (C_api_Friend ({ f_1 with Queue := l_5, Subs := x_2 }) (.s 3) (.s 4)), .own 18 38 R_T_api_Queued l_5, .own 1 24 (RInt .u16) x_2, .blk 28 (C_api_Friend (T_api_Friend.mk 0 [] [] 0 false 0 0 0) nl nl), .gone, .rd 1 R8 x_569.PDU.Payload, .rd 1 R8 x_569.Lower.Bytes] ?_ (fun c_8_9 => ?_)
                       · refine SD.all2 (i := 1) (j := 8) (by kernel_rfl) ?_ ?_
                         · refine SW.eff D_8 (i := 1) (v := vs 3) (bs' := [I, I, I, I, I, I, I, I, O, O, O]) rfl (.inl rfl) rfl (e_val tk (by kernel_rfl)) (by kernel_rfl) rfl (by kernel_rfl) ?_
                           exact SD.vie D_8 [.g 0, .g 1, .g 2, .g 3, .g 4, .g 5, .n, .g 7, .g 8] c_8_3 (by kernel_rfl)
                         · refine SW.eff D_8 (i := 8) (bs' := [I, O, I, I, I, I, I, I, I, O, O]) rfl (.inl rfl) rfl (e_c Try.call29 (ok_friend_own F x_569 _ e_x_649) [.g 7, .g 8] [.g (C_api_Queued x_569 (.s 7) (.s 8))] (.g (C_api_Queued x_649 (.s 9) (.s 10))) (by kernel_rfl) (.inl rfl)) (by kernel_rfl) rfl (by kernel_rfl) ?_
                           exact SD.vie D_8 [.g 0, .g 1, .g 2, .g 3, .g 4, .g 5, .n, .n, .n, .g 9, .g 10] c_8_8 (by kernel_rfl)
                       · refine SD.lay 5 [I, O, I, I, I, I, I, O, O, O, O] [(1, vp 2 0), (2, vp 5 0), (14, vi .i64 (len x_3)), (15, vi .i64 x_6), (18, vp 2 1), (20, vi .i64 x_6), (24, vp 3 (x_6.toNat * 18))] [.gone, .gone, .blk 28 (C_api_Friend ({ f_1 with Queue := l_5, Subs := x_2 }) (.s 3) (.s 4)), .own 18 38 R_T_api_Queued l_5, .own 1 24 (RInt .u16) x_2, .blk 28 (C_api_Friend (T_api_Friend.mk 0 [] [] 0 false 0 0 0) nl nl)] ?_ (fun c_8_10 => ?_)
                         · refine SD.all2 (i := 1) (j := 7) (by kernel_rfl) ?_ ?_
                           · refine SW.eff D_8 (i := 1) (v := vs 3) (bs' := [I, I, I, I, I, I, I, O, O, O, O]) rfl (.inl rfl) rfl (e_val tk (by kernel_rfl)) (by kernel_rfl) rfl (by kernel_rfl) ?_
                             exact SD.vie D_8 [.g 0, .g 1, .g 2, .g 3, .g 4, .g 5] c_8_4 (by kernel_rfl)
                           · refine SW.eff D_8 (i := 7) (bs' := [I, O, I, I, I, I, I, I, O, O, O]) rfl (.inl rfl) rfl (e_ldp (sz := 18) (E := 38) (R := R_T_api_Queued) (i := 3) (iv := x_6) (l := l_5) tk rfl rfl e_x_569 (by kernel_rfl) (by kernel_rfl) rfl) (by kernel_rfl) rfl (by kernel_rfl) ?_
                             exact SD.vie D_8 [.g 0, .g 1, .g 2, .g 3, .g 4, .g 5, .n, .g 7, .g 8] c_8_9 (by kernel_rfl)
                         · refine SD.lay 6 [I, O, I, I, I, I, O, O, O, O, O] [(1, vp 2 0), (2, vp 5 0), (14, vi .i64 (len x_3)), (15, vi .i64 x_6), (18, vp 2 1), (20, vi .i64 x_6), (22, vs 3), (23, vi .i64 x_6)] [.gone, .gone, .blk 28 (C_api_Friend ({ f_1 with Queue := l_5, Subs := x_2 }) (.s 3) (.s 4)), .own 18 38 R_T_api_Queued l_5, .own 1 24 (RInt .u16) x_2, .blk 28 (C_api_Friend (T_api_Friend.mk 0 [] [] 0 false 0 0 0) nl nl)] ?_ (fun c_8_11 => ?_)
                           · refine SD.all2 (i := 1) (j := 6) (by kernel_rfl) ?_ ?_
                             · refine SW.eff D_8 (i := 1) (v := vs 3) (bs' := [I, I, I, I, I, I, O, O, O, O, O]) rfl (.inl rfl) rfl (e_val tk (by kernel_rfl)) (by kernel_rfl) rfl (by kernel_rfl) ?_
                               exact SD.vie D_8 [.g 0, .g 1, .g 2, .g 3, .g 4, .g 5] c_8_5 (by kernel_rfl)
                             · refine SW.eff D_8 (i := 6) (bs' := [I, O, I, I, I, I, I, O, O, O, O]) rfl (.inl rfl) rfl (e_ixp (sz := 18) (E := 38) (R := R_T_api_Queued) (by_ := 136) (l := l_5) tk rfl rfl rfl e_x_489 (by kernel_rfl)) (by kernel_rfl) rfl (by kernel_rfl) ?_
                               exact SD.vie D_8 [.g 0, .g 1, .g 2, .g 3, .g 4, .g 5] c_8_10 (by kernel_rfl)
                           · refine SD.lay 7 [I, O, I, I, O, I, O, O, O, O, O] [(1, vp 2 0), (2, vp 5 0), (14, vi .i64 (len x_3)), (15, vi .i64 x_6), (18, vp 2 1), (20, vi .i64 x_6), (21, vp 2 1), (23, vi .i64 x_6)] [.gone, .gone, .blk 28 (C_api_Friend ({ f_1 with Queue := l_5, Subs := x_2 }) (.s 3) (.s 4)), .own 18 38 R_T_api_Queued l_5, .own 1 24 (RInt .u16) x_2, .blk 28 (C_api_Friend (T_api_Friend.mk 0 [] [] 0 false 0 0 0) nl nl)] ?_ (fun c_8_12 => ?_)
                             · refine SD.all2 (i := 1) (j := 4) (by kernel_rfl) ?_ ?_
                               · refine SW.eff D_8 (i := 1) (v := vs 3) (bs' := [I, I, I, I, O, I, O, O, O, O, O]) rfl (.inl rfl) rfl (e_val tk (by kernel_rfl)) (by kernel_rfl) rfl (by kernel_rfl) ?_
                                 exact SD.vie D_8 [.g 0, .g 1, .g 2, .g 3, .g 4, .g 5] c_8_6 (by kernel_rfl)
                               · refine SW.eff D_8 (i := 4) (v := vs 3) (bs' := [I, O, I, I, I, I, O, O, O, O, O]) rfl (.inl rfl) rfl (e_val tk (by kernel_rfl)) (by kernel_rfl) rfl (by kernel_rfl) ?_
                                 exact SD.vie D_8 [.g 0, .g 1, .g 2, .g 3, .g 4, .g 5] c_8_11 (by kernel_rfl)
                             · refine SD.lay 8 [I, O, I, O, O, I, O, O, O, O, O] [(1, vp 2 0), (2, vp 5 0), (14, vi .i64 (len x_3)), (15, vi .i64 x_6), (18, vp 2 1), (20, vi .i64 x_6), (23, vi .i64 x_6)] [.gone, .gone, .blk 28 (C_api_Friend ({ f_1 with Queue := l_5, Subs := x_2 }) (.s 3) (.s 4)), .own 18 38 R_T_api_Queued l_5, .own 1 24 (RInt .u16) x_2, .blk 28 (C_api_Friend (T_api_Friend.mk 0 [] [] 0 false 0 0 0) nl nl)] ?_ (fun c_8_13 => ?_)
                               · refine SD.all2 (i := 1) (j := 3) (by kernel_rfl) ?_ ?_
                                 · refine SW.eff D_8 (i := 1) (v := vs 3) (bs' := [I, I, I, O, O, I, O, O, O, O, O]) rfl (.inl rfl) rfl (e_val tk (by kernel_rfl)) (by kernel_rfl) rfl (by kernel_rfl) ?_
                                   exact SD.vie D_8 [.g 0, .g 1, .g 2, .g 3, .g 4, .g 5] c_8_7 (by kernel_rfl)
                                 · refine SW.eff D_8 (i := 3) (v := vp 2 1) (bs' := [I, O, I, I, O, I, O, O, O, O, O]) rfl (.inl rfl) rfl (e_val tk (by kernel_rfl)) (by kernel_rfl) rfl (by kernel_rfl) ?_
                                   exact SD.vie D_8 [.g 0, .g 1, .g 2, .g 3, .g 4, .g 5] c_8_12 (by kernel_rfl)
                               · refine SD.lay 4 [O, O, I, I, I, I, I, I, I, O, O] [(1, vp 2 0), (2, vp 5 0), (14, vi .i64 (len x_3)), (15, vi .i64 x_6), (20, vi .i64 x_6), (26, .g (C_api_Queued x_649 (.s 9) (.s 10)))] [.gone, .gone, .blk 28 (C_api_Friend ({ f_1 with Queue := l_5, Subs := x_2 }) (.s 3) (.s 4)), .own 18 38 R_T_api_Queued l_5, .own 1 24 (RInt .u16) x_2, .blk 28 (C_api_Friend (T_api_Friend.mk 0 [] [] 0 false 0 0 0) nl nl), .gone, .gone, .gone, .rd 1 R8 x_649.PDU.Payload, .rd 1 R8 x_649.Lower.Bytes] ?_ (fun c_8_14 => ?_)
                                 · refine SD.all1 (i := 0) (by kernel_rfl) ?_
                                   refine SW.eff D_8 (i := 0) (v := vp 2 1) (bs' := [I, O, I, I, I, I, I, I, I, O, O]) rfl (.inl rfl) rfl (e_val tk (by kernel_rfl)) (by kernel_rfl) rfl (by kernel_rfl) ?_
                                   exact SD.vie D_8 [.g 0, .g 1, .g 2, .g 3, .g 4, .g 5, .n, .n, .n, .g 9, .g 10] c_8_8 (by kernel_rfl)
                                 · refine SD.lay 5 [O, O, I, I, I, I, I, I, O, O, O] [(1, vp 2 0), (2, vp 5 0), (14, vi .i64 (len x_3)), (15, vi .i64 x_6), (20, vi .i64 x_6), (25, .g (C_api_Queued x_569 (.s 7) (.s 8)))] [.gone, .gone, .blk 28 (C_api_Friend ({ f_1 with Queue := l_5, Subs := x_2 }) (.s 3) (.s 4)), .own 18 38 R_T_api_Queued l_5, .own 1 24 (RInt .u16) x_2, .blk 28 (C_api_Friend (T_api_Friend.mk 0 [] [] 0 false 0 0 0) nl nl), .gone, .rd 1 R8 x_569.PDU.Payload, .rd 1 R8 x_569.Lower.Bytes] ?_ (fun c_8_15 => ?_)
                                   · refine SD.all2 (i := 0) (j := 8) (by kernel_rfl) ?_ ?_
                                     · refine SW.eff D_8 (i := 0) (v := vp 2 1) (bs' := [I, O, I, I, I, I, I, I, O, O, O]) rfl (.inl rfl) rfl (e_val tk (by kernel_rfl)) (by kernel_rfl) rfl (by kernel_rfl) ?_
                                       exact SD.vie D_8 [.g 0, .g 1, .g 2, .g 3, .g 4, .g 5, .n, .g 7, .g 8] c_8_9 (by kernel_rfl)
                                     · refine SW.eff D_8 (i := 8) (bs' := [O, O, I, I, I, I, I, I, I, O, O]) rfl (.inl rfl) rfl (e_c Try.call29 (ok_friend_own F x_569 _ e_x_649) [.g 7, .g 8] [.g (C_api_Queued x_569 (.s 7) (.s 8))] (.g (C_api_Queued x_649 (.s 9) (.s 10))) (by kernel_rfl) (.inl rfl)) (by kernel_rfl) rfl (by kernel_rfl) ?_
                                       exact SD.vie D_8 [.g 0, .g 1, .g 2, .g 3, .g 4, .g 5, .n, .n, .n, .g 9, .g 10] c_8_14 (by kernel_rfl)
                                   · refine SD.lay 6 [O, O, I, I, I, I, I, O, O, O, O] [(1, vp 2 0), (2, vp 5 0), (14, vi .i64 (len x_3)), (15, vi .i64 x_6), (20, vi .i64 x_6), (24, vp 3 (x_6.toNat * 18))] [.gone, .gone, .blk 28 (C_api_Friend ({ f_1 with Queue := l_5, Subs := x_2 }) (.s 3) (.s 4)), .own 18 38 R_T_api_Queued l_5, .own 1 24 (RInt .u16) x_2, .blk 28 (C_api_Friend (T_api_Friend.mk 0 [] [] 0 false 0 0 0) nl nl)] ?_ (fun c_8_16 => ?_)
                                     · refine SD.all2 (i := 0) (j := 7) (by kernel_rfl) ?_ ?_
                                       · refine SW.eff D_8 (i := 0) (v := vp 2 1) (bs' := [I, O, I, I, I, I, I, O, O, O, O]) rfl (.inl rfl) rfl (e_val tk (by kernel_rfl)) (by kernel_rfl) rfl (by kernel_rfl) ?_
                                         exact SD.vie D_8 [.g 0, .g 1, .g 2, .g 3, .g 4, .g 5] c_8_10 (by kernel_rfl)
                                       · refine SW.eff D_8 (i := 7) (bs' := [O, O, I, I, I, I, I, I, O, O, O]) rfl (.inl rfl) rfl (e_ldp (sz := 18) (E := 38) (R := R_T_api_Queued) (i := 3) (iv := x_6) (l := l_5) tk rfl rfl e_x_569 (by kernel_rfl) (by kernel_rfl) rfl) (by kernel_rfl) rfl (by kernel_rfl) ?_
                                         exact SD.vie D_8 [.g 0, .g 1, .g 2, .g 3, .g 4, .g 5, .n, .g 7, .g 8] c_8_15 (by kernel_rfl)
                                     · refine SD.lay 7 [O, O, I, I, I, I, O, O, O, O, O] [(1, vp 2 0), (2, vp 5 0), (14, vi .i64 (len x_3)), (15, vi .i64 x_6), (20, vi .i64 x_6), (22, vs 3), (23, vi .i64 x_6)] [.gone, .gone, .blk 28 (C_api_Friend ({ f_1 with Queue := l_5, Subs := x_2 }) (.s 3) (.s 4)), .own 18 38 R_T_api_Queued l_5, .own 1 24 (RInt .u16) x_2, .blk 28 (C_api_Friend (T_api_Friend.mk 0 [] [] 0 false 0 0 0) nl nl)] ?_ (fun c_8_17 => ?_)
                                       · refine SD.all2 (i := 0) (j := 6) (by kernel_rfl) ?_ ?_
                                         · refine SW.eff D_8 (i := 0) (v := vp 2 1) (bs' := [I, O, I, I, I, I, O, O, O, O, O]) rfl (.inl rfl) rfl (e_val tk (by kernel_rfl)) (by kernel_rfl) rfl (by kernel_rfl) ?_
                                           exact SD.vie D_8 [.g 0, .g 1, .g 2, .g 3, .g 4, .g 5] c_8_11 (by kernel_rfl)
                                         · refine SW.eff D_8 (i := 6) (bs' := [O, O, I, I, I, I, I, O, O, O, O]) rfl (.inl rfl) rfl (e_ixp (sz := 18) (E := 38) (R := R_T_api_Queued) (by_ := 136) (l := l_5) tk rfl rfl rfl e_x_489 (by kernel_rfl)) (by kernel_rfl) rfl (by kernel_rfl) ?_
                                           exact SD.vie D_8 [.g 0, .g 1, .g 2, .g 3, .g 4, .g 5] c_8_16 (by kernel_rfl)
                                       · refine SD.lay 8 [O, O, I, I, O, I, O, O, O, O, O] [(1, vp 2 0), (2, vp 5 0), (14, vi .i64 (len x_3)), (15, vi .i64 x_6), (20, vi .i64 x_6), (21, vp 2 1), (23, vi .i64 x_6)] [.gone, .gone, .blk 28 (C_api_Friend ({ f_1 with Queue := l_5, Subs := x_2 }) (.s 3) (.s 4)), .own 18 38 R_T_api_Queued l_5, .own 1 24 (RInt .u16) x_2, .blk 28 (C_api_Friend (T_api_Friend.mk 0 [] [] 0 false 0 0 0) nl nl)] ?_ (fun c_8_18 => ?_)
                                         · refine SD.all2 (i := 0) (j := 4) (by kernel_rfl) ?_ ?_
                                           · refine SW.eff D_8 (i := 0) (v := vp 2 1) (bs' := [I, O, I, I, O, I, O, O, O, O, O]) rfl (.inl rfl) rfl (e_val tk (by kernel_rfl)) (by kernel_rfl) rfl (by kernel_rfl) ?_
                                             exact SD.vie D_8 [.g 0, .g 1, .g 2, .g 3, .g 4, .g 5] c_8_12 (by kernel_rfl)
                                           · refine SW.eff D_8 (i := 4) (v := vs 3) (bs' := [O, O, I, I, I, I, O, O, O, O, O]) rfl (.inl rfl) rfl (e_val tk (by kernel_rfl)) (by kernel_rfl) rfl (by kernel_rfl) ?_
                                             exact SD.vie D_8 [.g 0, .g 1, .g 2, .g 3, .g 4, .g 5] c_8_17 (by kernel_rfl)
                                         · refine SD.all2 (i := 0) (j := 3) (by kernel_rfl) ?_ ?_
                                           · refine SW.eff D_8 (i := 0) (v := vp 2 1) (bs' := [I, O, I, O, O, I, O, O, O, O, O]) rfl (.inl rfl) rfl (e_val tk (by kernel_rfl)) (by kernel_rfl) rfl (by kernel_rfl) ?_
                                             exact SD.vie D_8 [.g 0, .g 1, .g 2, .g 3, .g 4, .g 5] c_8_13 (by kernel_rfl)
                                           · refine SW.eff D_8 (i := 3) (v := vp 2 1) (bs' := [O, O, I, I, O, I, O, O, O, O, O]) rfl (.inl rfl) rfl (e_val tk (by kernel_rfl)) (by kernel_rfl) rfl (by kernel_rfl) ?_
                                             exact SD.vie D_8 [.g 0, .g 1, .g 2, .g 3, .g 4, .g 5] c_8_18 (by kernel_rfl)
   · refine SC.exitJ rfl fun a w h => ?_
     have ho := done_inv hp hs1
     replace hp := ho1
     try rw [ho] at hp
     exact ⟨l_5, hp, h.at (js := [.g 0, .g 1, .g 2, .g 3, .g 4, .g 5]) (by kernel_rfl)⟩
 · rintro a w ⟨l_4, hp, h⟩
   refine h.go ?_
   refine SC.r tk [(2, vp 5 0)] [(5, 28, (C_api_Friend ({ f_1 with Queue := l_4, Subs := x_2 }) (.s 3) (.s 4)))] [] [] (by kernel_rfl) ?_
   obtain rfl := some_inv' hp
   exact SC.re (js := [.g 0, .g 1, .z 3, .z 4]) tk (by kernel_rfl)

theorem ok_netpdu_Node (F : Nat) (a_1 : Int) (r : Bool) (hp : netpdu_Node F a_1 = some r) : Spec Try.prog 26 [vi .u16 a_1] [] (vb r) [] := by
 refine Spec.enter Try.func26 rfl Try.ntmps26 rfl rfl fun fx => ?_
 refine SC.r tk [(0, vi .u16 a_1)] [] [] [] (by kernel_rfl) ?_
 refine SC.r tk [(2, vb ((decide (a_1 > 0)) && (decide (a_1 ≤ 32767))))] [] [] [] (by kernel_rfl) ?_
 obtain rfl := some_inv' hp
 exact SC.re (js := []) tk (by kernel_rfl)

theorem ok_friend_over (F : Nat) (f_1 : T_api_Friend) (now_2 : Int) (r : Bool) (hp : friend_over F f_1 now_2 = some r) : Spec Try.prog 27 [.g (C_api_Friend f_1 (.s 0) (.s 1)), vi .i64 now_2] [.rd 18 R_T_api_Queued f_1.Queue, .rd 1 (RInt .u16) f_1.Subs] (vb r) [.gone, .gone] := by
 refine Spec.enter Try.func27 rfl Try.ntmps27 rfl rfl fun fx => ?_
 refine SC.seq ?_
 refine SC.reg ?_
 refine SL.eff (e_box (E := 28) (C_api_Friend f_1 (.s 0) (.s 1)) (by kernel_rfl)) rfl (by kernel_rfl) ?_
 refine SL.sim tk 1 [(1, vi .i64 now_2), (2, vp 2 0)] [] [] [] (by kernel_rfl) ?_
 refine SL.nilThen ?_
 refine SC.r tk [(4, vb (decide (now_2 ≥ (w64 (f_1.Polled + 200)))))] [] [] [] (by kernel_rfl) ?_
 obtain rfl := some_inv' hp
 exact SC.re (js := [.g 0, .g 1]) tk (by kernel_rfl)

theorem ok_friend_Befriend (F : Nat) (f_1 : T_api_Friend) (low_2 : Int) (counter_3 : Int) (now_4 : Int) (r : T_api_Friend × Bool) (hp : friend_Befriend F f_1 low_2 counter_3 now_4 = some r) : Spec Try.prog 8 [.g (C_api_Friend f_1 (.s 0) (.s 1)), vi .u16 low_2, vi .i64 counter_3, vi .i64 now_4] [.rd 18 R_T_api_Queued f_1.Queue, .rd 1 (RInt .u16) f_1.Subs] (.u [.inr [ci .u16 r.1.Low, .s 2, .s 3, ci .i64 r.1.Bit, cb r.1.Sent, ci .i64 r.1.Polled, ci .i64 r.1.Counter, ci .i64 r.1.Dropped], .inl (cb r.2)]) [.gone, .gone, .rd 18 R_T_api_Queued r.1.Queue, .rd 1 (RInt .u16) r.1.Subs] := by
 refine Spec.enter Try.func8 rfl Try.ntmps8 rfl rfl fun fx => ?_
 refine SC.seq ?_
 refine SC.reg ?_
 refine SL.eff (e_box (E := 28) (C_api_Friend f_1 (.s 0) (.s 1)) (by kernel_rfl)) rfl (by kernel_rfl) ?_
 refine SL.eff (e_alloc (E := 28) tk (C_api_Friend (T_api_Friend.mk 0 [] [] 0 false 0 0 0) nl nl) (by kernel_rfl)) rfl (by kernel_rfl) ?_
 refine SL.sim tk 1 [(1, vi .u16 low_2), (2, vi .i64 counter_3), (3, vi .i64 now_4), (4, vp 2 0), (8, vp 3 0)] [] [] [] (by kernel_rfl) ?_
 refine SL.nilThen ?_
 refine SC.seq ?_
 refine SC.reg ?_
 refine SL.sim tk 1 [(1, vi .u16 low_2), (2, vi .i64 counter_3), (3, vi .i64 now_4), (4, vp 2 0), (8, vp 3 0), (10, .g (C_api_Friend f_1 (.s 0) (.s 1)))] [] [] [] (by kernel_rfl) ?_
 obtain ⟨x_5, e_x_5, hp⟩ := bind_inv hp
 refine SL.eff (e_c Try.call25 (ok_friend_apart F f_1 _ e_x_5) [.g 0, .g 1] [.g (C_api_Friend f_1 (.s 0) (.s 1))] (.g (C_api_Friend x_5 (.s 4) (.s 5))) (by kernel_rfl) (.inl rfl)) rfl (by kernel_rfl) ?_
 refine SL.norm (itsN := [.rd 18 R_T_api_Queued f_1.Queue, .rd 1 (RInt .u16) f_1.Subs, .blk 28 (C_api_Friend f_1 (.s 0) (.s 1)), .blk 28 (C_api_Friend (T_api_Friend.mk 0 [] [] 0 false 0 0 0) nl nl), .rd 18 R_T_api_Queued x_5.Queue, .rd 1 (RInt .u16) x_5.Subs]) (by kernel_rfl) ?_
 refine SL.sim tk 1 [(1, vi .u16 low_2), (2, vi .i64 counter_3), (3, vi .i64 now_4), (4, vp 2 0), (8, vp 3 0)] [(2, 28, (C_api_Friend x_5 (.s 4) (.s 5)))] [] [] (by kernel_rfl) ?_
 refine SL.nilThen ?_
 refine SC.seq ?_
 refine SC.block ?_
 refine SC.seq ?_
 refine SC.reg ?_
 refine SL.sim tk 1 [(1, vi .u16 low_2), (2, vi .i64 counter_3), (3, vi .i64 now_4), (4, vp 2 0), (8, vp 3 0), (13, vi .u16 low_2)] [] [] [] (by kernel_rfl) ?_
 obtain ⟨x_6, e_x_6, hp⟩ := bind_inv hp
 refine SL.eff (e_c Try.call26 (ok_netpdu_Node F low_2 _ e_x_6) [] [vi .u16 low_2] (vb x_6) (by kernel_rfl) (.inl rfl)) rfl (by kernel_rfl) ?_
 refine SL.sim tk 10 [(1, vi .u16 low_2), (2, vi .i64 counter_3), (3, vi .i64 now_4), (4, vp 2 0), (8, vp 3 0), (24, vb (((!x_6) || (decide (counter_3 < 0))) || (decide (counter_3 ≥ 65536))))] [] [] [] (by kernel_rfl) ?_
 obtain ⟨z_8, hz, hpr⟩ := bind_inv hp
 clear hp
 refine SL.cutAt 16 (fun a w => A 66 2 fx [(1, vi .u16 low_2), (2, vi .i64 counter_3), (3, vi .i64 now_4), (4, vp 2 0), (8, vp 5 0), (40, vb z_8)] [.gone, .gone, .blk 28 (C_api_Friend x_5 (.s 3) (.s 4)), .rd 18 R_T_api_Queued x_5.Queue, .rd 1 (RInt .u16) x_5.Subs, .blk 28 (C_api_Friend (T_api_Friend.mk 0 [] [] 0 false 0 0 0) nl nl)] a w) ?_ ?_
 · have hp := hz
   rcases Bool.eq_false_or_eq_true ((((!x_6) || (decide (counter_3 < 0))) || (decide (counter_3 ≥ 65536)))) with hg_7 | hg_7
   · replace hp := if_t hp hg_7
     refine SL.no rfl rfl hg_7 rfl ?_
     refine SL.no rfl rfl hg_7 rfl ?_
     refine SL.no rfl rfl hg_7 rfl ?_
     refine SL.no rfl rfl hg_7 rfl ?_
     refine SL.noU rfl rfl rfl ?_
     refine SL.noU rfl rfl rfl ?_
     refine SL.noU rfl rfl rfl ?_
     refine SL.noU rfl rfl rfl ?_
     refine SL.no rfl rfl hg_7 rfl ?_
     refine SL.no rfl rfl hg_7 rfl ?_
     refine SL.noU rfl rfl rfl ?_
     refine SL.noU rfl rfl rfl ?_
     refine SL.noU rfl rfl rfl ?_
     refine SL.noU rfl rfl rfl ?_
     refine SL.no rfl rfl hg_7 rfl ?_
     refine SL.pickt rfl hg_7 rfl rfl ?_
     refine SL.nilJ fun a w h => ?_
     obtain rfl := some_inv' hp
     exact h.at (js := [.g 0, .g 1, .g 2, .g 4, .g 5, .g 3]) (by kernel_rfl)
   · replace hp := if_f hp hg_7
     refine SL.yes rfl rfl hg_7 ?_
     refine SL.sim tk 1 [(1, vi .u16 low_2), (2, vi .i64 counter_3), (3, vi .i64 now_4), (4, vp 2 0), (8, vp 3 0), (24, vb (((!x_6) || (decide (counter_3 < 0))) || (decide (counter_3 ≥ 65536)))), (25, vp 2 0)] [] [] [] (by kernel_rfl) ?_
     refine SL.yes rfl rfl hg_7 ?_
     refine SL.sim tk 1 [(1, vi .u16 low_2), (2, vi .i64 counter_3), (3, vi .i64 now_4), (4, vp 2 0), (8, vp 3 0), (24, vb (((!x_6) || (decide (counter_3 < 0))) || (decide (counter_3 ≥ 65536)))), (26, vi .u16 x_5.Low)] [] [] [] (by kernel_rfl) ?_
     refine SL.yes rfl rfl hg_7 ?_
     refine SL.sim tk 1 [(1, vi .u16 low_2), (2, vi .i64 counter_3), (3, vi .i64 now_4), (4, vp 2 0), (8, vp 3 0), (24, vb (((!x_6) || (decide (counter_3 < 0))) || (decide (counter_3 ≥ 65536)))), (27, vb (x_5.Low != 0))] [] [] [] (by kernel_rfl) ?_
     refine SL.yes rfl rfl hg_7 ?_
     refine SL.sim tk 1 [(1, vi .u16 low_2), (2, vi .i64 counter_3), (3, vi .i64 now_4), (4, vp 2 0), (8, vp 3 0), (24, vb (((!x_6) || (decide (counter_3 < 0))) || (decide (counter_3 ≥ 65536)))), (28, vb (x_5.Low != 0))] [] [] [] (by kernel_rfl) ?_
     rcases Bool.eq_false_or_eq_true ((x_5.Low != 0)) with hg_14 | hg_14
     · replace hp := if_t hp hg_14
       refine SL.yes rfl rfl hg_14 ?_
       refine SL.sim tk 1 [(1, vi .u16 low_2), (2, vi .i64 counter_3), (3, vi .i64 now_4), (4, vp 2 0), (8, vp 3 0), (24, vb (((!x_6) || (decide (counter_3 < 0))) || (decide (counter_3 ≥ 65536)))), (28, vb (x_5.Low != 0)), (29, vp 2 0)] [] [] [] (by kernel_rfl) ?_
       refine SL.yes rfl rfl hg_14 ?_
       refine SL.sim tk 1 [(1, vi .u16 low_2), (2, vi .i64 counter_3), (3, vi .i64 now_4), (4, vp 2 0), (8, vp 3 0), (24, vb (((!x_6) || (decide (counter_3 < 0))) || (decide (counter_3 ≥ 65536)))), (28, vb (x_5.Low != 0)), (30, vi .u16 x_5.Low)] [] [] [] (by kernel_rfl) ?_
       refine SL.yes rfl rfl hg_14 ?_
       refine SL.sim tk 1 [(1, vi .u16 low_2), (2, vi .i64 counter_3), (3, vi .i64 now_4), (4, vp 2 0), (8, vp 3 0), (24, vb (((!x_6) || (decide (counter_3 < 0))) || (decide (counter_3 ≥ 65536)))), (28, vb (x_5.Low != 0)), (30, vi .u16 x_5.Low), (31, vi .u16 low_2)] [] [] [] (by kernel_rfl) ?_
       refine SL.yes rfl rfl hg_14 ?_
       refine SL.sim tk 1 [(1, vi .u16 low_2), (2, vi .i64 counter_3), (3, vi .i64 now_4), (4, vp 2 0), (8, vp 3 0), (24, vb (((!x_6) || (decide (counter_3 < 0))) || (decide (counter_3 ≥ 65536)))), (28, vb (x_5.Low != 0)), (32, vb (x_5.Low != low_2))] [] [] [] (by kernel_rfl) ?_
       refine SL.yes rfl rfl hg_7 ?_
       refine SL.pickt rfl hg_14 rfl rfl ?_
       refine SL.yes rfl rfl hg_7 ?_
       refine SL.sim tk 1 [(1, vi .u16 low_2), (2, vi .i64 counter_3), (3, vi .i64 now_4), (4, vp 2 0), (8, vp 3 0), (24, vb (((!x_6) || (decide (counter_3 < 0))) || (decide (counter_3 ≥ 65536)))), (34, vb (x_5.Low != low_2))] [] [] [] (by kernel_rfl) ?_
       rcases Bool.eq_false_or_eq_true ((x_5.Low != low_2)) with hg_15 | hg_15
       · replace hp := if_t hp hg_15
         refine SL.yes rfl rfl hg_15 ?_
         refine SL.sim tk 1 [(1, vi .u16 low_2), (2, vi .i64 counter_3), (3, vi .i64 now_4), (4, vp 2 0), (8, vp 3 0), (24, vb (((!x_6) || (decide (counter_3 < 0))) || (decide (counter_3 ≥ 65536)))), (34, vb (x_5.Low != low_2)), (35, .g (C_api_Friend x_5 (.s 4) (.s 5)))] [] [] [] (by kernel_rfl) ?_
         refine SL.yes rfl rfl hg_15 ?_
         refine SL.sim tk 1 [(1, vi .u16 low_2), (2, vi .i64 counter_3), (3, vi .i64 now_4), (4, vp 2 0), (8, vp 3 0), (24, vb (((!x_6) || (decide (counter_3 < 0))) || (decide (counter_3 ≥ 65536)))), (34, vb (x_5.Low != low_2)), (35, .g (C_api_Friend x_5 (.s 4) (.s 5))), (36, vi .i64 now_4)] [] [] [] (by kernel_rfl) ?_
         refine SL.yes rfl rfl hg_15 ?_
         obtain ⟨x_16, e_x_16, hp⟩ := bind_inv hp
         refine SL.eff (e_c Try.call27 (ok_friend_over F x_5 now_4 _ e_x_16) [.g 4, .g 5] [.g (C_api_Friend x_5 (.s 4) (.s 5)), vi .i64 now_4] (vb x_16) (by kernel_rfl) (.inl rfl)) rfl (by kernel_rfl) ?_
         refine SL.norm (itsN := [.rd 18 R_T_api_Queued f_1.Queue, .rd 1 (RInt .u16) f_1.Subs, .blk 28 (C_api_Friend x_5 (.s 4) (.s 5)), .blk 28 (C_api_Friend (T_api_Friend.mk 0 [] [] 0 false 0 0 0) nl nl), .rd 18 R_T_api_Queued x_5.Queue, .rd 1 (RInt .u16) x_5.Subs]) (by kernel_rfl) ?_
         refine SL.yes rfl rfl hg_15 ?_
         refine SL.sim tk 1 [(1, vi .u16 low_2), (2, vi .i64 counter_3), (3, vi .i64 now_4), (4, vp 2 0), (8, vp 3 0), (24, vb (((!x_6) || (decide (counter_3 < 0))) || (decide (counter_3 ≥ 65536)))), (34, vb (x_5.Low != low_2)), (38, vb (!x_16))] [] [] [] (by kernel_rfl) ?_
         refine SL.yes rfl rfl hg_7 ?_
         refine SL.pickt rfl hg_15 rfl rfl ?_
         refine SL.pickf rfl hg_7 rfl rfl ?_
         refine SL.nilJ fun a w h => ?_
         obtain rfl := some_inv' hp
         exact h.at (js := [.g 0, .g 1, .g 2, .g 4, .g 5, .g 3]) (by kernel_rfl)
       · replace hp := if_f hp hg_15
         refine SL.no rfl rfl hg_15 rfl ?_
         refine SL.no rfl rfl hg_15 rfl ?_
         refine SL.no rfl rfl hg_15 rfl ?_
         refine SL.no rfl rfl hg_15 rfl ?_
         refine SL.yes rfl rfl hg_7 ?_
         refine SL.pickf rfl hg_15 rfl rfl ?_
         refine SL.pickf rfl hg_7 rfl rfl ?_
         refine SL.nilJ fun a w h => ?_
         obtain rfl := some_inv' hp
         exact h.at (js := [.g 0, .g 1, .g 2, .g 4, .g 5, .g 3]) (by kernel_rfl)
     · replace hp := if_f hp hg_14
       refine SL.no rfl rfl hg_14 rfl ?_
       refine SL.no rfl rfl hg_14 rfl ?_
       refine SL.no rfl rfl hg_14 rfl ?_
       refine SL.no rfl rfl hg_14 rfl ?_
       refine SL.yes rfl rfl hg_7 ?_
       refine SL.pickf rfl hg_14 rfl rfl ?_
       refine SL.yes rfl rfl hg_7 ?_
       refine SL.sim tk 1 [(1, vi .u16 low_2), (2, vi .i64 counter_3), (3, vi .i64 now_4), (4, vp 2 0), (8, vp 3 0), (24, vb (((!x_6) || (decide (counter_3 < 0))) || (decide (counter_3 ≥ 65536)))), (34, vb false)] [] [] [] (by kernel_rfl) ?_
       rcases Bool.eq_false_or_eq_true (false) with hg_17 | hg_17
       · replace hp := if_t hp hg_17
         refine SL.yes rfl rfl hg_17 ?_
         refine SL.sim tk 1 [(1, vi .u16 low_2), (2, vi .i64 counter_3), (3, vi .i64 now_4), (4, vp 2 0), (8, vp 3 0), (24, vb (((!x_6) || (decide (counter_3 < 0))) || (decide (counter_3 ≥ 65536)))), (34, vb false), (35, .g (C_api_Friend x_5 (.s 4) (.s 5)))] [] [] [] (by kernel_rfl) ?_
         refine SL.yes rfl rfl hg_17 ?_
         refine SL.sim tk 1 [(1, vi .u16 low_2), (2, vi .i64 counter_3), (3, vi .i64 now_4), (4, vp 2 0), (8, vp 3 0), (24, vb (((!x_6) || (decide (counter_3 < 0))) || (decide (counter_3 ≥ 65536)))), (34, vb false), (35, .g (C_api_Friend x_5 (.s 4) (.s 5))), (36, vi .i64 now_4)] [] [] [] (by kernel_rfl) ?_
         refine SL.yes rfl rfl hg_17 ?_
         obtain ⟨x_18, e_x_18, hp⟩ := bind_inv hp
         refine SL.eff (e_c Try.call27 (ok_friend_over F x_5 now_4 _ e_x_18) [.g 4, .g 5] [.g (C_api_Friend x_5 (.s 4) (.s 5)), vi .i64 now_4] (vb x_18) (by kernel_rfl) (.inl rfl)) rfl (by kernel_rfl) ?_
         refine SL.norm (itsN := [.rd 18 R_T_api_Queued f_1.Queue, .rd 1 (RInt .u16) f_1.Subs, .blk 28 (C_api_Friend x_5 (.s 4) (.s 5)), .blk 28 (C_api_Friend (T_api_Friend.mk 0 [] [] 0 false 0 0 0) nl nl), .rd 18 R_T_api_Queued x_5.Queue, .rd 1 (RInt .u16) x_5.Subs]) (by kernel_rfl) ?_
         refine SL.yes rfl rfl hg_17 ?_
         refine SL.sim tk 1 [(1, vi .u16 low_2), (2, vi .i64 counter_3), (3, vi .i64 now_4), (4, vp 2 0), (8, vp 3 0), (24, vb (((!x_6) || (decide (counter_3 < 0))) || (decide (counter_3 ≥ 65536)))), (34, vb false), (38, vb (!x_18))] [] [] [] (by kernel_rfl) ?_
         refine SL.yes rfl rfl hg_7 ?_
         refine SL.pickt rfl hg_17 rfl rfl ?_
         refine SL.pickf rfl hg_7 rfl rfl ?_
         refine SL.nilJ fun a w h => ?_
         obtain rfl := some_inv' hp
         exact h.at (js := [.g 0, .g 1, .g 2, .g 4, .g 5, .g 3]) (by kernel_rfl)
       · replace hp := if_f hp hg_17
         refine SL.no rfl rfl hg_17 rfl ?_
         refine SL.no rfl rfl hg_17 rfl ?_
         refine SL.no rfl rfl hg_17 rfl ?_
         refine SL.no rfl rfl hg_17 rfl ?_
         refine SL.yes rfl rfl hg_7 ?_
         refine SL.pickf rfl hg_17 rfl rfl ?_
         refine SL.pickf rfl hg_7 rfl rfl ?_
         refine SL.nilJ fun a w h => ?_
         obtain rfl := some_inv' hp
         exact h.at (js := [.g 0, .g 1, .g 2, .g 4, .g 5, .g 3]) (by kernel_rfl)
 · intro a w h
   have hp := hpr; clear hpr hz
   refine h.goL ?_
   refine SL.sim tk 1 [(1, vi .u16 low_2), (2, vi .i64 counter_3), (3, vi .i64 now_4), (4, vp 2 0), (8, vp 5 0), (12, vb z_8)] [] [] [] (by kernel_rfl) ?_
   refine SL.nilThen ?_
   refine SC.if' rfl hp (fun hp => ?_) (fun hp => ?_)
   · refine SC.r tk [(8, vp 5 0), (9, vb false)] [(5, 28, (C_api_Friend x_5 (.s 3) (.s 4)))] [] [] (by kernel_rfl) ?_
     obtain rfl := some_inv' hp
     exact SC.re (js := [.g 0, .g 1, .g 3, .g 4]) tk (by kernel_rfl)
   · refine SC.seq ?_
     refine SC.reg ?_
     refine SL.sim tk 11 [(1, vi .u16 low_2), (2, vi .i64 counter_3), (3, vi .i64 now_4), (4, vp 2 0), (8, vp 5 0), (53, vb ((x_5.Low == low_2) && (x_5.Counter == counter_3)))] [] [] [] (by kernel_rfl) ?_
     obtain ⟨z_10, hz, hpr⟩ := bind_inv hp
     clear hp
     refine SL.cutAt 5 (fun a w => A 66 2 fx [(1, vi .u16 low_2), (2, vi .i64 counter_3), (3, vi .i64 now_4), (4, vp 2 0), (8, vp 5 0), (58, vb z_10)] [.gone, .gone, .blk 28 (C_api_Friend x_5 (.s 3) (.s 4)), .rd 18 R_T_api_Queued x_5.Queue, .rd 1 (RInt .u16) x_5.Subs, .blk 28 (C_api_Friend (T_api_Friend.mk 0 [] [] 0 false 0 0 0) nl nl)] a w) ?_ ?_
     · have hp := hz
       rcases Bool.eq_false_or_eq_true (((x_5.Low == low_2) && (x_5.Counter == counter_3))) with hg_9 | hg_9
       · replace hp := if_t hp hg_9
         refine SL.yes rfl rfl hg_9 ?_
         refine SL.sim tk 1 [(1, vi .u16 low_2), (2, vi .i64 counter_3), (3, vi .i64 now_4), (4, vp 2 0), (8, vp 5 0), (53, vb ((x_5.Low == low_2) && (x_5.Counter == counter_3))), (54, .g (C_api_Friend x_5 (.s 3) (.s 4)))] [] [] [] (by kernel_rfl) ?_
         refine SL.yes rfl rfl hg_9 ?_
         refine SL.sim tk 1 [(1, vi .u16 low_2), (2, vi .i64 counter_3), (3, vi .i64 now_4), (4, vp 2 0), (8, vp 5 0), (53, vb ((x_5.Low == low_2) && (x_5.Counter == counter_3))), (54, .g (C_api_Friend x_5 (.s 3) (.s 4))), (55, vi .i64 now_4)] [] [] [] (by kernel_rfl) ?_
         refine SL.yes rfl rfl hg_9 ?_
         obtain ⟨x_12, e_x_12, hp⟩ := bind_inv hp
         refine SL.eff (e_c Try.call27 (ok_friend_over F x_5 now_4 _ e_x_12) [.g 3, .g 4] [.g (C_api_Friend x_5 (.s 3) (.s 4)), vi .i64 now_4] (vb x_12) (by kernel_rfl) (.inl rfl)) rfl (by kernel_rfl) ?_
         refine SL.yes rfl rfl hg_9 ?_
         refine SL.sim tk 1 [(1, vi .u16 low_2), (2, vi .i64 counter_3), (3, vi .i64 now_4), (4, vp 2 0), (8, vp 5 0), (53, vb ((x_5.Low == low_2) && (x_5.Counter == counter_3))), (57, vb (!x_12))] [] [] [] (by kernel_rfl) ?_
         refine SL.pickt rfl hg_9 rfl rfl ?_
         refine SL.nilJ fun a w h => ?_
         obtain rfl := some_inv' hp
         exact h.at (js := [.g 0, .g 1, .g 2, .g 3, .g 4, .g 5]) (by kernel_rfl)
       · replace hp := if_f hp hg_9
         refine SL.no rfl rfl hg_9 rfl ?_
         refine SL.no rfl rfl hg_9 rfl ?_
         refine SL.no rfl rfl hg_9 rfl ?_
         refine SL.no rfl rfl hg_9 rfl ?_
         refine SL.pickf rfl hg_9 rfl rfl ?_
         refine SL.nilJ fun a w h => ?_
         obtain rfl := some_inv' hp
         exact h.at (js := [.g 0, .g 1, .g 2, .g 3, .g 4, .g 5]) (by kernel_rfl)
     · intro a w h
       have hp := hpr; clear hpr hz
       refine h.goL ?_
       refine SL.sim tk 1 [(1, vi .u16 low_2), (2, vi .i64 counter_3), (3, vi .i64 now_4), (4, vp 2 0), (8, vp 5 0), (42, vb z_10)] [] [] [] (by kernel_rfl) ?_
       refine SL.nilThen ?_
       refine SC.if' rfl hp (fun hp => ?_) (fun hp => ?_)
       · refine SC.r tk [(4, vp 2 0), (8, vp 5 0)] [(2, 28, (C_api_Friend ({ x_5 with Polled := now_4 }) (.s 3) (.s 4)))] [] [] (by kernel_rfl) ?_
         refine SC.r tk [(8, vp 5 0), (9, vb true)] [(5, 28, (C_api_Friend ({ x_5 with Polled := now_4 }) (.s 3) (.s 4)))] [] [] (by kernel_rfl) ?_
         obtain rfl := some_inv' hp
         exact SC.re (js := [.g 0, .g 1, .g 3, .g 4]) tk (by kernel_rfl)
       · refine SC.skipThen ?_
         refine SC.r tk [(8, vp 5 0), (9, vb true)] [(5, 28, (C_api_Friend (T_api_Friend.mk low_2 [] [] 0 false now_4 counter_3 0) nl nl))] [] [] (by kernel_rfl) ?_
         obtain rfl := some_inv' hp
         exact SC.re (js := [.g 0, .g 1, .n, .n]) tk (by kernel_rfl)

theorem ok_wirelesslaw51_queued (F : Nat) (n_1 : Int) (r : T_api_Queued) (hp : wirelesslaw51_queued F n_1 = some r) : Spec Try.prog 22 [vi .u32 n_1] [] (.g (C_api_Queued (T_api_Queued.mk (T_api_NetPDU.mk r.PDU.IV r.PDU.NID r.PDU.Control r.PDU.TTL r.PDU.Seq r.PDU.Src r.PDU.Dst r.PDU.Payload) (T_api_Lower.mk r.Lower.Control r.Lower.Segmented r.Lower.App r.Lower.Zero r.Lower.Index r.Lower.Last r.Lower.Opcode r.Lower.Block r.Lower.Friend r.Lower.Bytes)) (.s 0) (.s 1))) [.rd 1 R8 r.PDU.Payload, .rd 1 R8 r.Lower.Bytes] := by
 refine Spec.enter Try.func22 rfl Try.ntmps22 rfl rfl fun fx => ?_
 refine SC.seq ?_
 refine SC.reg ?_
 refine SL.eff (e_alloc (E := 38) tk (C_api_Queued (T_api_Queued.mk (T_api_NetPDU.mk 0 0 false 0 0 0 0 []) (T_api_Lower.mk false false false 0 0 0 0 0 false [])) nl nl) (by kernel_rfl)) rfl (by kernel_rfl) ?_
 refine SL.nilThen ?_
 refine SC.r tk [(2, vp 0 0)] [(0, 38, (C_api_Queued (T_api_Queued.mk (T_api_NetPDU.mk 0 0 false 0 n_1 7 0 []) (T_api_Lower.mk false false false 0 0 0 0 0 false [])) nl nl))] [] [] (by kernel_rfl) ?_
 obtain rfl := some_inv' hp
 exact SC.re (js := [.n, .n]) tk (by kernel_rfl)

theorem ok_friend_Keep_1 (F : Nat) (x_1 : T_api_Queued) (p_2 : T_api_Queued) (r : Bool × T_api_Queued) (hp : friend_Keep_1 F x_1 p_2 = some r) : Spec Try.prog 30 [.g (C_api_Queued x_1 (.s 0) (.s 1)), vp 2 0] [.rd 1 R8 x_1.PDU.Payload, .rd 1 R8 x_1.Lower.Bytes, .blk 38 (C_api_Queued p_2 (.s 3) (.s 4)), .rd 1 R8 p_2.PDU.Payload, .rd 1 R8 p_2.Lower.Bytes] (vb r.1) [.gone, .gone, .blk 38 (C_api_Queued (T_api_Queued.mk (T_api_NetPDU.mk r.2.PDU.IV r.2.PDU.NID r.2.PDU.Control r.2.PDU.TTL r.2.PDU.Seq r.2.PDU.Src r.2.PDU.Dst r.2.PDU.Payload) (T_api_Lower.mk r.2.Lower.Control r.2.Lower.Segmented r.2.Lower.App r.2.Lower.Zero r.2.Lower.Index r.2.Lower.Last r.2.Lower.Opcode r.2.Lower.Block r.2.Lower.Friend r.2.Lower.Bytes)) (.s 5) (.s 6)), .gone, .gone, .rd 1 R8 r.2.PDU.Payload, .rd 1 R8 r.2.Lower.Bytes] := by
 refine Spec.enter Try.func30 rfl Try.ntmps30 rfl rfl fun fx => ?_
 refine SC.seq ?_
 refine SC.reg ?_
 refine SL.eff (e_box (E := 38) (C_api_Queued x_1 (.s 0) (.s 1)) (by kernel_rfl)) rfl (by kernel_rfl) ?_
 refine SL.sim tk 1 [(1, vp 2 0), (2, vp 5 0)] [] [] [] (by kernel_rfl) ?_
 refine SL.nilThen ?_
 refine SC.r tk [(3, vb (((x_1.PDU.Src == p_2.PDU.Src) && (x_1.PDU.IV == p_2.PDU.IV)) && (x_1.PDU.Seq == p_2.PDU.Seq)))] [] [] [] (by kernel_rfl) ?_
 obtain rfl := some_inv' hp
 exact SC.re (js := [.g 0, .g 1, .g 2, .g 3, .g 4, .g 3, .g 4]) tk (by kernel_rfl)

theorem ok_slices_IndexFunc_api_Queued_api_Queued_at30 (F : Nat) (s_1 : (List T_api_Queued)) (c_2 : T_api_Queued) (r : Int × T_api_Queued) (hp : slices_IndexFunc_api_Queued_api_Queued_at30 F s_1 c_2 = some r) : Spec Try.prog 58 [vs 0, .f 30 [.p 1 0]] [.rd 18 R_T_api_Queued s_1, .blk 38 (C_api_Queued c_2 (.s 2) (.s 3)), .rd 1 R8 c_2.PDU.Payload, .rd 1 R8 c_2.Lower.Bytes] (vi .i64 r.1) [.gone, .blk 38 (C_api_Queued (T_api_Queued.mk (T_api_NetPDU.mk r.2.PDU.IV r.2.PDU.NID r.2.PDU.Control r.2.PDU.TTL r.2.PDU.Seq r.2.PDU.Src r.2.PDU.Dst r.2.PDU.Payload) (T_api_Lower.mk r.2.Lower.Control r.2.Lower.Segmented r.2.Lower.App r.2.Lower.Zero r.2.Lower.Index r.2.Lower.Last r.2.Lower.Opcode r.2.Lower.Block r.2.Lower.Friend r.2.Lower.Bytes)) (.s 4) (.s 5)), .gone, .gone, .rd 1 R8 r.2.PDU.Payload, .rd 1 R8 r.2.Lower.Bytes] := by
 refine Spec.enter Try.func58 rfl Try.ntmps58 rfl rfl fun fx => ?_
 refine SC.r tk [(0, vs 0), (1, .f 30 [.p 1 0])] [] [] [] (by kernel_rfl) ?_
 refine SC.cut (fun a w => ∃ (c_21 : T_api_Queued), slices_IndexFunc_api_Queued_api_Queued_at30_j1 F c_21 = some r ∧ A 19 4 fx [] [.gone, .blk 38 (C_api_Queued c_21 (.s 4) (.s 5)), .gone, .gone, .rd 1 R8 c_21.PDU.Payload, .rd 1 R8 c_21.Lower.Bytes] a w) ?_ ?_
 · refine SC.r tk [(0, vs 0), (1, .f 30 [.p 1 0]), (7, vi .i64 (len s_1)), (8, vi .i64 0)] [] [] [] (by kernel_rfl) ?_
   refine SC.block ?_
   obtain ⟨o1, hi1, ho1⟩ := bind_inv hp
   clear hp
   refine SC.loop (fun n a w => ∃ (c_40 : T_api_Queued) (x_41 : Int), iter (fun s => slices_IndexFunc_api_Queued_api_Queued_at30_l1 F s_1 s.1 s.2) n (c_40, x_41) = some o1 ∧ A 19 4 fx [(0, vs 0), (1, .f 30 [.p 1 0]), (7, vi .i64 (len s_1)), (8, vi .i64 x_41)] [.rd 18 R_T_api_Queued s_1, .blk 38 (C_api_Queued c_40 (.s 4) (.s 5)), .gone, .gone, .rd 1 R8 c_40.PDU.Payload, .rd 1 R8 c_40.Lower.Bytes] a w) F (fun a w h => ⟨c_2, 0, hi1, h.at (js := [.g 0, .g 1, .g 2, .g 3, .g 2, .g 3]) (by kernel_rfl)⟩) ?_
   rintro n1 a w ⟨c_40, x_41, hi1, h⟩
   obtain ⟨n1, q1, rfl, hp, hs1⟩ := iter_inv hi1
   replace hp : slices_IndexFunc_api_Queued_api_Queued_at30_l1 F s_1 c_40 x_41 = some q1 := hp
   clear hi1
   refine h.go ?_
   refine SC.r tk [(0, vs 0), (1, .f 30 [.p 1 0]), (7, vi .i64 (len s_1)), (8, vi .i64 x_41), (9, vb (decide (x_41 < (len s_1))))] [] [] [] (by kernel_rfl) ?_
   refine SC.seq ?_
   refine SC.if' rfl hp (fun hp => ?_) (fun hp => ?_)
   · refine SC.skipThen ?_
     refine SC.seq ?_
     refine SC.block ?_
     refine SC.r tk [(0, vs 0), (1, .f 30 [.p 1 0]), (5, vi .i64 x_41), (7, vi .i64 (len s_1)), (8, vi .i64 x_41)] [] [] [] (by kernel_rfl) ?_
     refine SC.seq ?_
     refine SC.reg ?_
     obtain ⟨x_42, e_x_42, hp⟩ := bind_inv hp
     refine SL.pre (pre_ix (i := 0) (iv := x_41) (sz := 18) (R := R_T_api_Queued) (l := s_1) (by kernel_rfl) rfl e_x_42) ?_
     refine SL.sim tk 5 [(0, vs 0), (1, .f 30 [.p 1 0]), (5, vi .i64 x_41), (7, vi .i64 (len s_1)), (8, vi .i64 x_41), (11, .f 30 [.p 1 0]), (15, .g (C_api_Queued x_42 (.s 7) (.s 8)))] [] [.el 6] [x_41] (by kernel_rfl) ?_
     obtain ⟨x_43, e_x_43, hp⟩ := bind_inv hp
     refine SL.eff (e_c Try.call30 (ok_friend_Keep_1 F x_42 c_40 _ e_x_43) [.g 7, .g 8, .g 1, .g 4, .g 5] [.g (C_api_Queued x_42 (.s 7) (.s 8)), vp 1 0] (vb x_43.1) (by kernel_rfl) (.inl rfl)) rfl (by kernel_rfl) ?_
     refine SL.nilThen ?_
     refine SC.if' rfl hp (fun hp => ?_) (fun hp => ?_)
     · refine SC.r tk [(4, vi .i64 x_41)] [] [] [] (by kernel_rfl) ?_
       have ho := done_inv hp hs1
       replace hp := ho1
       try rw [ho] at hp
       obtain rfl := some_inv' hp
       exact SC.re (js := [.g 0, .g 1, .g 2, .g 3, .g 9, .g 10]) tk (by kernel_rfl)
     · refine SC.skipThen ?_
       refine SC.reg ?_
       refine SL.sim tk 2 [(0, vs 0), (1, .f 30 [.p 1 0]), (7, vi .i64 (len s_1)), (8, vi .i64 (w64 (x_41 + 1)))] [] [] [] (by kernel_rfl) ?_
       refine SL.nilJ fun a w h => ?_
       exact ⟨n1, Nat.lt_succ_self _, x_43.2, w64 (x_41 + 1), next_inv hp hs1, h.at (js := [.g 0, .g 1, .g 2, .g 3, .g 9, .g 10]) (by kernel_rfl)⟩
   · refine SC.exitJ rfl fun a w h => ?_
     have ho := done_inv hp hs1
     replace hp := ho1
     try rw [ho] at hp
     exact ⟨c_40, hp, h.at (js := [.g 0, .g 1, .g 2, .g 3, .g 4, .g 5]) (by kernel_rfl)⟩
 · rintro a w ⟨c_21, hp, h⟩
   refine h.go ?_
   refine SC.r tk [(4, vi .i64 (-1))] [] [] [] (by kernel_rfl) ?_
   obtain rfl := some_inv' hp
   exact SC.re (js := [.g 0, .g 1, .g 2, .g 3, .g 4, .g 5]) tk (by kernel_rfl)

theorem ok_slices_ContainsFunc_api_Queued_api_Queued_at30 (F : Nat) (s_1 : (List T_api_Queued)) (c_2 : T_api_Queued) (r : Bool × T_api_Queued) (hp : slices_ContainsFunc_api_Queued_api_Queued_at30 F s_1 c_2 = some r) : Spec Try.prog 31 [vs 0, .f 30 [.p 1 0]] [.rd 18 R_T_api_Queued s_1, .blk 38 (C_api_Queued c_2 (.s 2) (.s 3)), .rd 1 R8 c_2.PDU.Payload, .rd 1 R8 c_2.Lower.Bytes] (vb r.1) [.gone, .blk 38 (C_api_Queued (T_api_Queued.mk (T_api_NetPDU.mk r.2.PDU.IV r.2.PDU.NID r.2.PDU.Control r.2.PDU.TTL r.2.PDU.Seq r.2.PDU.Src r.2.PDU.Dst r.2.PDU.Payload) (T_api_Lower.mk r.2.Lower.Control r.2.Lower.Segmented r.2.Lower.App r.2.Lower.Zero r.2.Lower.Index r.2.Lower.Last r.2.Lower.Opcode r.2.Lower.Block r.2.Lower.Friend r.2.Lower.Bytes)) (.s 4) (.s 5)), .gone, .gone, .rd 1 R8 r.2.PDU.Payload, .rd 1 R8 r.2.Lower.Bytes] := by
 refine Spec.enter Try.func31 rfl Try.ntmps31 rfl rfl fun fx => ?_
 refine SC.r tk [(0, vs 0), (1, .f 30 [.p 1 0])] [] [] [] (by kernel_rfl) ?_
 refine SC.seq ?_
 refine SC.reg ?_
 refine SL.sim tk 2 [(5, vs 0), (6, .f 30 [.p 1 0])] [] [] [] (by kernel_rfl) ?_
 obtain ⟨x_3, e_x_3, hp⟩ := bind_inv hp
 refine SL.eff (e_c Try.call58 (ok_slices_IndexFunc_api_Queued_api_Queued_at30 F s_1 c_2 _ e_x_3) [.g 0, .g 1, .g 2, .g 3] [vs 0, .f 30 [.p 1 0]] (vi .i64 x_3.1) (by kernel_rfl) (.inl rfl)) rfl (by kernel_rfl) ?_
 refine SL.sim tk 2 [(4, vb (decide (x_3.1 ≥ 0)))] [] [] [] (by kernel_rfl) ?_
 refine SL.nilThen ?_
 obtain rfl := some_inv' hp
 exact SC.re (js := [.g 0, .g 1, .g 2, .g 3, .g 4, .g 5]) tk (by kernel_rfl)

theorem ok_slices_Insert_api_Queued_api_Queued (F : Nat) (s_1 : (List T_api_Queued)) (i_2 : Int) (v_3 : (List T_api_Queued)) (r : (List T_api_Queued)) (hp : slices_Insert_api_Queued_api_Queued F s_1 i_2 v_3 = some r) : Spec Try.prog 59 [vs 0, vi .i64 i_2, vs 1] [.own 18 38 R_T_api_Queued s_1, .rd 18 R_T_api_Queued v_3] (vs 2) [.gone, .gone, .rd 18 R_T_api_Queued r] := by
 refine Spec.enter Try.func59 rfl Try.ntmps59 rfl rfl fun fx => ?_
 refine SC.r tk [(0, vs 0), (1, vi .i64 i_2), (2, vs 1)] [] [] [] (by kernel_rfl) ?_
 refine SC.seq ?_
 refine SC.reg ?_
 refine SL.sim tk 2 [(0, vs 0), (1, vi .i64 i_2), (2, vs 1), (10, vs 0), (11, vi .i64 i_2)] [] [] [] (by kernel_rfl) ?_
 obtain ⟨l_4, e_l_4, hp⟩ := bind_inv hp
 refine SL.eff (e_subd (sz := 18) (E := 38) (R := R_T_api_Queued) (by_ := 136) (l := s_1) tk rfl rfl rfl rfl e_l_4 (by kernel_rfl)) rfl (by kernel_rfl) ?_
 refine SL.nilThen ?_
 refine SC.r tk [(0, vs 0), (1, vi .i64 i_2), (2, vs 1), (7, vi .i64 (len v_3))] [] [] [] (by kernel_rfl) ?_
 refine SC.seq ?_
 refine SC.r tk [(0, vs 0), (1, vi .i64 i_2), (2, vs 1), (7, vi .i64 (len v_3)), (16, vb ((len v_3) == 0))] [] [] [] (by kernel_rfl) ?_
 refine SC.if' rfl hp (fun hp => ?_) (fun hp => ?_)
 · refine SC.r tk [(6, vs 0)] [] [] [] (by kernel_rfl) ?_
   obtain rfl := some_inv' hp
   exact SC.re (js := [.g 0, .g 1, .z 0]) tk (by kernel_rfl)
 · refine SC.skipThen ?_
   refine SC.r tk [(0, vs 0), (1, vi .i64 i_2), (2, vs 1), (7, vi .i64 (len v_3)), (8, vi .i64 (len s_1))] [] [] [] (by kernel_rfl) ?_
   refine SC.seq ?_
   refine SC.r tk [(0, vs 0), (1, vi .i64 i_2), (2, vs 1), (7, vi .i64 (len v_3)), (8, vi .i64 (len s_1)), (22, vb (i_2 == (len s_1)))] [] [] [] (by kernel_rfl) ?_
   refine SC.if' rfl hp (fun hp => ?_) (fun hp => ?_)
   · refine SC.seq ?_
     refine SC.reg ?_
     refine SL.sim tk 2 [(23, vs 0), (24, vs 1)] [] [] [] (by kernel_rfl) ?_
     obtain ⟨l_5, e_l_5, hp⟩ := bind_inv hp
     refine SL.eff (e_app (i := 0) (l := s_1) (sz := 18) (E := 38) (R := R_T_api_Queued) (by_ := 136) (m := v_3) tk rfl (by kernel_rfl) rfl (.r (by kernel_rfl)) e_l_5 (by kernel_rfl)) rfl (by kernel_rfl) ?_
     refine SL.sim tk 1 [(6, vs 3)] [] [] [] (by kernel_rfl) ?_
     refine SL.nilThen ?_
     obtain rfl := some_inv' hp
     exact SC.re (js := [.g 0, .g 1, .z 3]) tk (by kernel_rfl)
   · cases (show (none : Option ((List T_api_Queued))) = some _ from hp)

theorem ok_friend_with_api_Queued (F : Nat) (l_1 : (List T_api_Queued)) (i_2 : Int) (x_3 : T_api_Queued) (r : (List T_api_Queued)) (hp : friend_with_api_Queued F l_1 i_2 x_3 = some r) : Spec Try.prog 32 [vs 0, vi .i64 i_2, .g (C_api_Queued x_3 (.s 1) (.s 2))] [.rd 18 R_T_api_Queued l_1, .rd 1 R8 x_3.PDU.Payload, .rd 1 R8 x_3.Lower.Bytes] (vs 3) [.gone, .gone, .gone, .rd 18 R_T_api_Queued r] := by
 refine Spec.enter Try.func32 rfl Try.ntmps32 rfl rfl fun fx => ?_
 refine SC.seq ?_
 refine SC.reg ?_
 refine SL.eff (e_box (E := 38) (C_api_Queued x_3 (.s 1) (.s 2)) (by kernel_rfl)) rfl (by kernel_rfl) ?_
 refine SL.sim tk 1 [(0, vs 0), (1, vi .i64 i_2), (5, vp 3 0)] [] [] [] (by kernel_rfl) ?_
 refine SL.nilThen ?_
 refine SC.cut (fun a w => ∃ (l_4 : (List T_api_Queued)), friend_with_api_Queued_j1 F l_4 = some r ∧ A 13 3 fx [(6, vs 3)] [.gone, .gone, .gone, .rd 18 R_T_api_Queued l_4] a w) ?_ ?_
 · refine SC.draw MO [true, true, true, true] (by kernel_rfl) fun kap_5 D_6 => ?_
   refine SD.takes tk D_6 [] kn0 [0, 2, 3] [] [] [I, O, I, I, O, O, O] [(7, vs 0), (9, vi .i64 i_2), (10, .g (C_api_Queued x_3 (.s 1) (.s 2)))] rfl (by kernel_rfl) (by kernel_rfl) (by kernel_rfl) ?_
   obtain ⟨x_87, e_x_87, hp⟩ := bind_inv hp
   obtain ⟨x_407, e_x_407, hp⟩ := bind_inv hp
   refine SD.lay 0 [I, I, I, I, I, I, I] [(6, vs 6)] [.rd 18 R_T_api_Queued l_1, .rd 1 R8 x_3.PDU.Payload, .rd 1 R8 x_3.Lower.Bytes, .blk 38 (C_api_Queued x_3 (.s 1) (.s 2)), .gone, .gone, .rd 18 R_T_api_Queued x_407] ?_ (fun c_6_0 => ?_)
   · refine SD.done (by kernel_rfl) fun a w h => ?_
     exact ⟨x_407, hp, h.at (js := [.g 0, .g 1, .g 2, .g 6]) (by kernel_rfl)⟩
   · refine SD.lay 2 [I, I, I, I, I, O, O] [(8, vs 4), (9, vi .i64 i_2), (11, vs 5)] [.rd 18 R_T_api_Queued l_1, .rd 1 R8 x_3.PDU.Payload, .rd 1 R8 x_3.Lower.Bytes, .blk 38 (C_api_Queued x_3 (.s 1) (.s 2)), .own 18 38 R_T_api_Queued x_87, .own 18 38 R_T_api_Queued [x_3]] ?_ (fun c_6_1 => ?_)
     · refine SD.pre (pre_frz (i := 5) (sz := 18) (E := 38) (R := R_T_api_Queued) (l := [x_3]) (by kernel_rfl)) ?_
       refine SD.all1 (i := 5) (by kernel_rfl) ?_
       refine SW.eff D_6 (i := 5) (bs' := [I, I, I, I, I, I, O]) rfl (.inl rfl) rfl (e_c Try.call59 (ok_slices_Insert_api_Queued_api_Queued F x_87 i_2 [x_3] _ e_x_407) [.g 4, .g 5] [vs 4, vi .i64 i_2, vs 5] (vs 6) (by kernel_rfl) (.inl rfl)) (by kernel_rfl) rfl (by kernel_rfl) ?_
       refine SD.takes tk D_6 [] kn0 [6] [] [] [I, I, I, I, I, I, I] [(6, vs 6)] rfl (by kernel_rfl) (by kernel_rfl) (by kernel_rfl) ?_
       exact SD.vie D_6 [.g 0, .g 1, .g 2, .g 3, .n, .n, .g 6] c_6_0 (by kernel_rfl)
     · refine SD.lay 3 [I, I, I, I, O, O, O] [(8, vs 4), (9, vi .i64 i_2), (10, .g (C_api_Queued x_3 (.s 1) (.s 2)))] [.rd 18 R_T_api_Queued l_1, .rd 1 R8 x_3.PDU.Payload, .rd 1 R8 x_3.Lower.Bytes, .blk 38 (C_api_Queued x_3 (.s 1) (.s 2)), .own 18 38 R_T_api_Queued x_87] ?_ (fun c_6_2 => ?_)
       · refine SD.all1 (i := 4) (by kernel_rfl) ?_
         refine SW.eff D_6 (i := 4) (bs' := [I, I, I, I, I, O, O]) rfl (.inl rfl) rfl (e_lit (sz := 18) (E := 38) (R := R_T_api_Queued) (by_ := 136) tk [(C_api_Queued x_3 (.s 1) (.s 2))] [x_3] (by kernel_rfl) ⟨(clo_T_api_Queued (x := x_3) (Clo.sl (by kernel_rfl)) (Clo.sl (by kernel_rfl))), trivial⟩ rfl (by kernel_rfl) (by kernel_rfl)) (by kernel_rfl) rfl (by kernel_rfl) ?_
         exact SD.vie D_6 [.g 0, .g 1, .g 2, .g 3, .g 4, .g 5] c_6_1 (by kernel_rfl)
       · refine SD.lay 3 [I, O, I, I, I, O, O] [(7, vs 0), (9, vi .i64 i_2), (11, vs 4)] [.rd 18 R_T_api_Queued l_1, .rd 1 R8 x_3.PDU.Payload, .rd 1 R8 x_3.Lower.Bytes, .blk 38 (C_api_Queued x_3 (.s 1) (.s 2)), .own 18 38 R_T_api_Queued [x_3]] ?_ (fun c_6_3 => ?_)
         · refine SD.all1 (i := 1) (by kernel_rfl) ?_
           refine SW.eff D_6 (i := 1) (bs' := [I, I, I, I, I, O, O]) rfl (.inl rfl) rfl (e_c Try.call55 (ok_slices_Clone_api_Queued_api_Queued F l_1 _ e_x_87) [.g 0] [vs 0] (vs 5) (by kernel_rfl) (.inl rfl)) (by kernel_rfl) rfl (by kernel_rfl) ?_
           exact SD.vie D_6 [.g 0, .g 1, .g 2, .g 3, .g 5, .g 4] c_6_1 (by kernel_rfl)
         · refine SD.all2 (i := 1) (j := 4) (by kernel_rfl) ?_ ?_
           · refine SW.eff D_6 (i := 1) (bs' := [I, I, I, I, O, O, O]) rfl (.inl rfl) rfl (e_c Try.call55 (ok_slices_Clone_api_Queued_api_Queued F l_1 _ e_x_87) [.g 0] [vs 0] (vs 4) (by kernel_rfl) (.inl rfl)) (by kernel_rfl) rfl (by kernel_rfl) ?_
             exact SD.vie D_6 [.g 0, .g 1, .g 2, .g 3, .g 4] c_6_2 (by kernel_rfl)
           · refine SW.eff D_6 (i := 4) (bs' := [I, O, I, I, I, O, O]) rfl (.inl rfl) rfl (e_lit (sz := 18) (E := 38) (R := R_T_api_Queued) (by_ := 136) tk [(C_api_Queued x_3 (.s 1) (.s 2))] [x_3] (by kernel_rfl) ⟨(clo_T_api_Queued (x := x_3) (Clo.sl (by kernel_rfl)) (Clo.sl (by kernel_rfl))), trivial⟩ rfl (by kernel_rfl) (by kernel_rfl)) (by kernel_rfl) rfl (by kernel_rfl) ?_
             exact SD.vie D_6 [.g 0, .g 1, .g 2, .g 3, .g 4] c_6_3 (by kernel_rfl)
 · rintro a w ⟨l_4, hp, h⟩
   refine h.go ?_
   obtain rfl := some_inv' hp
   exact SC.re (js := [.g 0, .g 1, .g 2, .g 3]) tk (by kernel_rfl)

theorem ok_slices_Delete_api_Queued_api_Queued (F : Nat) (s_1 : (List T_api_Queued)) (i_2 : Int) (j_3 : Int) (r : (List T_api_Queued)) (hp : slices_Delete_api_Queued_api_Queued F s_1 i_2 j_3 = some r) : Spec Try.prog 56 [vs 0, vi .i64 i_2, vi .i64 j_3] [.own 18 38 R_T_api_Queued s_1] (vs 1) [.gone, .own 18 38 R_T_api_Queued r] := by
 unfold slices_Delete_api_Queued_api_Queued at hp
 split at hp
 · rename_i h
   injection hp with hp
   subst hp
   exact spec_del _ _ _ h.1 h.2.1 h.2.2
 · cases hp

theorem ok_friend_without_api_Queued (F : Nat) (l_1 : (List T_api_Queued)) (i_2 : Int) (r : (List T_api_Queued)) (hp : friend_without_api_Queued F l_1 i_2 = some r) : Spec Try.prog 28 [vs 0, vi .i64 i_2] [.rd 18 R_T_api_Queued l_1] (vs 1) [.gone, .rd 18 R_T_api_Queued r] := by
 refine Spec.enter Try.func28 rfl Try.ntmps28 rfl rfl fun fx => ?_
 refine SC.r tk [(0, vs 0), (1, vi .i64 i_2)] [] [] [] (by kernel_rfl) ?_
 refine SC.seq ?_
 refine SC.reg ?_
 refine SL.sim tk 1 [(1, vi .i64 i_2), (5, vs 0)] [] [] [] (by kernel_rfl) ?_
 obtain ⟨x_3, e_x_3, hp⟩ := bind_inv hp
 refine SL.eff (e_c Try.call55 (ok_slices_Clone_api_Queued_api_Queued F l_1 _ e_x_3) [.g 0] [vs 0] (vs 1) (by kernel_rfl) (.inl rfl)) rfl (by kernel_rfl) ?_
 refine SL.sim tk 3 [(6, vs 1), (7, vi .i64 i_2), (9, vi .i64 (w64 (i_2 + 1)))] [] [] [] (by kernel_rfl) ?_
 obtain ⟨x_4, e_x_4, hp⟩ := bind_inv hp
 refine SL.eff (e_c Try.call56 (ok_slices_Delete_api_Queued_api_Queued F x_3 i_2 (w64 (i_2 + 1)) _ e_x_4) [.g 1] [vs 1, vi .i64 i_2, vi .i64 (w64 (i_2 + 1))] (vs 2) (by kernel_rfl) (.inl rfl)) rfl (by kernel_rfl) ?_
 refine SL.norm (itsN := [.rd 18 R_T_api_Queued l_1, .gone, .own 18 38 R_T_api_Queued x_4]) (by kernel_rfl) ?_
 refine SL.sim tk 1 [(4, vs 2)] [] [] [] (by kernel_rfl) ?_
 refine SL.nilThen ?_
 obtain rfl := some_inv' hp
 exact SC.re (js := [.g 0, .z 2]) tk (by kernel_rfl)

theorem ok_friend_Keep (F : Nat) (f_1 : T_api_Friend) (q_2 : T_api_Queued) (r : T_api_Friend) (hp : friend_Keep F f_1 q_2 = some r) : Spec Try.prog 10 [.g (C_api_Friend f_1 (.s 0) (.s 1)), .g (C_api_Queued q_2 (.s 2) (.s 3))] [.rd 18 R_T_api_Queued f_1.Queue, .rd 1 (RInt .u16) f_1.Subs, .rd 1 R8 q_2.PDU.Payload, .rd 1 R8 q_2.Lower.Bytes] (.g [ci .u16 r.Low, .s 4, .s 5, ci .i64 r.Bit, cb r.Sent, ci .i64 r.Polled, ci .i64 r.Counter, ci .i64 r.Dropped]) [.gone, .gone, .gone, .gone, .rd 18 R_T_api_Queued r.Queue, .rd 1 (RInt .u16) r.Subs] := by
 refine Spec.enter Try.func10 rfl Try.ntmps10 rfl rfl fun fx => ?_
 refine SC.seq ?_
 refine SC.reg ?_
 refine SL.eff (e_box (E := 28) (C_api_Friend f_1 (.s 0) (.s 1)) (by kernel_rfl)) rfl (by kernel_rfl) ?_
 refine SL.eff (e_box (E := 38) (C_api_Queued q_2 (.s 2) (.s 3)) (by kernel_rfl)) rfl (by kernel_rfl) ?_
 refine SL.eff (e_alloc (E := 28) tk (C_api_Friend (T_api_Friend.mk 0 [] [] 0 false 0 0 0) nl nl) (by kernel_rfl)) rfl (by kernel_rfl) ?_
 refine SL.nilThen ?_
 refine SC.seq ?_
 refine SC.reg ?_
 refine SL.sim tk 1 [(2, vp 4 0), (3, vp 5 0), (4, vp 6 0), (7, .g (C_api_Friend f_1 (.s 0) (.s 1)))] [] [] [] (by kernel_rfl) ?_
 obtain ⟨x_3, e_x_3, hp⟩ := bind_inv hp
 refine SL.eff (e_c Try.call25 (ok_friend_apart F f_1 _ e_x_3) [.g 0, .g 1] [.g (C_api_Friend f_1 (.s 0) (.s 1))] (.g (C_api_Friend x_3 (.s 7) (.s 8))) (by kernel_rfl) (.inl rfl)) rfl (by kernel_rfl) ?_
 refine SL.norm (itsN := [.rd 18 R_T_api_Queued f_1.Queue, .rd 1 (RInt .u16) f_1.Subs, .rd 1 R8 q_2.PDU.Payload, .rd 1 R8 q_2.Lower.Bytes, .blk 28 (C_api_Friend f_1 (.s 0) (.s 1)), .blk 38 (C_api_Queued q_2 (.s 2) (.s 3)), .blk 28 (C_api_Friend (T_api_Friend.mk 0 [] [] 0 false 0 0 0) nl nl), .rd 18 R_T_api_Queued x_3.Queue, .rd 1 (RInt .u16) x_3.Subs]) (by kernel_rfl) ?_
 refine SL.sim tk 1 [(2, vp 4 0), (3, vp 5 0), (4, vp 6 0)] [(4, 28, (C_api_Friend x_3 (.s 7) (.s 8)))] [] [] (by kernel_rfl) ?_
 refine SL.nilThen ?_
 refine SC.r tk [(2, vp 4 0), (3, vp 5 0), (4, vp 6 0), (5, .f 30 [.p 5 0])] [] [] [] (by kernel_rfl) ?_
 refine SC.seq ?_
 refine SC.seq ?_
 refine SC.reg ?_
 refine SL.sim tk 4 [(2, vp 4 0), (3, vp 5 0), (4, vp 6 0), (5, .f 30 [.p 5 0]), (13, vb (x_3.Low == 0))] [] [] [] (by kernel_rfl) ?_
 obtain ⟨⟨c_23, z_24⟩, hz, hpr⟩ := bind_inv hp
 replace hpr : friend_Keep_j4 F x_3 c_23 z_24 = some r := hpr
 clear hp
 refine SL.cutAt 5 (fun a w => A 45 4 fx [(2, vp 4 0), (3, vp 7 0), (4, vp 10 0), (18, vb z_24)] [.gone, .gone, .gone, .gone, .blk 28 (C_api_Friend x_3 (.s 5) (.s 6)), .rd 18 R_T_api_Queued x_3.Queue, .rd 1 (RInt .u16) x_3.Subs, .blk 38 (C_api_Queued c_23 (.s 8) (.s 9)), .rd 1 R8 c_23.PDU.Payload, .rd 1 R8 c_23.Lower.Bytes, .blk 28 (C_api_Friend (T_api_Friend.mk 0 [] [] 0 false 0 0 0) nl nl)] a w) ?_ ?_
 · have hp := hz
   rcases Bool.eq_false_or_eq_true ((x_3.Low == 0)) with hg_4 | hg_4
   · replace hp := if_t hp hg_4
     refine SL.no rfl rfl hg_4 rfl ?_
     refine SL.no rfl rfl hg_4 rfl ?_
     refine SL.no rfl rfl hg_4 rfl ?_
     refine SL.no rfl rfl hg_4 rfl ?_
     refine SL.pickt rfl hg_4 rfl rfl ?_
     refine SL.nilJ fun a w h => ?_
     simp only [Option.some.injEq, Prod.mk.injEq] at hp
     obtain ⟨rfl, rfl⟩ := hp
     exact h.at (js := [.g 0, .g 1, .g 2, .g 3, .g 4, .g 7, .g 8, .g 5, .g 2, .g 3, .g 6]) (by kernel_rfl)
   · replace hp := if_f hp hg_4
     refine SL.yes rfl rfl hg_4 ?_
     refine SL.sim tk 1 [(2, vp 4 0), (3, vp 5 0), (4, vp 6 0), (5, .f 30 [.p 5 0]), (13, vb (x_3.Low == 0)), (14, vp 4 1)] [] [] [] (by kernel_rfl) ?_
     refine SL.yes rfl rfl hg_4 ?_
     refine SL.sim tk 1 [(2, vp 4 0), (3, vp 5 0), (4, vp 6 0), (5, .f 30 [.p 5 0]), (13, vb (x_3.Low == 0)), (15, vs 7)] [] [] [] (by kernel_rfl) ?_
     refine SL.yes rfl rfl hg_4 ?_
     refine SL.sim tk 1 [(2, vp 4 0), (3, vp 5 0), (4, vp 6 0), (13, vb (x_3.Low == 0)), (15, vs 7), (16, .f 30 [.p 5 0])] [] [] [] (by kernel_rfl) ?_
     refine SL.yes rfl rfl hg_4 ?_
     obtain ⟨x_914, e_x_914, hp⟩ := bind_inv hp
     refine SL.eff (e_c Try.call31 (ok_slices_ContainsFunc_api_Queued_api_Queued_at30 F x_3.Queue q_2 _ e_x_914) [.g 7, .g 5, .g 2, .g 3] [vs 7, .f 30 [.p 5 0]] (vb x_914.1) (by kernel_rfl) (.inl rfl)) rfl (by kernel_rfl) ?_
     refine SL.pickf rfl hg_4 rfl rfl ?_
     refine SL.nilJ fun a w h => ?_
     simp only [Option.some.injEq, Prod.mk.injEq] at hp
     obtain ⟨rfl, rfl⟩ := hp
     exact h.at (js := [.g 0, .g 1, .g 2, .g 3, .g 4, .g 7, .g 8, .g 5, .g 9, .g 10, .g 6]) (by kernel_rfl)
 · intro a w h
   have hp := hpr; clear hpr hz
   refine h.goL ?_
   refine SL.nilThen ?_
   refine SC.if' rfl hp (fun hp => ?_) (fun hp => ?_)
   · refine SC.r tk [(4, vp 10 0)] [(10, 28, (C_api_Friend x_3 (.s 5) (.s 6)))] [] [] (by kernel_rfl) ?_
     obtain rfl := some_inv' hp
     exact SC.re (js := [.g 0, .g 1, .g 2, .g 3, .g 5, .g 6]) tk (by kernel_rfl)
   · refine SC.skipThen ?_
     refine SC.cut (fun a w => ∃ (l_25 : (List T_api_Queued)), friend_Keep_j1 F x_3 l_25 = some r ∧ A 45 4 fx [(2, vp 4 0), (4, vp 7 0)] [.gone, .gone, .gone, .gone, .blk 28 (C_api_Friend ({ x_3 with Queue := l_25 }) (.s 5) (.s 6)), .rd 18 R_T_api_Queued l_25, .rd 1 (RInt .u16) x_3.Subs, .blk 28 (C_api_Friend (T_api_Friend.mk 0 [] [] 0 false 0 0 0) nl nl)] a w) ?_ ?_
     · refine SC.draw MO [O, O, O, O, O, I, I, I, I, I, I] (by kernel_rfl) fun kap_31 D_32 => ?_
       refine SD.takes tk D_32 [] kn0 [5] [] [] [O, O, O, O, O, I, O, O, O, O] [(2, vp 4 0), (4, vp 10 0), (25, .g (C_api_Queued c_23 (.s 8) (.s 9)))] rfl (by kernel_rfl) (by kernel_rfl) (by kernel_rfl) ?_
       obtain ⟨x_513, e_x_513, hp⟩ := bind_inv hp
       obtain ⟨x_593, e_x_593, hp⟩ := bind_inv hp
       refine SD.lay 0 [I, I, I, I, I, I, I, I, I, I] [(2, vp 4 0), (4, vp 10 0)] [.gone, .gone, .gone, .gone, .blk 28 (C_api_Friend ({ x_3 with Queue := x_593 }) (.s 13) (.s 6)), .rd 18 R_T_api_Queued x_3.Queue, .rd 1 (RInt .u16) x_3.Subs, .blk 38 (C_api_Queued c_23 (.s 8) (.s 9)), .rd 1 R8 c_23.PDU.Payload, .rd 1 R8 c_23.Lower.Bytes, .blk 28 (C_api_Friend (T_api_Friend.mk 0 [] [] 0 false 0 0 0) nl nl), .gone, .gone, .rd 18 R_T_api_Queued x_593] ?_ (fun c_32_0 => ?_)
       · refine SD.done (by kernel_rfl) fun a w h => ?_
         exact ⟨x_593, hp, h.at (js := [.g 0, .g 1, .g 2, .g 3, .g 4, .g 13, .g 6, .g 10]) (by kernel_rfl)⟩
       · refine SD.lay 1 [I, I, I, I, I, I, I, I, I, O] [(2, vp 4 0), (4, vp 10 0), (27, vs 13), (28, vp 4 1)] [.gone, .gone, .gone, .gone, .blk 28 (C_api_Friend x_3 (.s 5) (.s 6)), .rd 18 R_T_api_Queued x_3.Queue, .rd 1 (RInt .u16) x_3.Subs, .blk 38 (C_api_Queued c_23 (.s 8) (.s 9)), .rd 1 R8 c_23.PDU.Payload, .rd 1 R8 c_23.Lower.Bytes, .blk 28 (C_api_Friend (T_api_Friend.mk 0 [] [] 0 false 0 0 0) nl nl), .gone, .gone, .rd 18 R_T_api_Queued x_593] ?_ (fun c_32_1 => ?_)
         · refine SD.all1 (i := 9) (by kernel_rfl) ?_
           refine SW.store D_32 tk (i := 9) (q := 4) (T := 28) (cs := (C_api_Friend ({ x_3 with Queue := x_593 }) (.s 13) (.s 6))) (bs' := [I, I, I, I, I, I, I, I, I, I]) rfl (by kernel_rfl) rfl rfl (by kernel_rfl) ?_
           exact SD.vie D_32 [.g 0, .g 1, .g 2, .g 3, .g 4, .g 5, .g 6, .g 7, .g 8, .g 9, .g 10, .n, .n, .g 13] c_32_0 (by kernel_rfl)
         · refine SD.lay 2 [I, I, I, I, I, I, I, I, O, O] [(2, vp 4 0), (4, vp 10 0), (27, vs 13)] [.gone, .gone, .gone, .gone, .blk 28 (C_api_Friend x_3 (.s 5) (.s 6)), .rd 18 R_T_api_Queued x_3.Queue, .rd 1 (RInt .u16) x_3.Subs, .blk 38 (C_api_Queued c_23 (.s 8) (.s 9)), .rd 1 R8 c_23.PDU.Payload, .rd 1 R8 c_23.Lower.Bytes, .blk 28 (C_api_Friend (T_api_Friend.mk 0 [] [] 0 false 0 0 0) nl nl), .gone, .gone, .rd 18 R_T_api_Queued x_593] ?_ (fun c_32_2 => ?_)
           · refine SD.all1 (i := 8) (by kernel_rfl) ?_
             refine SW.eff D_32 (i := 8) (v := vp 4 1) (bs' := [I, I, I, I, I, I, I, I, I, O]) rfl (.inl rfl) rfl (e_val tk (by kernel_rfl)) (by kernel_rfl) rfl (by kernel_rfl) ?_
             exact SD.vie D_32 [.g 0, .g 1, .g 2, .g 3, .g 4, .g 5, .g 6, .g 7, .g 8, .g 9, .g 10, .n, .n, .g 13] c_32_1 (by kernel_rfl)
           · refine SD.lay 3 [I, I, I, I, I, I, I, O, O, O] [(2, vp 4 0), (4, vp 10 0), (21, vs 5), (24, vi .i64 (len x_3.Queue)), (26, .g (C_api_Queued x_513 (.s 11) (.s 12)))] [.gone, .gone, .gone, .gone, .blk 28 (C_api_Friend x_3 (.s 5) (.s 6)), .rd 18 R_T_api_Queued x_3.Queue, .rd 1 (RInt .u16) x_3.Subs, .blk 38 (C_api_Queued c_23 (.s 8) (.s 9)), .rd 1 R8 c_23.PDU.Payload, .rd 1 R8 c_23.Lower.Bytes, .blk 28 (C_api_Friend (T_api_Friend.mk 0 [] [] 0 false 0 0 0) nl nl), .rd 1 R8 x_513.PDU.Payload, .rd 1 R8 x_513.Lower.Bytes] ?_ (fun c_32_3 => ?_)
             · refine SD.all1 (i := 7) (by kernel_rfl) ?_
               refine SW.eff D_32 (i := 7) (bs' := [I, I, I, I, I, I, I, I, O, O]) rfl (.inl rfl) rfl (e_c Try.call32 (ok_friend_with_api_Queued F x_3.Queue (len x_3.Queue) x_513 _ e_x_593) [.g 5, .g 11, .g 12] [vs 5, vi .i64 (len x_3.Queue), .g (C_api_Queued x_513 (.s 11) (.s 12))] (vs 13) (by kernel_rfl) (.inl rfl)) (by kernel_rfl) rfl (by kernel_rfl) ?_
               exact SD.vie D_32 [.g 0, .g 1, .g 2, .g 3, .g 4, .g 5, .g 6, .g 7, .g 8, .g 9, .g 10, .n, .n, .g 13] c_32_2 (by kernel_rfl)
             · refine SD.lay 4 [I, I, I, I, I, I, O, O, O, O] [(2, vp 4 0), (4, vp 10 0), (21, vs 5), (24, vi .i64 (len x_3.Queue)), (25, .g (C_api_Queued c_23 (.s 8) (.s 9)))] [.gone, .gone, .gone, .gone, .blk 28 (C_api_Friend x_3 (.s 5) (.s 6)), .rd 18 R_T_api_Queued x_3.Queue, .rd 1 (RInt .u16) x_3.Subs, .blk 38 (C_api_Queued c_23 (.s 8) (.s 9)), .rd 1 R8 c_23.PDU.Payload, .rd 1 R8 c_23.Lower.Bytes, .blk 28 (C_api_Friend (T_api_Friend.mk 0 [] [] 0 false 0 0 0) nl nl)] ?_ (fun c_32_4 => ?_)
               · refine SD.all1 (i := 6) (by kernel_rfl) ?_
                 refine SW.eff D_32 (i := 6) (bs' := [I, I, I, I, I, I, I, O, O, O]) rfl (.inl rfl) rfl (e_c Try.call29 (ok_friend_own F c_23 _ e_x_513) [.g 8, .g 9] [.g (C_api_Queued c_23 (.s 8) (.s 9))] (.g (C_api_Queued x_513 (.s 11) (.s 12))) (by kernel_rfl) (.inl rfl)) (by kernel_rfl) rfl (by kernel_rfl) ?_
                 exact SD.vie D_32 [.g 0, .g 1, .g 2, .g 3, .g 4, .g 5, .g 6, .g 7, .g 8, .g 9, .g 10, .g 11, .g 12] c_32_3 (by kernel_rfl)
               · refine SD.lay 5 [I, I, I, O, O, I, I, O, O, O] [(2, vp 4 0), (4, vp 10 0), (21, vs 5), (22, vp 4 1), (26, .g (C_api_Queued x_513 (.s 11) (.s 12)))] [.gone, .gone, .gone, .gone, .blk 28 (C_api_Friend x_3 (.s 5) (.s 6)), .rd 18 R_T_api_Queued x_3.Queue, .rd 1 (RInt .u16) x_3.Subs, .blk 38 (C_api_Queued c_23 (.s 8) (.s 9)), .rd 1 R8 c_23.PDU.Payload, .rd 1 R8 c_23.Lower.Bytes, .blk 28 (C_api_Friend (T_api_Friend.mk 0 [] [] 0 false 0 0 0) nl nl), .rd 1 R8 x_513.PDU.Payload, .rd 1 R8 x_513.Lower.Bytes] ?_ (fun c_32_5 => ?_)
                 · refine SD.all1 (i := 3) (by kernel_rfl) ?_
                   refine SW.eff D_32 (i := 3) (v := vs 5) (bs' := [I, I, I, I, O, I, I, O, O, O]) rfl (.inl rfl) rfl (e_val tk (by kernel_rfl)) (by kernel_rfl) rfl (by kernel_rfl) ?_
                   refine SD.takes tk D_32 [] kn0 [4] [] [] [I, I, I, I, I, I, I, O, O, O] [(2, vp 4 0), (4, vp 10 0), (21, vs 5), (24, vi .i64 (len x_3.Queue)), (26, .g (C_api_Queued x_513 (.s 11) (.s 12)))] rfl (by kernel_rfl) (by kernel_rfl) (by kernel_rfl) ?_
                   exact SD.vie D_32 [.g 0, .g 1, .g 2, .g 3, .g 4, .g 5, .g 6, .g 7, .g 8, .g 9, .g 10, .g 11, .g 12] c_32_3 (by kernel_rfl)
                 · refine SD.lay 6 [I, I, I, O, O, I, O, O, O, O] [(2, vp 4 0), (4, vp 10 0), (21, vs 5), (22, vp 4 1), (25, .g (C_api_Queued c_23 (.s 8) (.s 9)))] [.gone, .gone, .gone, .gone, .blk 28 (C_api_Friend x_3 (.s 5) (.s 6)), .rd 18 R_T_api_Queued x_3.Queue, .rd 1 (RInt .u16) x_3.Subs, .blk 38 (C_api_Queued c_23 (.s 8) (.s 9)), .rd 1 R8 c_23.PDU.Payload, .rd 1 R8 c_23.Lower.Bytes, .blk 28 (C_api_Friend (T_api_Friend.mk 0 [] [] 0 false 0 0 0) nl nl)] ?_ (fun c_32_6 => ?_)
                   · refine SD.all2 (i := 3) (j := 6) (by kernel_rfl) ?_ ?_
                     · refine SW.eff D_32 (i := 3) (v := vs 5) (bs' := [I, I, I, I, O, I, O, O, O, O]) rfl (.inl rfl) rfl (e_val tk (by kernel_rfl)) (by kernel_rfl) rfl (by kernel_rfl) ?_
                       refine SD.takes tk D_32 [] kn0 [4] [] [] [I, I, I, I, I, I, O, O, O, O] [(2, vp 4 0), (4, vp 10 0), (21, vs 5), (24, vi .i64 (len x_3.Queue)), (25, .g (C_api_Queued c_23 (.s 8) (.s 9)))] rfl (by kernel_rfl) (by kernel_rfl) (by kernel_rfl) ?_
                       exact SD.vie D_32 [.g 0, .g 1, .g 2, .g 3, .g 4, .g 5, .g 6, .g 7, .g 8, .g 9, .g 10] c_32_4 (by kernel_rfl)
                     · refine SW.eff D_32 (i := 6) (bs' := [I, I, I, O, O, I, I, O, O, O]) rfl (.inl rfl) rfl (e_c Try.call29 (ok_friend_own F c_23 _ e_x_513) [.g 8, .g 9] [.g (C_api_Queued c_23 (.s 8) (.s 9))] (.g (C_api_Queued x_513 (.s 11) (.s 12))) (by kernel_rfl) (.inl rfl)) (by kernel_rfl) rfl (by kernel_rfl) ?_
                       exact SD.vie D_32 [.g 0, .g 1, .g 2, .g 3, .g 4, .g 5, .g 6, .g 7, .g 8, .g 9, .g 10, .g 11, .g 12] c_32_5 (by kernel_rfl)
                   · refine SD.lay 6 [I, I, O, O, O, I, I, O, O, O] [(2, vp 4 0), (4, vp 10 0), (21, vs 5), (26, .g (C_api_Queued x_513 (.s 11) (.s 12)))] [.gone, .gone, .gone, .gone, .blk 28 (C_api_Friend x_3 (.s 5) (.s 6)), .rd 18 R_T_api_Queued x_3.Queue, .rd 1 (RInt .u16) x_3.Subs, .blk 38 (C_api_Queued c_23 (.s 8) (.s 9)), .rd 1 R8 c_23.PDU.Payload, .rd 1 R8 c_23.Lower.Bytes, .blk 28 (C_api_Friend (T_api_Friend.mk 0 [] [] 0 false 0 0 0) nl nl), .rd 1 R8 x_513.PDU.Payload, .rd 1 R8 x_513.Lower.Bytes] ?_ (fun c_32_7 => ?_)
                     · refine SD.all1 (i := 2) (by kernel_rfl) ?_
                       refine SW.eff D_32 (i := 2) (v := vp 4 1) (bs' := [I, I, I, O, O, I, I, O, O, O]) rfl (.inl rfl) rfl (e_val tk (by kernel_rfl)) (by kernel_rfl) rfl (by kernel_rfl) ?_
                       exact SD.vie D_32 [.g 0, .g 1, .g 2, .g 3, .g 4, .g 5, .g 6, .g 7, .g 8, .g 9, .g 10, .g 11, .g 12] c_32_5 (by kernel_rfl)
                     · refine SD.lay 7 [I, I, O, O, O, I, O, O, O, O] [(2, vp 4 0), (4, vp 10 0), (21, vs 5), (25, .g (C_api_Queued c_23 (.s 8) (.s 9)))] [.gone, .gone, .gone, .gone, .blk 28 (C_api_Friend x_3 (.s 5) (.s 6)), .rd 18 R_T_api_Queued x_3.Queue, .rd 1 (RInt .u16) x_3.Subs, .blk 38 (C_api_Queued c_23 (.s 8) (.s 9)), .rd 1 R8 c_23.PDU.Payload, .rd 1 R8 c_23.Lower.Bytes, .blk 28 (C_api_Friend (T_api_Friend.mk 0 [] [] 0 false 0 0 0) nl nl)] ?_ (fun c_32_8 => ?_)
                       · refine SD.all2 (i := 2) (j := 6) (by kernel_rfl) ?_ ?_
                         · refine SW.eff D_32 (i := 2) (v := vp 4 1) (bs' := [I, I, I, O, O, I, O, O, O, O]) rfl (.inl rfl) rfl (e_val tk (by kernel_rfl)) (by kernel_rfl) rfl (by kernel_rfl) ?_
                           exact SD.vie D_32 [.g 0, .g 1, .g 2, .g 3, .g 4, .g 5, .g 6, .g 7, .g 8, .g 9, .g 10] c_32_6 (by kernel_rfl)
                         · refine SW.eff D_32 (i := 6) (bs' := [I, I, O, O, O, I, I, O, O, O]) rfl (.inl rfl) rfl (e_c Try.call29 (ok_friend_own F c_23 _ e_x_513) [.g 8, .g 9] [.g (C_api_Queued c_23 (.s 8) (.s 9))] (.g (C_api_Queued x_513 (.s 11) (.s 12))) (by kernel_rfl) (.inl rfl)) (by kernel_rfl) rfl (by kernel_rfl) ?_
                           exact SD.vie D_32 [.g 0, .g 1, .g 2, .g 3, .g 4, .g 5, .g 6, .g 7, .g 8, .g 9, .g 10, .g 11, .g 12] c_32_7 (by kernel_rfl)
                       · refine SD.lay 4 [I, O, I, I, I, I, I, O, O, O] [(2, vp 4 0), (4, vp 10 0), (20, vp 4 1), (24, vi .i64 (len x_3.Queue)), (26, .g (C_api_Queued x_513 (.s 11) (.s 12)))] [.gone, .gone, .gone, .gone, .blk 28 (C_api_Friend x_3 (.s 5) (.s 6)), .rd 18 R_T_api_Queued x_3.Queue, .rd 1 (RInt .u16) x_3.Subs, .blk 38 (C_api_Queued c_23 (.s 8) (.s 9)), .rd 1 R8 c_23.PDU.Payload, .rd 1 R8 c_23.Lower.Bytes, .blk 28 (C_api_Friend (T_api_Friend.mk 0 [] [] 0 false 0 0 0) nl nl), .rd 1 R8 x_513.PDU.Payload, .rd 1 R8 x_513.Lower.Bytes] ?_ (fun c_32_9 => ?_)
                         · refine SD.all1 (i := 1) (by kernel_rfl) ?_
                           refine SW.eff D_32 (i := 1) (v := vs 5) (bs' := [I, I, I, I, I, I, I, O, O, O]) rfl (.inl rfl) rfl (e_val tk (by kernel_rfl)) (by kernel_rfl) rfl (by kernel_rfl) ?_
                           exact SD.vie D_32 [.g 0, .g 1, .g 2, .g 3, .g 4, .g 5, .g 6, .g 7, .g 8, .g 9, .g 10, .g 11, .g 12] c_32_3 (by kernel_rfl)
                         · refine SD.lay 5 [I, O, I, I, I, I, O, O, O, O] [(2, vp 4 0), (4, vp 10 0), (20, vp 4 1), (24, vi .i64 (len x_3.Queue)), (25, .g (C_api_Queued c_23 (.s 8) (.s 9)))] [.gone, .gone, .gone, .gone, .blk 28 (C_api_Friend x_3 (.s 5) (.s 6)), .rd 18 R_T_api_Queued x_3.Queue, .rd 1 (RInt .u16) x_3.Subs, .blk 38 (C_api_Queued c_23 (.s 8) (.s 9)), .rd 1 R8 c_23.PDU.Payload, .rd 1 R8 c_23.Lower.Bytes, .blk 28 (C_api_Friend (T_api_Friend.mk 0 [] [] 0 false 0 0 0) nl nl)] ?_ (fun c_32_10 => ?_)
                           · refine SD.all2 (i := 1) (j := 6) (by kernel_rfl) ?_ ?_
                             · refine SW.eff D_32 (i := 1) (v := vs 5) (bs' := [I, I, I, I, I, I, O, O, O, O]) rfl (.inl rfl) rfl (e_val tk (by kernel_rfl)) (by kernel_rfl) rfl (by kernel_rfl) ?_
                               exact SD.vie D_32 [.g 0, .g 1, .g 2, .g 3, .g 4, .g 5, .g 6, .g 7, .g 8, .g 9, .g 10] c_32_4 (by kernel_rfl)
                             · refine SW.eff D_32 (i := 6) (bs' := [I, O, I, I, I, I, I, O, O, O]) rfl (.inl rfl) rfl (e_c Try.call29 (ok_friend_own F c_23 _ e_x_513) [.g 8, .g 9] [.g (C_api_Queued c_23 (.s 8) (.s 9))] (.g (C_api_Queued x_513 (.s 11) (.s 12))) (by kernel_rfl) (.inl rfl)) (by kernel_rfl) rfl (by kernel_rfl) ?_
                               exact SD.vie D_32 [.g 0, .g 1, .g 2, .g 3, .g 4, .g 5, .g 6, .g 7, .g 8, .g 9, .g 10, .g 11, .g 12] c_32_9 (by kernel_rfl)
                           · refine SD.lay 6 [I, O, I, O, O, I, I, O, O, O] [(2, vp 4 0), (4, vp 10 0), (20, vp 4 1), (22, vp 4 1), (26, .g (C_api_Queued x_513 (.s 11) (.s 12)))] [.gone, .gone, .gone, .gone, .blk 28 (C_api_Friend x_3 (.s 5) (.s 6)), .rd 18 R_T_api_Queued x_3.Queue, .rd 1 (RInt .u16) x_3.Subs, .blk 38 (C_api_Queued c_23 (.s 8) (.s 9)), .rd 1 R8 c_23.PDU.Payload, .rd 1 R8 c_23.Lower.Bytes, .blk 28 (C_api_Friend (T_api_Friend.mk 0 [] [] 0 false 0 0 0) nl nl), .rd 1 R8 x_513.PDU.Payload, .rd 1 R8 x_513.Lower.Bytes] ?_ (fun c_32_11 => ?_)
                             · refine SD.all2 (i := 1) (j := 3) (by kernel_rfl) ?_ ?_
                               · refine SW.eff D_32 (i := 1) (v := vs 5) (bs' := [I, I, I, O, O, I, I, O, O, O]) rfl (.inl rfl) rfl (e_val tk (by kernel_rfl)) (by kernel_rfl) rfl (by kernel_rfl) ?_
                                 exact SD.vie D_32 [.g 0, .g 1, .g 2, .g 3, .g 4, .g 5, .g 6, .g 7, .g 8, .g 9, .g 10, .g 11, .g 12] c_32_5 (by kernel_rfl)
                               · refine SW.eff D_32 (i := 3) (v := vs 5) (bs' := [I, O, I, I, O, I, I, O, O, O]) rfl (.inl rfl) rfl (e_val tk (by kernel_rfl)) (by kernel_rfl) rfl (by kernel_rfl) ?_
                                 refine SD.takes tk D_32 [] kn0 [4] [] [] [I, O, I, I, I, I, I, O, O, O] [(2, vp 4 0), (4, vp 10 0), (20, vp 4 1), (24, vi .i64 (len x_3.Queue)), (26, .g (C_api_Queued x_513 (.s 11) (.s 12)))] rfl (by kernel_rfl) (by kernel_rfl) (by kernel_rfl) ?_
                                 exact SD.vie D_32 [.g 0, .g 1, .g 2, .g 3, .g 4, .g 5, .g 6, .g 7, .g 8, .g 9, .g 10, .g 11, .g 12] c_32_9 (by kernel_rfl)
                             · refine SD.lay 7 [I, O, I, O, O, I, O, O, O, O] [(2, vp 4 0), (4, vp 10 0), (20, vp 4 1), (22, vp 4 1), (25, .g (C_api_Queued c_23 (.s 8) (.s 9)))] [.gone, .gone, .gone, .gone, .blk 28 (C_api_Friend x_3 (.s 5) (.s 6)), .rd 18 R_T_api_Queued x_3.Queue, .rd 1 (RInt .u16) x_3.Subs, .blk 38 (C_api_Queued c_23 (.s 8) (.s 9)), .rd 1 R8 c_23.PDU.Payload, .rd 1 R8 c_23.Lower.Bytes, .blk 28 (C_api_Friend (T_api_Friend.mk 0 [] [] 0 false 0 0 0) nl nl)] ?_ (fun c_32_12 => ?_)
                               · refine SD.all3 (i := 1) (j := 3) (k := 6) (by kernel_rfl) ?_ ?_ ?_
                                 · refine SW.eff D_32 (i := 1) (v := vs 5) (bs' := [I, I, I, O, O, I, O, O, O, O]) rfl (.inl rfl) rfl (e_val tk (by kernel_rfl)) (by kernel_rfl) rfl (by kernel_rfl) ?_
                                   exact SD.vie D_32 [.g 0, .g 1, .g 2, .g 3, .g 4, .g 5, .g 6, .g 7, .g 8, .g 9, .g 10] c_32_6 (by kernel_rfl)
                                 · refine SW.eff D_32 (i := 3) (v := vs 5) (bs' := [I, O, I, I, O, I, O, O, O, O]) rfl (.inl rfl) rfl (e_val tk (by kernel_rfl)) (by kernel_rfl) rfl (by kernel_rfl) ?_
                                   refine SD.takes tk D_32 [] kn0 [4] [] [] [I, O, I, I, I, I, O, O, O, O] [(2, vp 4 0), (4, vp 10 0), (20, vp 4 1), (24, vi .i64 (len x_3.Queue)), (25, .g (C_api_Queued c_23 (.s 8) (.s 9)))] rfl (by kernel_rfl) (by kernel_rfl) (by kernel_rfl) ?_
                                   exact SD.vie D_32 [.g 0, .g 1, .g 2, .g 3, .g 4, .g 5, .g 6, .g 7, .g 8, .g 9, .g 10] c_32_10 (by kernel_rfl)
                                 · refine SW.eff D_32 (i := 6) (bs' := [I, O, I, O, O, I, I, O, O, O]) rfl (.inl rfl) rfl (e_c Try.call29 (ok_friend_own F c_23 _ e_x_513) [.g 8, .g 9] [.g (C_api_Queued c_23 (.s 8) (.s 9))] (.g (C_api_Queued x_513 (.s 11) (.s 12))) (by kernel_rfl) (.inl rfl)) (by kernel_rfl) rfl (by kernel_rfl) ?_
                                   exact SD.vie D_32 [.g 0, .g 1, .g 2, .g 3, .g 4, .g 5, .g 6, .g 7, .g 8, .g 9, .g 10, .g 11, .g 12] c_32_11 (by kernel_rfl)
                               · refine SD.lay 7 [I, O, O, O, O, I, I, O, O, O] [(2, vp 4 0), (4, vp 10 0), (20, vp 4 1), (26, .g (C_api_Queued x_513 (.s 11) (.s 12)))] [.gone, .gone, .gone, .gone, .blk 28 (C_api_Friend x_3 (.s 5) (.s 6)), .rd 18 R_T_api_Queued x_3.Queue, .rd 1 (RInt .u16) x_3.Subs, .blk 38 (C_api_Queued c_23 (.s 8) (.s 9)), .rd 1 R8 c_23.PDU.Payload, .rd 1 R8 c_23.Lower.Bytes, .blk 28 (C_api_Friend (T_api_Friend.mk 0 [] [] 0 false 0 0 0) nl nl), .rd 1 R8 x_513.PDU.Payload, .rd 1 R8 x_513.Lower.Bytes] ?_ (fun c_32_13 => ?_)
                                 · refine SD.all2 (i := 1) (j := 2) (by kernel_rfl) ?_ ?_
                                   · refine SW.eff D_32 (i := 1) (v := vs 5) (bs' := [I, I, O, O, O, I, I, O, O, O]) rfl (.inl rfl) rfl (e_val tk (by kernel_rfl)) (by kernel_rfl) rfl (by kernel_rfl) ?_
                                     exact SD.vie D_32 [.g 0, .g 1, .g 2, .g 3, .g 4, .g 5, .g 6, .g 7, .g 8, .g 9, .g 10, .g 11, .g 12] c_32_7 (by kernel_rfl)
                                   · refine SW.eff D_32 (i := 2) (v := vp 4 1) (bs' := [I, O, I, O, O, I, I, O, O, O]) rfl (.inl rfl) rfl (e_val tk (by kernel_rfl)) (by kernel_rfl) rfl (by kernel_rfl) ?_
                                     exact SD.vie D_32 [.g 0, .g 1, .g 2, .g 3, .g 4, .g 5, .g 6, .g 7, .g 8, .g 9, .g 10, .g 11, .g 12] c_32_11 (by kernel_rfl)
                                 · refine SD.lay 8 [I, O, O, O, O, I, O, O, O, O] [(2, vp 4 0), (4, vp 10 0), (20, vp 4 1), (25, .g (C_api_Queued c_23 (.s 8) (.s 9)))] [.gone, .gone, .gone, .gone, .blk 28 (C_api_Friend x_3 (.s 5) (.s 6)), .rd 18 R_T_api_Queued x_3.Queue, .rd 1 (RInt .u16) x_3.Subs, .blk 38 (C_api_Queued c_23 (.s 8) (.s 9)), .rd 1 R8 c_23.PDU.Payload, .rd 1 R8 c_23.Lower.Bytes, .blk 28 (C_api_Friend (T_api_Friend.mk 0 [] [] 0 false 0 0 0) nl nl)] ?_ (fun c_32_14 => ?_)
                                   · refine SD.all3 (i := 1) (j := 2) (k := 6) (by kernel_rfl) ?_ ?_ ?_
                                     · refine SW.eff D_32 (i := 1) (v := vs 5) (bs' := [I, I, O, O, O, I, O, O, O, O]) rfl (.inl rfl) rfl (e_val tk (by kernel_rfl)) (by kernel_rfl) rfl (by kernel_rfl) ?_
                                       exact SD.vie D_32 [.g 0, .g 1, .g 2, .g 3, .g 4, .g 5, .g 6, .g 7, .g 8, .g 9, .g 10] c_32_8 (by kernel_rfl)
                                     · refine SW.eff D_32 (i := 2) (v := vp 4 1) (bs' := [I, O, I, O, O, I, O, O, O, O]) rfl (.inl rfl) rfl (e_val tk (by kernel_rfl)) (by kernel_rfl) rfl (by kernel_rfl) ?_
                                       exact SD.vie D_32 [.g 0, .g 1, .g 2, .g 3, .g 4, .g 5, .g 6, .g 7, .g 8, .g 9, .g 10] c_32_12 (by kernel_rfl)
                                     · refine SW.eff D_32 (i := 6) (bs' := [I, O, O, O, O, I, I, O, O, O]) rfl (.inl rfl) rfl (e_c Try.call29 (ok_friend_own F c_23 _ e_x_513) [.g 8, .g 9] [.g (C_api_Queued c_23 (.s 8) (.s 9))] (.g (C_api_Queued x_513 (.s 11) (.s 12))) (by kernel_rfl) (.inl rfl)) (by kernel_rfl) rfl (by kernel_rfl) ?_
                                       exact SD.vie D_32 [.g 0, .g 1, .g 2, .g 3, .g 4, .g 5, .g 6, .g 7, .g 8, .g 9, .g 10, .g 11, .g 12] c_32_13 (by kernel_rfl)
                                   · refine SD.lay 5 [O, O, I, I, I, I, I, O, O, O] [(2, vp 4 0), (4, vp 10 0), (24, vi .i64 (len x_3.Queue)), (26, .g (C_api_Queued x_513 (.s 11) (.s 12)))] [.gone, .gone, .gone, .gone, .blk 28 (C_api_Friend x_3 (.s 5) (.s 6)), .rd 18 R_T_api_Queued x_3.Queue, .rd 1 (RInt .u16) x_3.Subs, .blk 38 (C_api_Queued c_23 (.s 8) (.s 9)), .rd 1 R8 c_23.PDU.Payload, .rd 1 R8 c_23.Lower.Bytes, .blk 28 (C_api_Friend (T_api_Friend.mk 0 [] [] 0 false 0 0 0) nl nl), .rd 1 R8 x_513.PDU.Payload, .rd 1 R8 x_513.Lower.Bytes] ?_ (fun c_32_15 => ?_)
                                     · refine SD.all1 (i := 0) (by kernel_rfl) ?_
                                       refine SW.eff D_32 (i := 0) (v := vp 4 1) (bs' := [I, O, I, I, I, I, I, O, O, O]) rfl (.inl rfl) rfl (e_val tk (by kernel_rfl)) (by kernel_rfl) rfl (by kernel_rfl) ?_
                                       exact SD.vie D_32 [.g 0, .g 1, .g 2, .g 3, .g 4, .g 5, .g 6, .g 7, .g 8, .g 9, .g 10, .g 11, .g 12] c_32_9 (by kernel_rfl)
                                     · refine SD.lay 6 [O, O, I, I, I, I, O, O, O, O] [(2, vp 4 0), (4, vp 10 0), (24, vi .i64 (len x_3.Queue)), (25, .g (C_api_Queued c_23 (.s 8) (.s 9)))] [.gone, .gone, .gone, .gone, .blk 28 (C_api_Friend x_3 (.s 5) (.s 6)), .rd 18 R_T_api_Queued x_3.Queue, .rd 1 (RInt .u16) x_3.Subs, .blk 38 (C_api_Queued c_23 (.s 8) (.s 9)), .rd 1 R8 c_23.PDU.Payload, .rd 1 R8 c_23.Lower.Bytes, .blk 28 (C_api_Friend (T_api_Friend.mk 0 [] [] 0 false 0 0 0) nl nl)] ?_ (fun c_32_16 => ?_)
                                       · refine SD.all2 (i := 0) (j := 6) (by kernel_rfl) ?_ ?_
                                         · refine SW.eff D_32 (i := 0) (v := vp 4 1) (bs' := [I, O, I, I, I, I, O, O, O, O]) rfl (.inl rfl) rfl (e_val tk (by kernel_rfl)) (by kernel_rfl) rfl (by kernel_rfl) ?_
                                           exact SD.vie D_32 [.g 0, .g 1, .g 2, .g 3, .g 4, .g 5, .g 6, .g 7, .g 8, .g 9, .g 10] c_32_10 (by kernel_rfl)
                                         · refine SW.eff D_32 (i := 6) (bs' := [O, O, I, I, I, I, I, O, O, O]) rfl (.inl rfl) rfl (e_c Try.call29 (ok_friend_own F c_23 _ e_x_513) [.g 8, .g 9] [.g (C_api_Queued c_23 (.s 8) (.s 9))] (.g (C_api_Queued x_513 (.s 11) (.s 12))) (by kernel_rfl) (.inl rfl)) (by kernel_rfl) rfl (by kernel_rfl) ?_
                                           exact SD.vie D_32 [.g 0, .g 1, .g 2, .g 3, .g 4, .g 5, .g 6, .g 7, .g 8, .g 9, .g 10, .g 11, .g 12] c_32_15 (by kernel_rfl)
                                       · refine SD.lay 7 [O, O, I, O, O, I, I, O, O, O] [(2, vp 4 0), (4, vp 10 0), (22, vp 4 1), (26, .g (C_api_Queued x_513 (.s 11) (.s 12)))] [.gone, .gone, .gone, .gone, .blk 28 (C_api_Friend x_3 (.s 5) (.s 6)), .rd 18 R_T_api_Queued x_3.Queue, .rd 1 (RInt .u16) x_3.Subs, .blk 38 (C_api_Queued c_23 (.s 8) (.s 9)), .rd 1 R8 c_23.PDU.Payload, .rd 1 R8 c_23.Lower.Bytes, .blk 28 (C_api_Friend (T_api_Friend.mk 0 [] [] 0 false 0 0 0) nl nl), .rd 1 R8 x_513.PDU.Payload, .rd 1 R8 x_513.Lower.Bytes] ?_ (fun c_32_17 => ?_)
                                         · refine SD.all2 (i := 0) (j := 3) (by kernel_rfl) ?_ ?_
                                           · refine SW.eff D_32 (i := 0) (v := vp 4 1) (bs' := [I, O, I, O, O, I, I, O, O, O]) rfl (.inl rfl) rfl (e_val tk (by kernel_rfl)) (by kernel_rfl) rfl (by kernel_rfl) ?_
                                             exact SD.vie D_32 [.g 0, .g 1, .g 2, .g 3, .g 4, .g 5, .g 6, .g 7, .g 8, .g 9, .g 10, .g 11, .g 12] c_32_11 (by kernel_rfl)
                                           · refine SW.eff D_32 (i := 3) (v := vs 5) (bs' := [O, O, I, I, O, I, I, O, O, O]) rfl (.inl rfl) rfl (e_val tk (by kernel_rfl)) (by kernel_rfl) rfl (by kernel_rfl) ?_
                                             refine SD.takes tk D_32 [] kn0 [4] [] [] [O, O, I, I, I, I, I, O, O, O] [(2, vp 4 0), (4, vp 10 0), (24, vi .i64 (len x_3.Queue)), (26, .g (C_api_Queued x_513 (.s 11) (.s 12)))] rfl (by kernel_rfl) (by kernel_rfl) (by kernel_rfl) ?_
                                             exact SD.vie D_32 [.g 0, .g 1, .g 2, .g 3, .g 4, .g 5, .g 6, .g 7, .g 8, .g 9, .g 10, .g 11, .g 12] c_32_15 (by kernel_rfl)
                                         · refine SD.lay 8 [O, O, I, O, O, I, O, O, O, O] [(2, vp 4 0), (4, vp 10 0), (22, vp 4 1), (25, .g (C_api_Queued c_23 (.s 8) (.s 9)))] [.gone, .gone, .gone, .gone, .blk 28 (C_api_Friend x_3 (.s 5) (.s 6)), .rd 18 R_T_api_Queued x_3.Queue, .rd 1 (RInt .u16) x_3.Subs, .blk 38 (C_api_Queued c_23 (.s 8) (.s 9)), .rd 1 R8 c_23.PDU.Payload, .rd 1 R8 c_23.Lower.Bytes, .blk 28 (C_api_Friend (T_api_Friend.mk 0 [] [] 0 false 0 0 0) nl nl)] ?_ (fun c_32_18 => ?_)
                                           · refine SD.all3 (i := 0) (j := 3) (k := 6) (by kernel_rfl) ?_ ?_ ?_
                                             · refine SW.eff D_32 (i := 0) (v := vp 4 1) (bs' := [I, O, I, O, O, I, O, O, O, O]) rfl (.inl rfl) rfl (e_val tk (by kernel_rfl)) (by kernel_rfl) rfl (by kernel_rfl) ?_
                                               exact SD.vie D_32 [.g 0, .g 1, .g 2, .g 3, .g 4, .g 5, .g 6, .g 7, .g 8, .g 9, .g 10] c_32_12 (by kernel_rfl)
                                             · refine SW.eff D_32 (i := 3) (v := vs 5) (bs' := [O, O, I, I, O, I, O, O, O, O]) rfl (.inl rfl) rfl (e_val tk (by kernel_rfl)) (by kernel_rfl) rfl (by kernel_rfl) ?_
                                               refine SD.takes tk D_32 [] kn0 [4] [] [] [O, O, I, I, I, I, O, O, O, O] [(2, vp 4 0), (4, vp 10 0), (24, vi .i64 (len x_3.Queue)), (25, .g (C_api_Queued c_23 (.s 8) (.s 9)))] rfl (by kernel_rfl) (by kernel_rfl) (by kernel_rfl) ?_
                                               exact SD.vie D_32 [.g 0, .g 1, .g 2, .g 3, .g 4, .g 5, .g 6, .g 7, .g 8, .g 9, .g 10] c_32_16 (by kernel_rfl)
                                             · refine SW.eff D_32 (i := 6) (bs' := [O, O, I, O, O, I, I, O, O, O]) rfl (.inl rfl) rfl (e_c Try.call29 (ok_friend_own F c_23 _ e_x_513) [.g 8, .g 9] [.g (C_api_Queued c_23 (.s 8) (.s 9))] (.g (C_api_Queued x_513 (.s 11) (.s 12))) (by kernel_rfl) (.inl rfl)) (by kernel_rfl) rfl (by kernel_rfl) ?_
                                               exact SD.vie D_32 [.g 0, .g 1, .g 2, .g 3, .g 4, .g 5, .g 6, .g 7, .g 8, .g 9, .g 10, .g 11, .g 12] c_32_17 (by kernel_rfl)
                                           · refine SD.lay 8 [O, O, O, O, O, I, I, O, O, O] [(2, vp 4 0), (4, vp 10 0), (26, .g (C_api_Queued x_513 (.s 11) (.s 12)))] [.gone, .gone, .gone, .gone, .blk 28 (C_api_Friend x_3 (.s 5) (.s 6)), .rd 18 R_T_api_Queued x_3.Queue, .rd 1 (RInt .u16) x_3.Subs, .blk 38 (C_api_Queued c_23 (.s 8) (.s 9)), .rd 1 R8 c_23.PDU.Payload, .rd 1 R8 c_23.Lower.Bytes, .blk 28 (C_api_Friend (T_api_Friend.mk 0 [] [] 0 false 0 0 0) nl nl), .rd 1 R8 x_513.PDU.Payload, .rd 1 R8 x_513.Lower.Bytes] ?_ (fun c_32_19 => ?_)
                                             · refine SD.all2 (i := 0) (j := 2) (by kernel_rfl) ?_ ?_
                                               · refine SW.eff D_32 (i := 0) (v := vp 4 1) (bs' := [I, O, O, O, O, I, I, O, O, O]) rfl (.inl rfl) rfl (e_val tk (by kernel_rfl)) (by kernel_rfl) rfl (by kernel_rfl) ?_
                                                 exact SD.vie D_32 [.g 0, .g 1, .g 2, .g 3, .g 4, .g 5, .g 6, .g 7, .g 8, .g 9, .g 10, .g 11, .g 12] c_32_13 (by kernel_rfl)
                                               · refine SW.eff D_32 (i := 2) (v := vp 4 1) (bs' := [O, O, I, O, O, I, I, O, O, O]) rfl (.inl rfl) rfl (e_val tk (by kernel_rfl)) (by kernel_rfl) rfl (by kernel_rfl) ?_
                                                 exact SD.vie D_32 [.g 0, .g 1, .g 2, .g 3, .g 4, .g 5, .g 6, .g 7, .g 8, .g 9, .g 10, .g 11, .g 12] c_32_17 (by kernel_rfl)
                                             · refine SD.all3 (i := 0) (j := 2) (k := 6) (by kernel_rfl) ?_ ?_ ?_
                                               · refine SW.eff D_32 (i := 0) (v := vp 4 1) (bs' := [I, O, O, O, O, I, O, O, O, O]) rfl (.inl rfl) rfl (e_val tk (by kernel_rfl)) (by kernel_rfl) rfl (by kernel_rfl) ?_
                                                 exact SD.vie D_32 [.g 0, .g 1, .g 2, .g 3, .g 4, .g 5, .g 6, .g 7, .g 8, .g 9, .g 10] c_32_14 (by kernel_rfl)
                                               · refine SW.eff D_32 (i := 2) (v := vp 4 1) (bs' := [O, O, I, O, O, I, O, O, O, O]) rfl (.inl rfl) rfl (e_val tk (by kernel_rfl)) (by kernel_rfl) rfl (by kernel_rfl) ?_
                                                 exact SD.vie D_32 [.g 0, .g 1, .g 2, .g 3, .g 4, .g 5, .g 6, .g 7, .g 8, .g 9, .g 10] c_32_18 (by kernel_rfl)
                                               · refine SW.eff D_32 (i := 6) (bs' := [O, O, O, O, O, I, I, O, O, O]) rfl (.inl rfl) rfl (e_c Try.call29 (ok_friend_own F c_23 _ e_x_513) [.g 8, .g 9] [.g (C_api_Queued c_23 (.s 8) (.s 9))] (.g (C_api_Queued x_513 (.s 11) (.s 12))) (by kernel_rfl) (.inl rfl)) (by kernel_rfl) rfl (by kernel_rfl) ?_
                                                 exact SD.vie D_32 [.g 0, .g 1, .g 2, .g 3, .g 4, .g 5, .g 6, .g 7, .g 8, .g 9, .g 10, .g 11, .g 12] c_32_19 (by kernel_rfl)
     · rintro a w ⟨l_25, hp, h⟩
       refine h.go ?_
       refine SC.cut (fun a w => ∃ (c_28 : T_api_Friend), friend_Keep_j2 F x_3 c_28 = some r ∧ A 45 4 fx [(2, vp 4 0), (4, vp 7 0)] [.gone, .gone, .gone, .gone, .blk 28 (C_api_Friend ({ x_3 with Queue := c_28.Queue, Dropped := c_28.Dropped }) (.s 5) (.s 6)), .rd 18 R_T_api_Queued c_28.Queue, .rd 1 (RInt .u16) x_3.Subs, .blk 28 (C_api_Friend (T_api_Friend.mk 0 [] [] 0 false 0 0 0) nl nl)] a w) ?_ ?_
       · refine SC.r tk [(2, vp 4 0), (4, vp 7 0), (32, vb (decide ((len l_25) > 16)))] [] [] [] (by kernel_rfl) ?_
         refine SC.if' rfl hp (fun hp => ?_) (fun hp => ?_)
         · refine SC.r tk [(2, vp 4 0), (4, vp 7 0), (6, vi .i64 0)] [] [] [] (by kernel_rfl) ?_
           refine SC.cut (fun a w => ∃ (x_29 : Int), friend_Keep_j3 F x_3 l_25 x_29 = some r ∧ A 45 4 fx [(2, vp 4 0), (4, vp 7 0), (6, vi .i64 x_29)] [.gone, .gone, .gone, .gone, .blk 28 (C_api_Friend ({ x_3 with Queue := l_25 }) (.s 5) (.s 6)), .rd 18 R_T_api_Queued l_25, .rd 1 (RInt .u16) x_3.Subs, .blk 28 (C_api_Friend (T_api_Friend.mk 0 [] [] 0 false 0 0 0) nl nl)] a w) ?_ ?_
           · refine SC.r tk [(2, vp 4 0), (4, vp 7 0), (6, vi .i64 0), (34, vb x_3.Sent)] [] [] [] (by kernel_rfl) ?_
             refine SC.if' rfl hp (fun hp => ?_) (fun hp => ?_)
             · refine SC.reg ?_
               refine SL.sim tk 1 [(2, vp 4 0), (4, vp 7 0), (6, vi .i64 1)] [] [] [] (by kernel_rfl) ?_
               refine SL.nilJ fun a w h => ?_
               exact ⟨1, hp, h.at (js := [.g 0, .g 1, .g 2, .g 3, .g 4, .g 5, .g 6, .g 7]) (by kernel_rfl)⟩
             · refine SC.skipJ fun a w h => ?_
               exact ⟨0, hp, h.at (js := [.g 0, .g 1, .g 2, .g 3, .g 4, .g 5, .g 6, .g 7]) (by kernel_rfl)⟩
           · rintro a w ⟨x_29, hp, h⟩
             refine h.go ?_
             refine SC.seq ?_
             refine SC.reg ?_
             refine SL.sim tk 3 [(2, vp 4 0), (4, vp 7 0), (36, vs 5), (37, vi .i64 x_29)] [] [] [] (by kernel_rfl) ?_
             obtain ⟨x_30, e_x_30, hp⟩ := bind_inv hp
             refine SL.eff (e_c Try.call28 (ok_friend_without_api_Queued F l_25 x_29 _ e_x_30) [.g 5] [vs 5, vi .i64 x_29] (vs 8) (by kernel_rfl) (.inl rfl)) rfl (by kernel_rfl) ?_
             refine SL.sim tk 2 [(2, vp 4 0), (4, vp 7 0)] [(4, 28, (C_api_Friend ({ x_3 with Queue := x_30 }) (.s 8) (.s 6)))] [] [] (by kernel_rfl) ?_
             refine SL.nilThen ?_
             refine SC.reg ?_
             refine SL.sim tk 5 [(2, vp 4 0), (4, vp 7 0)] [(4, 28, (C_api_Friend ({ x_3 with Queue := x_30, Dropped := w64 (x_3.Dropped + 1) }) (.s 8) (.s 6)))] [] [] (by kernel_rfl) ?_
             refine SL.nilJ fun a w h => ?_
             exact ⟨{ x_3 with Queue := x_30, Dropped := w64 (x_3.Dropped + 1) }, hp, h.at (js := [.g 0, .g 1, .g 2, .g 3, .g 4, .g 8, .g 6, .g 7]) (by kernel_rfl)⟩
         · refine SC.skipJ fun a w h => ?_
           exact ⟨{ x_3 with Queue := l_25 }, hp, h.at (js := [.g 0, .g 1, .g 2, .g 3, .g 4, .g 5, .g 6, .g 7]) (by kernel_rfl)⟩
       · rintro a w ⟨c_28, hp, h⟩
         refine h.go ?_
         refine SC.r tk [(4, vp 7 0)] [(7, 28, (C_api_Friend ({ x_3 with Queue := c_28.Queue, Dropped := c_28.Dropped }) (.s 5) (.s 6)))] [] [] (by kernel_rfl) ?_
         obtain rfl := some_inv' hp
         exact SC.re (js := [.g 0, .g 1, .g 2, .g 3, .g 5, .g 6]) tk (by kernel_rfl)

theorem ok_friend_Poll (F : Nat) (f_1 : T_api_Friend) (bit_2 : Int) (now_3 : Int) (r : T_api_Friend × (List T_api_Queued)) (hp : friend_Poll F f_1 bit_2 now_3 = some r) : Spec Try.prog 9 [.g (C_api_Friend f_1 (.s 0) (.s 1)), vi .i64 bit_2, vi .i64 now_3] [.rd 18 R_T_api_Queued f_1.Queue, .rd 1 (RInt .u16) f_1.Subs] (.u [.inr [ci .u16 r.1.Low, .s 2, .s 3, ci .i64 r.1.Bit, cb r.1.Sent, ci .i64 r.1.Polled, ci .i64 r.1.Counter, ci .i64 r.1.Dropped], .inl (.s 4)]) [.gone, .gone, .rd 18 R_T_api_Queued r.1.Queue, .rd 1 (RInt .u16) r.1.Subs, .rd 18 R_T_api_Queued r.2] := by
 refine Spec.enter Try.func9 rfl Try.ntmps9 rfl rfl fun fx => ?_
 refine SC.seq ?_
 refine SC.reg ?_
 refine SL.eff (e_box (E := 28) (C_api_Friend f_1 (.s 0) (.s 1)) (by kernel_rfl)) rfl (by kernel_rfl) ?_
 refine SL.eff (e_alloc (E := 28) tk (C_api_Friend (T_api_Friend.mk 0 [] [] 0 false 0 0 0) nl nl) (by kernel_rfl)) rfl (by kernel_rfl) ?_
 refine SL.sim tk 1 [(1, vi .i64 bit_2), (2, vi .i64 now_3), (3, vp 2 0), (6, vp 3 0)] [] [] [] (by kernel_rfl) ?_
 refine SL.nilThen ?_
 refine SC.seq ?_
 refine SC.reg ?_
 refine SL.sim tk 1 [(1, vi .i64 bit_2), (2, vi .i64 now_3), (3, vp 2 0), (6, vp 3 0), (8, .g (C_api_Friend f_1 (.s 0) (.s 1)))] [] [] [] (by kernel_rfl) ?_
 obtain ⟨x_4, e_x_4, hp⟩ := bind_inv hp
 refine SL.eff (e_c Try.call25 (ok_friend_apart F f_1 _ e_x_4) [.g 0, .g 1] [.g (C_api_Friend f_1 (.s 0) (.s 1))] (.g (C_api_Friend x_4 (.s 4) (.s 5))) (by kernel_rfl) (.inl rfl)) rfl (by kernel_rfl) ?_
 refine SL.norm (itsN := [.rd 18 R_T_api_Queued f_1.Queue, .rd 1 (RInt .u16) f_1.Subs, .blk 28 (C_api_Friend f_1 (.s 0) (.s 1)), .blk 28 (C_api_Friend (T_api_Friend.mk 0 [] [] 0 false 0 0 0) nl nl), .rd 18 R_T_api_Queued x_4.Queue, .rd 1 (RInt .u16) x_4.Subs]) (by kernel_rfl) ?_
 refine SL.sim tk 1 [(1, vi .i64 bit_2), (2, vi .i64 now_3), (3, vp 2 0), (6, vp 3 0)] [(2, 28, (C_api_Friend x_4 (.s 4) (.s 5)))] [] [] (by kernel_rfl) ?_
 refine SL.nilThen ?_
 refine SC.seq ?_
 refine SC.r tk [(1, vi .i64 bit_2), (2, vi .i64 now_3), (3, vp 2 0), (6, vp 3 0), (20, vb ((x_4.Low == 0) || ((bit_2 != 0) && (bit_2 != 1))))] [] [] [] (by kernel_rfl) ?_
 refine SC.if' rfl hp (fun hp => ?_) (fun hp => ?_)
 · refine SC.r tk [(6, vp 3 0), (7, vn)] [(3, 28, (C_api_Friend x_4 (.s 4) (.s 5)))] [] [] (by kernel_rfl) ?_
   obtain rfl := some_inv' hp
   exact SC.re (js := [.g 0, .g 1, .g 4, .g 5, .n]) tk (by kernel_rfl)
 · refine SC.skipThen ?_
   refine SC.cut (fun a w => ∃ (l_5 : (List T_api_Queued)), friend_Poll_j1 F bit_2 now_3 x_4 l_5 = some r ∧ A 60 2 fx [(1, vi .i64 bit_2), (2, vi .i64 now_3), (3, vp 2 0), (6, vp 5 0)] [.gone, .gone, .blk 28 (C_api_Friend ({ x_4 with Queue := l_5 }) (.s 3) (.s 4)), .rd 18 R_T_api_Queued l_5, .rd 1 (RInt .u16) x_4.Subs, .blk 28 (C_api_Friend (T_api_Friend.mk 0 [] [] 0 false 0 0 0) nl nl)] a w) ?_ ?_
   · refine SC.r tk [(1, vi .i64 bit_2), (2, vi .i64 now_3), (3, vp 2 0), (6, vp 3 0), (35, vb ((x_4.Sent && (bit_2 != x_4.Bit)) && (decide ((len x_4.Queue) > 0))))] [] [] [] (by kernel_rfl) ?_
     refine SC.if' rfl hp (fun hp => ?_) (fun hp => ?_)
     · refine SC.reg ?_
       refine SL.sim tk 2 [(1, vi .i64 bit_2), (2, vi .i64 now_3), (3, vp 2 0), (6, vp 3 0), (37, vs 4)] [] [] [] (by kernel_rfl) ?_
       obtain ⟨x_811, e_x_811, hp⟩ := bind_inv hp
       refine SL.eff (e_c Try.call28 (ok_friend_without_api_Queued F x_4.Queue 0 _ e_x_811) [.g 4] [vs 4, vi .i64 0] (vs 6) (by kernel_rfl) (.inl rfl)) rfl (by kernel_rfl) ?_
       refine SL.sim tk 2 [(1, vi .i64 bit_2), (2, vi .i64 now_3), (3, vp 2 0), (6, vp 3 0)] [(2, 28, (C_api_Friend ({ x_4 with Queue := x_811 }) (.s 6) (.s 5)))] [] [] (by kernel_rfl) ?_
       refine SL.nilJ fun a w h => ?_
       exact ⟨x_811, hp, h.at (js := [.g 0, .g 1, .g 2, .g 6, .g 5, .g 3]) (by kernel_rfl)⟩
     · refine SC.skipJ fun a w h => ?_
       exact ⟨x_4.Queue, hp, h.at (js := [.g 0, .g 1, .g 2, .g 4, .g 5, .g 3]) (by kernel_rfl)⟩
   · rintro a w ⟨l_5, hp, h⟩
     refine h.go ?_
     refine SC.r tk [(3, vp 2 0), (6, vp 5 0)] [(2, 28, (C_api_Friend ({ x_4 with Queue := l_5, Bit := bit_2, Sent := decide ((len l_5) > 0), Polled := now_3 }) (.s 3) (.s 4)))] [] [] (by kernel_rfl) ?_
     refine SC.seq ?_
     refine SC.r tk [(3, vp 2 0), (6, vp 5 0), (51, vb (!(decide ((len l_5) > 0))))] [] [] [] (by kernel_rfl) ?_
     refine SC.if' rfl hp (fun hp => ?_) (fun hp => ?_)
     · refine SC.r tk [(6, vp 5 0), (7, vn)] [(5, 28, (C_api_Friend ({ x_4 with Queue := l_5, Bit := bit_2, Sent := decide ((len l_5) > 0), Polled := now_3 }) (.s 3) (.s 4)))] [] [] (by kernel_rfl) ?_
       obtain rfl := some_inv' hp
       exact SC.re (js := [.g 0, .g 1, .g 3, .g 4, .n]) tk (by kernel_rfl)
     · refine SC.skipThen ?_
       refine SC.cut (fun a w => ∃ (l_6 : (List T_api_Queued)), friend_Poll_j2 F bit_2 now_3 x_4 l_5 l_6 = some r ∧ A 60 2 fx [(6, vp 2 0), (7, vs 5)] [.gone, .gone, .blk 28 (C_api_Friend ({ x_4 with Queue := l_5, Bit := bit_2, Sent := decide ((len l_5) > 0), Polled := now_3 }) (.s 3) (.s 4)), .rd 18 R_T_api_Queued l_5, .rd 1 (RInt .u16) x_4.Subs, .own 18 38 R_T_api_Queued l_6] a w) ?_ ?_
       · obtain ⟨x_7, e_x_7, hp⟩ := bind_inv hp
         refine SC.pre (pre_ix (i := 3) (iv := 0) (sz := 18) (R := R_T_api_Queued) (l := l_5) (by kernel_rfl) rfl e_x_7) ?_
         refine SC.draw MO [O, O, I, I, I, O, I, I, I] (by kernel_rfl) fun kap_8 D_9 => ?_
         refine SD.takes tk D_9 [] kn0 [0, 1, 2, 3, 4] [.el 6] [0] [I, I, I, I, I, O, O, O, O] [(6, vp 5 0), (53, .g (C_api_Friend ({ x_4 with Queue := l_5, Bit := bit_2, Sent := decide ((len l_5) > 0), Polled := now_3 }) (.s 3) (.s 4))), (57, .g (C_api_Queued x_7 (.s 7) (.s 8)))] rfl (by kernel_rfl) (by kernel_rfl) (by kernel_rfl) ?_
         obtain ⟨x_10, e_x_10, hp⟩ := bind_inv hp
         refine SD.all1 (i := 5) (by kernel_rfl) ?_
         refine SW.eff D_9 (i := 5) (bs' := [I, I, I, I, I, I, O, O, O]) rfl (.inl rfl) rfl (e_c Try.call29 (ok_friend_own F x_7 _ e_x_10) [.g 7, .g 8] [.g (C_api_Queued x_7 (.s 7) (.s 8))] (.g (C_api_Queued x_10 (.s 9) (.s 10))) (by kernel_rfl) (.inl rfl)) (by kernel_rfl) rfl (by kernel_rfl) ?_
         refine SD.lay 0 [I, I, I, I, I, I, I, I, I] [(6, vp 5 0), (7, vs 11)] [.gone, .gone, .blk 28 (C_api_Friend ({ x_4 with Queue := l_5, Bit := bit_2, Sent := decide ((len l_5) > 0), Polled := now_3 }) (.s 3) (.s 4)), .rd 18 R_T_api_Queued l_5, .rd 1 (RInt .u16) x_4.Subs, .blk 28 (C_api_Friend ({ x_4 with Queue := l_5, Bit := bit_2, Sent := decide ((len l_5) > 0), Polled := now_3 }) (.s 3) (.s 4)), .elt (some (3, 0)) false (C_api_Queued x_7 (.s 7) (.s 8)), .rd 1 R8 x_7.PDU.Payload, .rd 1 R8 x_7.Lower.Bytes, .gone, .gone, .own 18 38 R_T_api_Queued [x_10]] ?_ (fun c_10_0 => ?_)
         · refine SD.done (by kernel_rfl) fun a w h => ?_
           exact ⟨[x_10], hp, h.at (js := [.g 0, .g 1, .g 5, .g 3, .g 4, .g 11]) (by kernel_rfl)⟩
         · refine SD.lay 2 [I, I, I, I, I, I, I, O, O] [(6, vp 5 0), (53, .g (C_api_Friend ({ x_4 with Queue := l_5, Bit := bit_2, Sent := decide ((len l_5) > 0), Polled := now_3 }) (.s 3) (.s 4))), (59, vs 11)] [.gone, .gone, .blk 28 (C_api_Friend ({ x_4 with Queue := l_5, Bit := bit_2, Sent := decide ((len l_5) > 0), Polled := now_3 }) (.s 3) (.s 4)), .rd 18 R_T_api_Queued l_5, .rd 1 (RInt .u16) x_4.Subs, .blk 28 (C_api_Friend (T_api_Friend.mk 0 [] [] 0 false 0 0 0) nl nl), .elt (some (3, 0)) false (C_api_Queued x_7 (.s 7) (.s 8)), .rd 1 R8 x_7.PDU.Payload, .rd 1 R8 x_7.Lower.Bytes, .gone, .gone, .own 18 38 R_T_api_Queued [x_10]] ?_ (fun c_10_1 => ?_)
           · refine SD.all1 (i := 7) (by kernel_rfl) ?_
             refine SW.store D_9 tk (i := 7) (q := 5) (T := 28) (cs := (C_api_Friend ({ x_4 with Queue := l_5, Bit := bit_2, Sent := decide ((len l_5) > 0), Polled := now_3 }) (.s 3) (.s 4))) (bs' := [I, I, I, I, I, I, I, I, O]) rfl (by kernel_rfl) rfl rfl (by kernel_rfl) ?_
             refine SD.takes tk D_9 [] kn0 [8] [] [] [I, I, I, I, I, I, I, I, I] [(6, vp 5 0), (7, vs 11)] rfl (by kernel_rfl) (by kernel_rfl) (by kernel_rfl) ?_
             exact SD.vie D_9 [.g 0, .g 1, .g 2, .g 3, .g 4, .g 5, .g 6, .g 7, .g 8, .n, .n, .g 11] c_10_0 (by kernel_rfl)
           · refine SD.lay 2 [I, I, I, I, I, I, O, I, O] [(6, vp 5 0), (58, .g (C_api_Queued x_10 (.s 9) (.s 10)))] [.gone, .gone, .blk 28 (C_api_Friend ({ x_4 with Queue := l_5, Bit := bit_2, Sent := decide ((len l_5) > 0), Polled := now_3 }) (.s 3) (.s 4)), .rd 18 R_T_api_Queued l_5, .rd 1 (RInt .u16) x_4.Subs, .blk 28 (C_api_Friend ({ x_4 with Queue := l_5, Bit := bit_2, Sent := decide ((len l_5) > 0), Polled := now_3 }) (.s 3) (.s 4)), .elt (some (3, 0)) false (C_api_Queued x_7 (.s 7) (.s 8)), .rd 1 R8 x_7.PDU.Payload, .rd 1 R8 x_7.Lower.Bytes, .rd 1 R8 x_10.PDU.Payload, .rd 1 R8 x_10.Lower.Bytes] ?_ (fun c_10_2 => ?_)
             · refine SD.all1 (i := 6) (by kernel_rfl) ?_
               refine SW.eff D_9 (i := 6) (bs' := [I, I, I, I, I, I, I, I, O]) rfl (.inl rfl) rfl (e_lit (sz := 18) (E := 38) (R := R_T_api_Queued) (by_ := 136) tk [(C_api_Queued x_10 (.s 9) (.s 10))] [x_10] (by kernel_rfl) ⟨(clo_T_api_Queued (x := x_10) (Clo.sl (by kernel_rfl)) (Clo.sl (by kernel_rfl))), trivial⟩ rfl (by kernel_rfl) (by kernel_rfl)) (by kernel_rfl) rfl (by kernel_rfl) ?_
               refine SD.takes tk D_9 [] kn0 [8] [] [] [I, I, I, I, I, I, I, I, I] [(6, vp 5 0), (7, vs 11)] rfl (by kernel_rfl) (by kernel_rfl) (by kernel_rfl) ?_
               exact SD.vie D_9 [.g 0, .g 1, .g 2, .g 3, .g 4, .g 5, .g 6, .g 7, .g 8, .n, .n, .g 11] c_10_0 (by kernel_rfl)
             · refine SD.all2 (i := 6) (j := 7) (by kernel_rfl) ?_ ?_
               · refine SW.eff D_9 (i := 6) (bs' := [I, I, I, I, I, I, I, O, O]) rfl (.inl rfl) rfl (e_lit (sz := 18) (E := 38) (R := R_T_api_Queued) (by_ := 136) tk [(C_api_Queued x_10 (.s 9) (.s 10))] [x_10] (by kernel_rfl) ⟨(clo_T_api_Queued (x := x_10) (Clo.sl (by kernel_rfl)) (Clo.sl (by kernel_rfl))), trivial⟩ rfl (by kernel_rfl) (by kernel_rfl)) (by kernel_rfl) rfl (by kernel_rfl) ?_
                 refine SD.norm (itsN := [.gone, .gone, .blk 28 (C_api_Friend ({ x_4 with Queue := l_5, Bit := bit_2, Sent := decide ((len l_5) > 0), Polled := now_3 }) (.s 3) (.s 4)), .rd 18 R_T_api_Queued l_5, .rd 1 (RInt .u16) x_4.Subs, .blk 28 (C_api_Friend (T_api_Friend.mk 0 [] [] 0 false 0 0 0) nl nl), .elt (some (3, 0)) false (C_api_Queued x_7 (.s 7) (.s 8)), .rd 1 R8 x_7.PDU.Payload, .rd 1 R8 x_7.Lower.Bytes, .rd 1 R8 x_10.PDU.Payload, .rd 1 R8 x_10.Lower.Bytes, .own 18 38 R_T_api_Queued [x_10]]) (by kernel_rfl) ?_
                 exact SD.vie D_9 [.g 0, .g 1, .g 2, .g 3, .g 4, .g 5, .g 6, .g 7, .g 8, .n, .n, .g 11] c_10_1 (by kernel_rfl)
               · refine SW.store D_9 tk (i := 7) (q := 5) (T := 28) (cs := (C_api_Friend ({ x_4 with Queue := l_5, Bit := bit_2, Sent := decide ((len l_5) > 0), Polled := now_3 }) (.s 3) (.s 4))) (bs' := [I, I, I, I, I, I, O, I, O]) rfl (by kernel_rfl) rfl rfl (by kernel_rfl) ?_
                 refine SD.norm (itsN := [.gone, .gone, .blk 28 (C_api_Friend ({ x_4 with Queue := l_5, Bit := bit_2, Sent := decide ((len l_5) > 0), Polled := now_3 }) (.s 3) (.s 4)), .rd 18 R_T_api_Queued l_5, .rd 1 (RInt .u16) x_4.Subs, .blk 28 (C_api_Friend ({ x_4 with Queue := l_5, Bit := bit_2, Sent := decide ((len l_5) > 0), Polled := now_3 }) (.s 3) (.s 4)), .elt (some (3, 0)) false (C_api_Queued x_7 (.s 7) (.s 8)), .rd 1 R8 x_7.PDU.Payload, .rd 1 R8 x_7.Lower.Bytes, .rd 1 R8 x_10.PDU.Payload, .rd 1 R8 x_10.Lower.Bytes]) (by kernel_rfl) ?_
                 exact SD.vie D_9 [.g 0, .g 1, .g 2, .g 3, .g 4, .g 5, .g 6, .g 7, .g 8, .g 9, .g 10] c_10_2 (by kernel_rfl)
       · rintro a w ⟨l_6, hp, h⟩
         refine h.go ?_
         obtain rfl := some_inv' hp
         exact SC.re (js := [.g 0, .g 1, .g 3, .g 4, .z 5]) tk (by kernel_rfl)

theorem ok_friend_Over (F : Nat) (f_1 : T_api_Friend) (now_2 : Int) (r : Bool) (hp : friend_Over F f_1 now_2 = some r) : Spec Try.prog 20 [.g (C_api_Friend f_1 (.s 0) (.s 1)), vi .i64 now_2] [.rd 18 R_T_api_Queued f_1.Queue, .rd 1 (RInt .u16) f_1.Subs] (vb r) [.gone, .gone] := by
 refine Spec.enter Try.func20 rfl Try.ntmps20 rfl rfl fun fx => ?_
 refine SC.seq ?_
 refine SC.reg ?_
 refine SL.eff (e_box (E := 28) (C_api_Friend f_1 (.s 0) (.s 1)) (by kernel_rfl)) rfl (by kernel_rfl) ?_
 refine SL.sim tk 1 [(1, vi .i64 now_2), (2, vp 2 0)] [] [] [] (by kernel_rfl) ?_
 refine SL.nilThen ?_
 refine SC.seq ?_
 refine SC.reg ?_
 refine SL.sim tk 4 [(1, vi .i64 now_2), (2, vp 2 0), (8, vb (f_1.Low != 0))] [] [] [] (by kernel_rfl) ?_
 obtain ⟨z_4, hz, hpr⟩ := bind_inv hp
 clear hp
 refine SL.cutAt 4 (fun a w => A 13 2 fx [(12, vb z_4)] [.gone, .gone] a w) ?_ ?_
 · have hp := hz
   rcases Bool.eq_false_or_eq_true ((f_1.Low != 0)) with hg_3 | hg_3
   · replace hp := if_t hp hg_3
     refine SL.yes rfl rfl hg_3 ?_
     refine SL.sim tk 1 [(1, vi .i64 now_2), (8, vb (f_1.Low != 0)), (9, .g (C_api_Friend f_1 (.s 0) (.s 1)))] [] [] [] (by kernel_rfl) ?_
     refine SL.yes rfl rfl hg_3 ?_
     refine SL.sim tk 1 [(8, vb (f_1.Low != 0)), (9, .g (C_api_Friend f_1 (.s 0) (.s 1))), (10, vi .i64 now_2)] [] [] [] (by kernel_rfl) ?_
     refine SL.yes rfl rfl hg_3 ?_
     obtain ⟨x_6, e_x_6, hp⟩ := bind_inv hp
     refine SL.eff (e_c Try.call27 (ok_friend_over F f_1 now_2 _ e_x_6) [.g 0, .g 1] [.g (C_api_Friend f_1 (.s 0) (.s 1)), vi .i64 now_2] (vb x_6) (by kernel_rfl) (.inl rfl)) rfl (by kernel_rfl) ?_
     refine SL.pickt rfl hg_3 rfl rfl ?_
     refine SL.nilJ fun a w h => ?_
     obtain rfl := some_inv' hp
     exact h.at (js := [.g 0, .g 1]) (by kernel_rfl)
   · replace hp := if_f hp hg_3
     refine SL.no rfl rfl hg_3 rfl ?_
     refine SL.no rfl rfl hg_3 rfl ?_
     refine SL.no rfl rfl hg_3 rfl ?_
     refine SL.pickf rfl hg_3 rfl rfl ?_
     refine SL.nilJ fun a w h => ?_
     obtain rfl := some_inv' hp
     exact h.at (js := [.g 0, .g 1]) (by kernel_rfl)
 · intro a w h
   have hp := hpr; clear hpr hz
   refine h.goL ?_
   refine SL.sim tk 1 [(4, vb z_4)] [] [] [] (by kernel_rfl) ?_
   refine SL.nilThen ?_
   obtain rfl := some_inv' hp
   exact SC.re (js := [.g 0, .g 1]) tk (by kernel_rfl)

theorem ok_friend_Seek (F : Nat) (l_1 : T_api_LowPower) (subs_2 : (List Int)) (now_3 : Int) (r : T_api_LowPower) (hp : friend_Seek F l_1 subs_2 now_3 = some r) : Spec Try.prog 12 [.g (C_api_LowPower l_1 (.s 0)), vs 1, vi .i64 now_3] [.rd 1 (RInt .u16) l_1.Subs, .rd 1 (RInt .u16) subs_2] (.g (C_api_LowPower (T_api_LowPower.mk r.Phase r.Friend r.Bit r.Counter r.Due r.Tries r.Subs r.Told r.More r.Last) (.s 2))) [.gone, .gone, .rd 1 (RInt .u16) r.Subs] := by
 refine Spec.enter Try.func12 rfl Try.ntmps12 rfl rfl fun fx => ?_
 refine SC.seq ?_
 refine SC.reg ?_
 refine SL.eff (e_box (E := 47) (C_api_LowPower l_1 (.s 0)) (by kernel_rfl)) rfl (by kernel_rfl) ?_
 refine SL.eff (e_alloc (E := 47) tk (C_api_LowPower (T_api_LowPower.mk 0 0 0 0 0 0 [] 0 false 0) nl) (by kernel_rfl)) rfl (by kernel_rfl) ?_
 refine SL.nilThen ?_
 refine SC.cut (fun a w => ∃ (l_4 : (List Int)), friend_Seek_j1 F l_1 now_3 l_4 = some r ∧ A 15 2 fx [(6, vp 2 0)] [.gone, .gone, .blk 47 (C_api_LowPower (T_api_LowPower.mk 1 0 0 (iand .i64 (w64 (l_1.Counter + 1)) 65535) now_3 0 l_4 0 false 0) (.s 3)), .own 1 24 (RInt .u16) l_4] a w) ?_ ?_
 · refine SC.draw MO [true, true, true, false] (by kernel_rfl) fun kap_5 D_6 => ?_
   refine SD.takes tk D_6 [] kn0 [0, 1, 2, 3, 4, 5] [] [] [I, I, I, I, I, I, O, O, O] [(6, vp 3 0), (10, vi .i64 (iand .i64 (w64 (l_1.Counter + 1)) 65535)), (11, vi .i64 now_3), (12, vs 1)] rfl (by kernel_rfl) (by kernel_rfl) (by kernel_rfl) ?_
   obtain ⟨x_7, e_x_7, hp⟩ := bind_inv hp
   refine SD.all1 (i := 6) (by kernel_rfl) ?_
   refine SW.eff D_6 (i := 6) (bs' := [I, I, I, I, I, I, I, O, O]) rfl (.inl rfl) rfl (e_c Try.call33 (ok_slices_Clone_uint16_uint16 F subs_2 _ e_x_7) [.g 1] [vs 1] (vs 4) (by kernel_rfl) (.inl rfl)) (by kernel_rfl) rfl (by kernel_rfl) ?_
   refine SD.norm (itsN := [.rd 1 (RInt .u16) l_1.Subs, .rd 1 (RInt .u16) subs_2, .blk 47 (C_api_LowPower l_1 (.s 0)), .blk 47 (C_api_LowPower (T_api_LowPower.mk 0 0 0 0 0 0 [] 0 false 0) nl), .own 1 24 (RInt .u16) x_7]) (by kernel_rfl) ?_
   refine SD.all1 (i := 7) (by kernel_rfl) ?_
   refine SW.eff D_6 (i := 7) (v := .g (C_api_LowPower (T_api_LowPower.mk 1 0 0 (iand .i64 (w64 (l_1.Counter + 1)) 65535) now_3 0 x_7 0 false 0) (.s 4))) (bs' := [I, I, I, I, I, I, I, I, O]) rfl (.inl rfl) rfl (e_val tk (by kernel_rfl)) (by kernel_rfl) rfl (by kernel_rfl) ?_
   refine SD.all1 (i := 8) (by kernel_rfl) ?_
   refine SW.store D_6 tk (i := 8) (q := 3) (T := 47) (cs := (C_api_LowPower (T_api_LowPower.mk 1 0 0 (iand .i64 (w64 (l_1.Counter + 1)) 65535) now_3 0 x_7 0 false 0) (.s 4))) (bs' := [I, I, I, I, I, I, I, I, I]) rfl (by kernel_rfl) rfl rfl (by kernel_rfl) ?_
   refine SD.norm (itsN := [.rd 1 (RInt .u16) l_1.Subs, .rd 1 (RInt .u16) subs_2, .blk 47 (C_api_LowPower l_1 (.s 0)), .blk 47 (C_api_LowPower (T_api_LowPower.mk 1 0 0 (iand .i64 (w64 (l_1.Counter + 1)) 65535) now_3 0 x_7 0 false 0) (.s 4)), .own 1 24 (RInt .u16) x_7]) (by kernel_rfl) ?_
   refine SD.done (by kernel_rfl) fun a w h => ?_
   exact ⟨x_7, hp, h.at (js := [.g 0, .g 1, .g 3, .g 4]) (by kernel_rfl)⟩
 · rintro a w ⟨l_4, hp, h⟩
   refine h.go ?_
   obtain rfl := some_inv' hp
   exact SC.re (js := [.g 0, .g 1, .z 3]) tk (by kernel_rfl)

theorem ok_friend_two (F : Nat) (n_1 : Int) (r : (List Int)) (hp : friend_two F n_1 = some r) : Spec Try.prog 53 [vi .i64 n_1] [] (vs 0) [.rd 1 R8 r] := by
 refine Spec.enter Try.func53 rfl Try.ntmps53 rfl rfl fun fx => ?_
 refine SC.r tk [(0, vi .i64 n_1)] [] [] [] (by kernel_rfl) ?_
 refine SC.seq ?_
 refine SC.reg ?_
 refine SL.sim tk 5 [(4, vi .u8 (wu8 n_1)), (7, vi .u8 (wu8 (shrp n_1 8)))] [] [.bin .shr .i64 n_1 8 (shrp n_1 8) (by kernel_rfl)] [n_1, 8] (by kernel_rfl) ?_
 refine SL.eff (e_lit (sz := 1) (E := 5) (R := R8) (by_ := 1) tk [[ci .u8 (wu8 n_1)], [ci .u8 (wu8 (shrp n_1 8))]] [wu8 n_1, wu8 (shrp n_1 8)] (by kernel_rfl) ⟨Clo.int, ⟨Clo.int, trivial⟩⟩ rfl (by kernel_rfl) (by kernel_rfl)) rfl (by kernel_rfl) ?_
 refine SL.sim tk 1 [(2, vs 0)] [] [] [] (by kernel_rfl) ?_
 refine SL.nilThen ?_
 obtain rfl := some_inv' hp
 exact SC.re (js := [.z 0]) tk (by kernel_rfl)

theorem ok_friend_known (F : Nat) (l_1 : T_api_LowPower) (r : Bool) (hp : friend_known F l_1 = some r) : Spec Try.prog 54 [.g (C_api_LowPower l_1 (.s 0))] [.rd 1 (RInt .u16) l_1.Subs] (vb r) [.gone] := by
 refine Spec.enter Try.func54 rfl Try.ntmps54 rfl rfl fun fx => ?_
 refine SC.seq ?_
 refine SC.reg ?_
 refine SL.eff (e_box (E := 47) (C_api_LowPower l_1 (.s 0)) (by kernel_rfl)) rfl (by kernel_rfl) ?_
 refine SL.sim tk 1 [(1, vp 1 0)] [] [] [] (by kernel_rfl) ?_
 refine SL.nilThen ?_
 refine SC.r tk [(2, vb (decide (l_1.Told ≥ (len l_1.Subs))))] [] [] [] (by kernel_rfl) ?_
 obtain rfl := some_inv' hp
 exact SC.re (js := [.g 0]) tk (by kernel_rfl)

theorem ok_friend_Tick (F : Nat) (l_1 : T_api_LowPower) (now_2 : Int) (r : T_api_LowPower × (List T_api_Lower)) (hp : friend_Tick F l_1 now_2 = some r) : Spec Try.prog 23 [.g (C_api_LowPower l_1 (.s 0)), vi .i64 now_2] [.rd 1 (RInt .u16) l_1.Subs] (.u [.inr (C_api_LowPower (T_api_LowPower.mk r.1.Phase r.1.Friend r.1.Bit r.1.Counter r.1.Due r.1.Tries r.1.Subs r.1.Told r.1.More r.1.Last) (.s 1)), .inl (.s 2)]) [.gone, .rd 1 (RInt .u16) r.1.Subs, .rd 10 R_T_api_Lower r.2] := by
 refine Spec.enter Try.func23 rfl Try.ntmps23 rfl rfl fun fx => ?_
 refine SC.seq ?_
 refine SC.reg ?_
 refine SL.eff (e_box (E := 47) (C_api_LowPower l_1 (.s 0)) (by kernel_rfl)) rfl (by kernel_rfl) ?_
 refine SL.eff (e_alloc (E := 47) tk (C_api_LowPower (T_api_LowPower.mk 0 0 0 0 0 0 [] 0 false 0) nl) (by kernel_rfl)) rfl (by kernel_rfl) ?_
 refine SL.sim tk 1 [(1, vi .i64 now_2), (2, vp 1 0), (4, vp 2 0)] [] [] [] (by kernel_rfl) ?_
 refine SL.nilThen ?_
 refine SC.seq ?_
 refine SC.reg ?_
 refine SL.sim tk 2 [(1, vi .i64 now_2), (2, vp 1 0), (4, vp 2 0), (9, vs 0)] [] [] [] (by kernel_rfl) ?_
 obtain ⟨x_3, e_x_3, hp⟩ := bind_inv hp
 refine SL.eff (e_c Try.call33 (ok_slices_Clone_uint16_uint16 F l_1.Subs _ e_x_3) [.g 0] [vs 0] (vs 3) (by kernel_rfl) (.inl rfl)) rfl (by kernel_rfl) ?_
 refine SL.norm (itsN := [.rd 1 (RInt .u16) l_1.Subs, .blk 47 (C_api_LowPower l_1 (.s 0)), .blk 47 (C_api_LowPower (T_api_LowPower.mk 0 0 0 0 0 0 [] 0 false 0) nl), .own 1 24 (RInt .u16) x_3]) (by kernel_rfl) ?_
 refine SL.sim tk 2 [(1, vi .i64 now_2), (2, vp 1 0), (4, vp 2 0)] [(1, 47, (C_api_LowPower ({ l_1 with Subs := x_3 }) (.s 3)))] [] [] (by kernel_rfl) ?_
 refine SL.nilThen ?_
 refine SC.r tk [(1, vi .i64 now_2), (2, vp 1 0), (4, vp 2 0), (6, vb ((l_1.Phase == 3) && (decide (now_2 ≥ (w64 (l_1.Last + 200))))))] [] [] [] (by kernel_rfl) ?_
 refine SC.cut (fun a w => ∃ (c_14 : T_api_LowPower), friend_Tick_j1 F now_2 c_14 = some r ∧ A 97 1 fx [(1, vi .i64 now_2), (2, vp 1 0), (4, vp 3 0)] [.gone, .blk 47 (C_api_LowPower c_14 (.s 2)), .rd 1 (RInt .u16) c_14.Subs, .blk 47 (C_api_LowPower (T_api_LowPower.mk 0 0 0 0 0 0 [] 0 false 0) nl)] a w) ?_ ?_
 · refine SC.r tk [(1, vi .i64 now_2), (2, vp 1 0), (4, vp 2 0), (38, vb (((l_1.Phase == 3) && (decide (now_2 ≥ (w64 (l_1.Last + 200))))) || (((l_1.Phase == 2) && (decide (l_1.Due ≤ now_2))) && (decide (l_1.Tries ≥ 6)))))] [] [] [] (by kernel_rfl) ?_
   refine SC.if' rfl hp (fun hp => ?_) (fun hp => ?_)
   · refine SC.reg ?_
     refine SL.sim tk 4 [(1, vi .i64 now_2), (2, vp 1 0), (4, vp 2 0), (39, .g (C_api_LowPower ({ l_1 with Subs := x_3 }) (.s 3))), (41, vs 3), (42, vi .i64 now_2)] [] [] [] (by kernel_rfl) ?_
     obtain ⟨x_507, e_x_507, hp⟩ := bind_inv hp
     refine SL.pre (pre_frz (i := 3) (sz := 1) (E := 24) (R := (RInt .u16)) (l := x_3) (by kernel_rfl)) ?_
     refine SL.eff (e_c Try.call12 (ok_friend_Seek F ({ l_1 with Subs := x_3 }) x_3 now_2 _ e_x_507) [.g 3, .g 3] [.g (C_api_LowPower ({ l_1 with Subs := x_3 }) (.s 3)), vs 3, vi .i64 now_2] (.g (C_api_LowPower x_507 (.s 4))) (by kernel_rfl) (.inl rfl)) rfl (by kernel_rfl) ?_
     refine SL.sim tk 1 [(1, vi .i64 now_2), (2, vp 1 0), (4, vp 2 0)] [(1, 47, (C_api_LowPower x_507 (.s 4)))] [] [] (by kernel_rfl) ?_
     refine SL.nilJ fun a w h => ?_
     exact ⟨x_507, hp, h.at (js := [.g 0, .g 1, .g 4, .g 2]) (by kernel_rfl)⟩
   · refine SC.skipJ fun a w h => ?_
     exact ⟨{ l_1 with Subs := x_3 }, hp, h.at (js := [.g 0, .g 1, .z 3, .g 2]) (by kernel_rfl)⟩
 · rintro a w ⟨c_14, hp, h⟩
   refine h.go ?_
   refine SC.seq ?_
   refine SC.r tk [(1, vi .i64 now_2), (2, vp 1 0), (4, vp 3 0), (52, vb ((c_14.Phase == 0) || (decide (c_14.Due > now_2))))] [] [] [] (by kernel_rfl) ?_
   refine SC.if' rfl hp (fun hp => ?_) (fun hp => ?_)
   · refine SC.r tk [(4, vp 3 0), (5, vn)] [(3, 47, (C_api_LowPower c_14 (.s 2)))] [] [] (by kernel_rfl) ?_
     obtain rfl := some_inv' hp
     exact SC.re (js := [.g 0, .g 2, .n]) tk (by kernel_rfl)
   · refine SC.skipThen ?_
     refine SC.seq ?_
     refine SC.reg ?_
     refine SL.sim tk 3 [(1, vi .i64 now_2), (2, vp 1 0), (4, vp 3 0), (56, vi .u8 (wu8 c_14.Bit))] [] [] [] (by kernel_rfl) ?_
     refine SL.eff (e_lit (sz := 1) (E := 5) (R := R8) (by_ := 1) tk [[ci .u8 (wu8 c_14.Bit)]] [wu8 c_14.Bit] (by kernel_rfl) ⟨Clo.int, trivial⟩ rfl (by kernel_rfl) (by kernel_rfl)) rfl (by kernel_rfl) ?_
     refine SL.sim tk 1 [(1, vi .i64 now_2), (2, vp 1 0), (4, vp 3 0), (58, .g (C_api_Lower (T_api_Lower.mk true false false 0 0 0 1 0 false [wu8 c_14.Bit]) (.s 4)))] [] [] [] (by kernel_rfl) ?_
     refine SL.eff (e_alloc (E := 36) tk (C_api_Lower (T_api_Lower.mk false false false 0 0 0 0 0 false []) nl) (by kernel_rfl)) rfl (by kernel_rfl) ?_
     refine SL.sim tk 1 [(1, vi .i64 now_2), (2, vp 1 0), (4, vp 3 0), (7, vp 5 0)] [(5, 36, (C_api_Lower (T_api_Lower.mk true false false 0 0 0 1 0 false [wu8 c_14.Bit]) (.s 4)))] [] [] (by kernel_rfl) ?_
     refine SL.nilThen ?_
     refine SC.cut (fun a w => ∃ (c_17 : T_api_Lower), friend_Tick_j2 F now_2 c_14 c_17 = some r ∧ A 97 1 fx [(1, vi .i64 now_2), (2, vp 1 0), (4, vp 3 0), (7, vp 4 0)] [.gone, .blk 47 (C_api_LowPower c_14 (.s 2)), .rd 1 (RInt .u16) c_14.Subs, .blk 47 (C_api_LowPower (T_api_LowPower.mk 0 0 0 0 0 0 [] 0 false 0) nl), .blk 36 [cb true, cb false, cb false, ci .i64 0, ci .i64 0, ci .i64 0, ci .i64 c_17.Opcode, ci .u32 0, cb false, .s 5], .rd 1 R8 c_17.Bytes] a w) ?_ ?_
     · refine SC.block ?_
       refine SC.r tk [(1, vi .i64 now_2), (2, vp 1 0), (4, vp 3 0), (7, vp 5 0), (59, vb (c_14.Phase == 1))] [] [] [] (by kernel_rfl) ?_
       refine SC.if' rfl hp (fun hp => ?_) (fun hp => ?_)
       · refine SC.reg ?_
         refine SL.sim tk 2 [(1, vi .i64 now_2), (2, vp 1 0), (4, vp 3 0), (7, vp 5 0), (64, vi .i64 c_14.Counter)] [] [] [] (by kernel_rfl) ?_
         obtain ⟨x_500, e_x_500, hp⟩ := bind_inv hp
         refine SL.eff (e_c Try.call53 (ok_friend_two F c_14.Counter _ e_x_500) [] [vi .i64 c_14.Counter] (vs 6) (by kernel_rfl) (.inl rfl)) rfl (by kernel_rfl) ?_
         refine SL.norm (itsN := [.gone, .blk 47 (C_api_LowPower c_14 (.s 2)), .rd 1 (RInt .u16) c_14.Subs, .blk 47 (C_api_LowPower (T_api_LowPower.mk 0 0 0 0 0 0 [] 0 false 0) nl), .own 1 5 R8 [wu8 c_14.Bit], .blk 36 (C_api_Lower (T_api_Lower.mk true false false 0 0 0 1 0 false [wu8 c_14.Bit]) (.s 4)), .rd 1 R8 x_500]) (by kernel_rfl) ?_
         refine SL.sim tk 4 [(1, vi .i64 now_2), (2, vp 1 0), (4, vp 3 0), (7, vp 5 0)] [(5, 36, (C_api_Lower (T_api_Lower.mk true false false 0 0 0 3 0 false x_500) (.s 6)))] [] [] (by kernel_rfl) ?_
         refine SL.nilJ fun a w h => ?_
         exact ⟨(T_api_Lower.mk true false false 0 0 0 3 0 false x_500), hp, h.at (js := [.g 0, .g 1, .g 2, .g 3, .g 5, .g 6]) (by kernel_rfl)⟩
       · refine SC.seq ?_
         refine SC.reg ?_
         refine SL.sim tk 4 [(1, vi .i64 now_2), (2, vp 1 0), (4, vp 3 0), (7, vp 5 0), (72, vb (c_14.Phase == 3))] [] [] [] (by kernel_rfl) ?_
         obtain ⟨z_502, hz, hpr⟩ := bind_inv hp
         clear hp
         refine SL.cutAt 4 (fun a w => A 97 1 fx [(1, vi .i64 now_2), (2, vp 1 0), (4, vp 3 0), (7, vp 4 0), (76, vb z_502)] [.gone, .blk 47 (C_api_LowPower c_14 (.s 2)), .rd 1 (RInt .u16) c_14.Subs, .blk 47 (C_api_LowPower (T_api_LowPower.mk 0 0 0 0 0 0 [] 0 false 0) nl), .blk 36 (C_api_Lower (T_api_Lower.mk true false false 0 0 0 1 0 false [wu8 c_14.Bit]) (.s 5)), .own 1 5 R8 [wu8 c_14.Bit]] a w) ?_ ?_
         · have hp := hz
           rcases Bool.eq_false_or_eq_true ((c_14.Phase == 3)) with hg_501 | hg_501
           · replace hp := if_t hp hg_501
             refine SL.yes rfl rfl hg_501 ?_
             refine SL.sim tk 1 [(1, vi .i64 now_2), (2, vp 1 0), (4, vp 3 0), (7, vp 5 0), (72, vb (c_14.Phase == 3)), (73, .g (C_api_LowPower c_14 (.s 2)))] [] [] [] (by kernel_rfl) ?_
             refine SL.yes rfl rfl hg_501 ?_
             obtain ⟨x_506, e_x_506, hp⟩ := bind_inv hp
             refine SL.eff (e_c Try.call54 (ok_friend_known F c_14 _ e_x_506) [.g 2] [.g (C_api_LowPower c_14 (.s 2))] (vb x_506) (by kernel_rfl) (.inl rfl)) rfl (by kernel_rfl) ?_
             refine SL.norm (itsN := [.gone, .blk 47 (C_api_LowPower c_14 (.s 2)), .rd 1 (RInt .u16) c_14.Subs, .blk 47 (C_api_LowPower (T_api_LowPower.mk 0 0 0 0 0 0 [] 0 false 0) nl), .own 1 5 R8 [wu8 c_14.Bit], .blk 36 (C_api_Lower (T_api_Lower.mk true false false 0 0 0 1 0 false [wu8 c_14.Bit]) (.s 4))]) (by kernel_rfl) ?_
             refine SL.yes rfl rfl hg_501 ?_
             refine SL.sim tk 1 [(1, vi .i64 now_2), (2, vp 1 0), (4, vp 3 0), (7, vp 5 0), (72, vb (c_14.Phase == 3)), (75, vb (!x_506))] [] [] [] (by kernel_rfl) ?_
             refine SL.pickt rfl hg_501 rfl rfl ?_
             refine SL.nilJ fun a w h => ?_
             obtain rfl := some_inv' hp
             exact h.at (js := [.g 0, .g 1, .g 2, .g 3, .g 5, .g 4]) (by kernel_rfl)
           · replace hp := if_f hp hg_501
             refine SL.no rfl rfl hg_501 rfl ?_
             refine SL.no rfl rfl hg_501 rfl ?_
             refine SL.no rfl rfl hg_501 rfl ?_
             refine SL.pickf rfl hg_501 rfl rfl ?_
             refine SL.nilJ fun a w h => ?_
             obtain rfl := some_inv' hp
             exact h.at (js := [.g 0, .g 1, .g 2, .g 3, .g 5, .g 4]) (by kernel_rfl)
         · intro a w h
           have hp := hpr; clear hpr hz
           refine h.goL ?_
           refine SL.sim tk 1 [(1, vi .i64 now_2), (2, vp 1 0), (4, vp 3 0), (7, vp 4 0), (68, vb z_502)] [] [] [] (by kernel_rfl) ?_
           refine SL.nilThen ?_
           refine SC.if' rfl hp (fun hp => ?_) (fun hp => ?_)
           · refine SC.reg ?_
             obtain ⟨x_503, e_x_503, hp⟩ := bind_inv hp
             refine SL.pre (pre_ix (i := 2) (iv := c_14.Told) (sz := 1) (R := (RInt .u16)) (l := c_14.Subs) (by kernel_rfl) rfl e_x_503) ?_
             refine SL.sim tk 7 [(1, vi .i64 now_2), (2, vp 1 0), (4, vp 3 0), (7, vp 4 0), (83, vi .i64 (w64 x_503))] [] [.el 6] [c_14.Told] (by kernel_rfl) ?_
             obtain ⟨x_504, e_x_504, hp⟩ := bind_inv hp
             refine SL.eff (e_c Try.call53 (ok_friend_two F (w64 x_503) _ e_x_504) [] [vi .i64 (w64 x_503)] (vs 7) (by kernel_rfl) (.inl rfl)) rfl (by kernel_rfl) ?_
             refine SL.sim tk 4 [(1, vi .i64 now_2), (2, vp 1 0), (4, vp 3 0), (7, vp 4 0)] [(4, 36, (C_api_Lower (T_api_Lower.mk true false false 0 0 0 7 0 false x_504) (.s 7)))] [] [] (by kernel_rfl) ?_
             refine SL.nilJ fun a w h => ?_
             exact ⟨(T_api_Lower.mk true false false 0 0 0 7 0 false x_504), hp, h.at (js := [.g 0, .g 1, .g 2, .g 3, .g 4, .g 7]) (by kernel_rfl)⟩
           · refine SC.skipJ fun a w h => ?_
             exact ⟨(T_api_Lower.mk true false false 0 0 0 1 0 false [wu8 c_14.Bit]), hp, h.at (js := [.g 0, .g 1, .g 2, .g 3, .g 4, .z 5]) (by kernel_rfl)⟩
     · rintro a w ⟨c_17, hp, h⟩
       refine h.go ?_
       refine SC.r tk [(1, vi .i64 now_2), (2, vp 1 0), (4, vp 3 0), (7, vp 4 0)] [(1, 47, (C_api_LowPower ({ c_14 with Tries := w64 (c_14.Tries + 1) }) (.s 2)))] [] [] (by kernel_rfl) ?_
       refine SC.r tk [(2, vp 1 0), (4, vp 3 0), (7, vp 4 0)] [(1, 47, (C_api_LowPower ({ c_14 with Due := w64 (now_2 + 10), Tries := w64 (c_14.Tries + 1) }) (.s 2)))] [] [] (by kernel_rfl) ?_
       refine SC.cut (fun a w => friend_Tick_j3 F now_2 c_14 c_17 = some r ∧ A 97 1 fx [(4, vp 1 0), (5, vs 3)] [.gone, .blk 47 (C_api_LowPower ({ c_14 with Due := w64 (now_2 + 10), Tries := w64 (c_14.Tries + 1) }) (.s 2)), .rd 1 (RInt .u16) c_14.Subs, .own 10 36 R_T_api_Lower [{ c_17 with Control := true, Segmented := false, App := false, Zero := 0, Index := 0, Last := 0, Block := 0, Friend := false }]] a w) ?_ ?_
       · refine SC.draw MO [O, I, I, O, I, I] (by kernel_rfl) fun kap_18 D_19 => ?_
         refine SD.takes tk D_19 [] kn0 [0, 1] [] [] [true, true, false, false, false] [(4, vp 3 0), (94, .g (C_api_LowPower ({ c_14 with Due := w64 (now_2 + 10), Tries := w64 (c_14.Tries + 1) }) (.s 2))), (95, .g [cb true, cb false, cb false, ci .i64 0, ci .i64 0, ci .i64 0, ci .i64 c_17.Opcode, ci .u32 0, cb false, .s 5])] rfl (by kernel_rfl) (by kernel_rfl) (by kernel_rfl) ?_
         refine SD.lay 0 [true, true, true, true, true] [(4, vp 3 0), (5, vs 6)] [.gone, .blk 47 (C_api_LowPower ({ c_14 with Due := w64 (now_2 + 10), Tries := w64 (c_14.Tries + 1) }) (.s 2)), .rd 1 (RInt .u16) c_14.Subs, .blk 47 (C_api_LowPower ({ c_14 with Due := w64 (now_2 + 10), Tries := w64 (c_14.Tries + 1) }) (.s 2)), .blk 36 [cb true, cb false, cb false, ci .i64 0, ci .i64 0, ci .i64 0, ci .i64 c_17.Opcode, ci .u32 0, cb false, .s 5], .rd 1 R8 c_17.Bytes, .own 10 36 R_T_api_Lower [{ c_17 with Control := true, Segmented := false, App := false, Zero := 0, Index := 0, Last := 0, Block := 0, Friend := false }]] ?_ (fun c_19_0 => ?_)
         · refine SD.done (by kernel_rfl) fun a w h => ?_
           exact ⟨hp, h.at (js := [.g 0, .g 3, .g 2, .g 6]) (by kernel_rfl)⟩
         · refine SD.lay 2 [true, true, true, false, false] [(4, vp 3 0), (94, .g (C_api_LowPower ({ c_14 with Due := w64 (now_2 + 10), Tries := w64 (c_14.Tries + 1) }) (.s 2))), (96, vs 6)] [.gone, .blk 47 (C_api_LowPower ({ c_14 with Due := w64 (now_2 + 10), Tries := w64 (c_14.Tries + 1) }) (.s 2)), .rd 1 (RInt .u16) c_14.Subs, .blk 47 (C_api_LowPower (T_api_LowPower.mk 0 0 0 0 0 0 [] 0 false 0) nl), .blk 36 [cb true, cb false, cb false, ci .i64 0, ci .i64 0, ci .i64 0, ci .i64 c_17.Opcode, ci .u32 0, cb false, .s 5], .rd 1 R8 c_17.Bytes, .own 10 36 R_T_api_Lower [{ c_17 with Control := true, Segmented := false, App := false, Zero := 0, Index := 0, Last := 0, Block := 0, Friend := false }]] ?_ (fun c_19_1 => ?_)
           · refine SD.all1 (i := 3) (by kernel_rfl) ?_
             refine SW.store D_19 tk (i := 3) (q := 3) (T := 47) (cs := (C_api_LowPower ({ c_14 with Due := w64 (now_2 + 10), Tries := w64 (c_14.Tries + 1) }) (.s 2))) (bs' := [true, true, true, true, false]) rfl (by kernel_rfl) rfl rfl (by kernel_rfl) ?_
             refine SD.takes tk D_19 [] kn0 [4] [] [] [true, true, true, true, true] [(4, vp 3 0), (5, vs 6)] rfl (by kernel_rfl) (by kernel_rfl) (by kernel_rfl) ?_
             exact SD.vie D_19 [.g 0, .g 1, .g 2, .g 3, .g 4, .g 5, .g 6] c_19_0 (by kernel_rfl)
           · refine SD.lay 2 [true, true, false, true, false] [(4, vp 3 0), (95, .g [cb true, cb false, cb false, ci .i64 0, ci .i64 0, ci .i64 0, ci .i64 c_17.Opcode, ci .u32 0, cb false, .s 5])] [.gone, .blk 47 (C_api_LowPower ({ c_14 with Due := w64 (now_2 + 10), Tries := w64 (c_14.Tries + 1) }) (.s 2)), .rd 1 (RInt .u16) c_14.Subs, .blk 47 (C_api_LowPower ({ c_14 with Due := w64 (now_2 + 10), Tries := w64 (c_14.Tries + 1) }) (.s 2)), .blk 36 [cb true, cb false, cb false, ci .i64 0, ci .i64 0, ci .i64 0, ci .i64 c_17.Opcode, ci .u32 0, cb false, .s 5], .rd 1 R8 c_17.Bytes] ?_ (fun c_19_2 => ?_)
             · refine SD.all1 (i := 2) (by kernel_rfl) ?_
               refine SW.eff D_19 (i := 2) (bs' := [true, true, true, true, false]) rfl (.inl rfl) rfl (e_lit (sz := 10) (E := 36) (R := R_T_api_Lower) (by_ := 72) tk [[cb true, cb false, cb false, ci .i64 0, ci .i64 0, ci .i64 0, ci .i64 c_17.Opcode, ci .u32 0, cb false, .s 5]] [{ c_17 with Control := true, Segmented := false, App := false, Zero := 0, Index := 0, Last := 0, Block := 0, Friend := false }] (by kernel_rfl) ⟨(clo_T_api_Lower (x := { c_17 with Control := true, Segmented := false, App := false, Zero := 0, Index := 0, Last := 0, Block := 0, Friend := false }) (Clo.sl (by kernel_rfl))), trivial⟩ rfl (by kernel_rfl) (by kernel_rfl)) (by kernel_rfl) rfl (by kernel_rfl) ?_
               refine SD.takes tk D_19 [] kn0 [4] [] [] [true, true, true, true, true] [(4, vp 3 0), (5, vs 6)] rfl (by kernel_rfl) (by kernel_rfl) (by kernel_rfl) ?_
               exact SD.vie D_19 [.g 0, .g 1, .g 2, .g 3, .g 4, .g 5, .g 6] c_19_0 (by kernel_rfl)
             · refine SD.all2 (i := 2) (j := 3) (by kernel_rfl) ?_ ?_
               · refine SW.eff D_19 (i := 2) (bs' := [true, true, true, false, false]) rfl (.inl rfl) rfl (e_lit (sz := 10) (E := 36) (R := R_T_api_Lower) (by_ := 72) tk [[cb true, cb false, cb false, ci .i64 0, ci .i64 0, ci .i64 0, ci .i64 c_17.Opcode, ci .u32 0, cb false, .s 5]] [{ c_17 with Control := true, Segmented := false, App := false, Zero := 0, Index := 0, Last := 0, Block := 0, Friend := false }] (by kernel_rfl) ⟨(clo_T_api_Lower (x := { c_17 with Control := true, Segmented := false, App := false, Zero := 0, Index := 0, Last := 0, Block := 0, Friend := false }) (Clo.sl (by kernel_rfl))), trivial⟩ rfl (by kernel_rfl) (by kernel_rfl)) (by kernel_rfl) rfl (by kernel_rfl) ?_
                 refine SD.norm (itsN := [.gone, .blk 47 (C_api_LowPower ({ c_14 with Due := w64 (now_2 + 10), Tries := w64 (c_14.Tries + 1) }) (.s 2)), .rd 1 (RInt .u16) c_14.Subs, .blk 47 (C_api_LowPower (T_api_LowPower.mk 0 0 0 0 0 0 [] 0 false 0) nl), .blk 36 [cb true, cb false, cb false, ci .i64 0, ci .i64 0, ci .i64 0, ci .i64 c_17.Opcode, ci .u32 0, cb false, .s 5], .rd 1 R8 c_17.Bytes, .own 10 36 R_T_api_Lower [{ c_17 with Control := true, Segmented := false, App := false, Zero := 0, Index := 0, Last := 0, Block := 0, Friend := false }]]) (by kernel_rfl) ?_
                 exact SD.vie D_19 [.g 0, .g 1, .g 2, .g 3, .g 4, .g 5, .g 6] c_19_1 (by kernel_rfl)
               · refine SW.store D_19 tk (i := 3) (q := 3) (T := 47) (cs := (C_api_LowPower ({ c_14 with Due := w64 (now_2 + 10), Tries := w64 (c_14.Tries + 1) }) (.s 2))) (bs' := [true, true, false, true, false]) rfl (by kernel_rfl) rfl rfl (by kernel_rfl) ?_
                 refine SD.norm (itsN := [.gone, .blk 47 (C_api_LowPower ({ c_14 with Due := w64 (now_2 + 10), Tries := w64 (c_14.Tries + 1) }) (.s 2)), .rd 1 (RInt .u16) c_14.Subs, .blk 47 (C_api_LowPower ({ c_14 with Due := w64 (now_2 + 10), Tries := w64 (c_14.Tries + 1) }) (.s 2)), .blk 36 [cb true, cb false, cb false, ci .i64 0, ci .i64 0, ci .i64 0, ci .i64 c_17.Opcode, ci .u32 0, cb false, .s 5], .rd 1 R8 c_17.Bytes]) (by kernel_rfl) ?_
                 exact SD.vie D_19 [.g 0, .g 1, .g 2, .g 3, .g 4, .g 5] c_19_2 (by kernel_rfl)
       · rintro a w ⟨hp, h⟩
         refine h.go ?_
         obtain rfl := some_inv' hp
         exact SC.re (js := [.g 0, .g 2, .z 3]) tk (by kernel_rfl)

theorem ok_wirelessref02_Same (F : Nat) (a_1 : (List Int)) (b_2 : (List Int)) (r : Bool) (hp : wirelessref02_Same F a_1 b_2 = some r) : Spec Try.prog 24 [vs 0, vs 1] [.rd 1 R8 a_1, .rd 1 R8 b_2] (vb r) [.gone, .gone] := by
 refine Spec.enter Try.func24 rfl Try.ntmps24 rfl rfl fun fx => ?_
 refine SC.r tk [(0, vs 0), (1, vs 1)] [] [] [] (by kernel_rfl) ?_
 refine SC.seq ?_
 refine SC.reg ?_
 refine SL.sim tk 1 [(1, vs 1), (5, vs 0)] [] [] [] (by kernel_rfl) ?_
 refine SL.eff (e_b2s (l := a_1) tk rfl (.r (by kernel_rfl)) (by kernel_rfl)) rfl (by kernel_rfl) ?_
 refine SL.sim tk 1 [(6, vt 2), (7, vs 1)] [] [] [] (by kernel_rfl) ?_
 refine SL.eff (e_b2s (l := b_2) tk rfl (.r (by kernel_rfl)) (by kernel_rfl)) rfl (by kernel_rfl) ?_
 refine SL.sim tk 2 [(4, vb ((str a_1) == (str b_2)))] [] [] [] (by kernel_rfl) ?_
 refine SL.nilThen ?_
 obtain rfl := some_inv' hp
 exact SC.re (js := [.g 0, .g 1]) tk (by kernel_rfl)

theorem ok_slices_Index_uint16_uint16 (F : Nat) (s_1 : (List Int)) (v_2 : Int) (r : Int) (hp : slices_Index_uint16_uint16 F s_1 v_2 = some r) : Spec Try.prog 70 [vs 0, vi .u16 v_2] [.rd 1 (RInt .u16) s_1] (vi .i64 r) [.gone] := by
 refine Spec.enter Try.func70 rfl Try.ntmps70 rfl rfl fun fx => ?_
 refine SC.r tk [(0, vs 0), (1, vi .u16 v_2)] [] [] [] (by kernel_rfl) ?_
 refine SC.cut (fun a w => slices_Index_uint16_uint16_j1 F = some r ∧ A 19 1 fx [] [.gone] a w) ?_ ?_
 · refine SC.r tk [(0, vs 0), (1, vi .u16 v_2), (7, vi .i64 (len s_1)), (8, vi .i64 0)] [] [] [] (by kernel_rfl) ?_
   refine SC.block ?_
   obtain ⟨o1, hi1, ho1⟩ := bind_inv hp
   clear hp
   refine SC.loop (fun n a w => ∃ (x_3 : Int), iter (fun s => slices_Index_uint16_uint16_l1 F s_1 v_2 s) n (x_3) = some o1 ∧ A 19 1 fx [(0, vs 0), (1, vi .u16 v_2), (7, vi .i64 (len s_1)), (8, vi .i64 x_3)] [.rd 1 (RInt .u16) s_1] a w) F (fun a w h => ⟨0, hi1, h.at (js := [.g 0]) (by kernel_rfl)⟩) ?_
   rintro n1 a w ⟨x_3, hi1, h⟩
   obtain ⟨n1, q1, rfl, hp, hs1⟩ := iter_inv hi1
   replace hp : slices_Index_uint16_uint16_l1 F s_1 v_2 x_3 = some q1 := hp
   clear hi1
   refine h.go ?_
   refine SC.r tk [(0, vs 0), (1, vi .u16 v_2), (7, vi .i64 (len s_1)), (8, vi .i64 x_3), (9, vb (decide (x_3 < (len s_1))))] [] [] [] (by kernel_rfl) ?_
   refine SC.seq ?_
   refine SC.if' rfl hp (fun hp => ?_) (fun hp => ?_)
   · refine SC.skipThen ?_
     refine SC.seq ?_
     refine SC.block ?_
     refine SC.r tk [(0, vs 0), (1, vi .u16 v_2), (5, vi .i64 x_3), (7, vi .i64 (len s_1)), (8, vi .i64 x_3)] [] [] [] (by kernel_rfl) ?_
     obtain ⟨x_4, e_x_4, hp⟩ := bind_inv hp
     refine SC.pre (pre_ix (i := 0) (iv := x_3) (sz := 1) (R := (RInt .u16)) (l := s_1) (by kernel_rfl) rfl e_x_4) ?_
     refine SC.r tk [(0, vs 0), (1, vi .u16 v_2), (5, vi .i64 x_3), (7, vi .i64 (len s_1)), (8, vi .i64 x_3), (16, vb (v_2 == x_4))] [] [.el 1] [x_3] (by kernel_rfl) ?_
     refine SC.if' rfl hp (fun hp => ?_) (fun hp => ?_)
     · refine SC.r tk [(4, vi .i64 x_3)] [] [] [] (by kernel_rfl) ?_
       have ho := done_inv hp hs1
       replace hp := ho1
       try rw [ho] at hp
       obtain rfl := some_inv' hp
       exact SC.re (js := [.g 0]) tk (by kernel_rfl)
     · refine SC.skipThen ?_
       refine SC.reg ?_
       refine SL.sim tk 2 [(0, vs 0), (1, vi .u16 v_2), (7, vi .i64 (len s_1)), (8, vi .i64 (w64 (x_3 + 1)))] [] [] [] (by kernel_rfl) ?_
       refine SL.nilJ fun a w h => ?_
       exact ⟨n1, Nat.lt_succ_self _, w64 (x_3 + 1), next_inv hp hs1, h.at (js := [.g 0]) (by kernel_rfl)⟩
   · refine SC.exitJ rfl fun a w h => ?_
     have ho := done_inv hp hs1
     replace hp := ho1
     try rw [ho] at hp
     exact ⟨hp, h.at (js := [.g 0]) (by kernel_rfl)⟩
 · rintro a w ⟨hp, h⟩
   refine h.go ?_
   refine SC.r tk [(4, vi .i64 (-1))] [] [] [] (by kernel_rfl) ?_
   obtain rfl := some_inv' hp
   exact SC.re (js := [.g 0]) tk (by kernel_rfl)

theorem ok_slices_Contains_uint16_uint16 (F : Nat) (s_1 : (List Int)) (v_2 : Int) (r : Bool) (hp : slices_Contains_uint16_uint16 F s_1 v_2 = some r) : Spec Try.prog 50 [vs 0, vi .u16 v_2] [.rd 1 (RInt .u16) s_1] (vb r) [.gone] := by
 refine Spec.enter Try.func50 rfl Try.ntmps50 rfl rfl fun fx => ?_
 refine SC.r tk [(0, vs 0), (1, vi .u16 v_2)] [] [] [] (by kernel_rfl) ?_
 refine SC.seq ?_
 refine SC.reg ?_
 refine SL.sim tk 2 [(5, vs 0), (6, vi .u16 v_2)] [] [] [] (by kernel_rfl) ?_
 obtain ⟨x_3, e_x_3, hp⟩ := bind_inv hp
 refine SL.eff (e_c Try.call70 (ok_slices_Index_uint16_uint16 F s_1 v_2 _ e_x_3) [.g 0] [vs 0, vi .u16 v_2] (vi .i64 x_3) (by kernel_rfl) (.inl rfl)) rfl (by kernel_rfl) ?_
 refine SL.sim tk 2 [(4, vb (decide (x_3 ≥ 0)))] [] [] [] (by kernel_rfl) ?_
 refine SL.nilThen ?_
 obtain rfl := some_inv' hp
 exact SC.re (js := [.g 0]) tk (by kernel_rfl)

theorem ok_friend_Wants (F : Nat) (f_1 : T_api_Friend) (dst_2 : Int) (r : Bool) (hp : friend_Wants F f_1 dst_2 = some r) : Spec Try.prog 18 [.g (C_api_Friend f_1 (.s 0) (.s 1)), vi .u16 dst_2] [.rd 18 R_T_api_Queued f_1.Queue, .rd 1 (RInt .u16) f_1.Subs] (vb r) [.gone, .gone] := by
 refine Spec.enter Try.func18 rfl Try.ntmps18 rfl rfl fun fx => ?_
 refine SC.seq ?_
 refine SC.reg ?_
 refine SL.eff (e_box (E := 28) (C_api_Friend f_1 (.s 0) (.s 1)) (by kernel_rfl)) rfl (by kernel_rfl) ?_
 refine SL.sim tk 1 [(1, vi .u16 dst_2), (2, vp 2 0)] [] [] [] (by kernel_rfl) ?_
 refine SL.nilThen ?_
 refine SC.seq ?_
 refine SC.reg ?_
 refine SL.sim tk 4 [(1, vi .u16 dst_2), (2, vp 2 0), (8, vb (f_1.Low != 0))] [] [] [] (by kernel_rfl) ?_
 obtain ⟨z_4, hz, hpr⟩ := bind_inv hp
 clear hp
 refine SL.cutAt 15 (fun a w => A 24 2 fx [(23, vb z_4)] [.gone, .gone] a w) ?_ ?_
 · have hp := hz
   rcases Bool.eq_false_or_eq_true ((f_1.Low != 0)) with hg_3 | hg_3
   · replace hp := if_t hp hg_3
     refine SL.yes rfl rfl hg_3 ?_
     refine SL.sim tk 1 [(1, vi .u16 dst_2), (2, vp 2 0), (8, vb (f_1.Low != 0)), (9, vi .u16 dst_2)] [] [] [] (by kernel_rfl) ?_
     refine SL.yes rfl rfl hg_3 ?_
     refine SL.sim tk 1 [(1, vi .u16 dst_2), (2, vp 2 0), (8, vb (f_1.Low != 0)), (9, vi .u16 dst_2), (10, vp 2 0)] [] [] [] (by kernel_rfl) ?_
     refine SL.yes rfl rfl hg_3 ?_
     refine SL.sim tk 1 [(1, vi .u16 dst_2), (2, vp 2 0), (8, vb (f_1.Low != 0)), (9, vi .u16 dst_2), (11, vi .u16 f_1.Low)] [] [] [] (by kernel_rfl) ?_
     refine SL.yes rfl rfl hg_3 ?_
     refine SL.sim tk 1 [(1, vi .u16 dst_2), (2, vp 2 0), (8, vb (f_1.Low != 0)), (12, vb (dst_2 == f_1.Low))] [] [] [] (by kernel_rfl) ?_
     refine SL.yes rfl rfl hg_3 ?_
     refine SL.sim tk 1 [(1, vi .u16 dst_2), (2, vp 2 0), (8, vb (f_1.Low != 0)), (13, vb (dst_2 == f_1.Low))] [] [] [] (by kernel_rfl) ?_
     rcases Bool.eq_false_or_eq_true ((dst_2 == f_1.Low)) with hg_6 | hg_6
     · replace hp := if_t hp hg_6
       refine SL.no rfl rfl hg_6 rfl ?_
       refine SL.no rfl rfl hg_6 rfl ?_
       refine SL.yes rfl rfl hg_3 ?_
       refine SL.pickt rfl hg_6 rfl rfl ?_
       refine SL.yes rfl rfl hg_3 ?_
       refine SL.sim tk 1 [(1, vi .u16 dst_2), (2, vp 2 0), (8, vb (f_1.Low != 0)), (17, vb true)] [] [] [] (by kernel_rfl) ?_
       rcases Bool.eq_false_or_eq_true (true) with hg_7 | hg_7
       · replace hp := if_t hp hg_7
         refine SL.no rfl rfl hg_7 rfl ?_
         refine SL.no rfl rfl hg_7 rfl ?_
         refine SL.no rfl rfl hg_7 rfl ?_
         refine SL.no rfl rfl hg_7 rfl ?_
         refine SL.yes rfl rfl hg_3 ?_
         refine SL.pickt rfl hg_7 rfl rfl ?_
         refine SL.pickt rfl hg_3 rfl rfl ?_
         refine SL.nilJ fun a w h => ?_
         obtain rfl := some_inv' hp
         exact h.at (js := [.g 0, .g 1]) (by kernel_rfl)
       · replace hp := if_f hp hg_7
         refine SL.yes rfl rfl hg_7 ?_
         refine SL.sim tk 1 [(1, vi .u16 dst_2), (8, vb (f_1.Low != 0)), (17, vb true), (18, vp 2 2)] [] [] [] (by kernel_rfl) ?_
         refine SL.yes rfl rfl hg_7 ?_
         refine SL.sim tk 1 [(1, vi .u16 dst_2), (8, vb (f_1.Low != 0)), (17, vb true), (19, vs 1)] [] [] [] (by kernel_rfl) ?_
         refine SL.yes rfl rfl hg_7 ?_
         refine SL.sim tk 1 [(8, vb (f_1.Low != 0)), (17, vb true), (19, vs 1), (20, vi .u16 dst_2)] [] [] [] (by kernel_rfl) ?_
         refine SL.yes rfl rfl hg_7 ?_
         obtain ⟨x_8, e_x_8, hp⟩ := bind_inv hp
         refine SL.eff (e_c Try.call50 (ok_slices_Contains_uint16_uint16 F f_1.Subs dst_2 _ e_x_8) [.g 1] [vs 1, vi .u16 dst_2] (vb x_8) (by kernel_rfl) (.inl rfl)) rfl (by kernel_rfl) ?_
         refine SL.yes rfl rfl hg_3 ?_
         refine SL.pickf rfl hg_7 rfl rfl ?_
         refine SL.pickt rfl hg_3 rfl rfl ?_
         refine SL.nilJ fun a w h => ?_
         obtain rfl := some_inv' hp
         exact h.at (js := [.g 0, .g 1]) (by kernel_rfl)
     · replace hp := if_f hp hg_6
       refine SL.yes rfl rfl hg_6 ?_
       refine SL.sim tk 1 [(1, vi .u16 dst_2), (2, vp 2 0), (8, vb (f_1.Low != 0)), (13, vb (dst_2 == f_1.Low)), (14, vi .u16 dst_2)] [] [] [] (by kernel_rfl) ?_
       refine SL.yes rfl rfl hg_6 ?_
       refine SL.sim tk 1 [(1, vi .u16 dst_2), (2, vp 2 0), (8, vb (f_1.Low != 0)), (13, vb (dst_2 == f_1.Low)), (15, vb (dst_2 == 65535))] [] [] [] (by kernel_rfl) ?_
       refine SL.yes rfl rfl hg_3 ?_
       refine SL.pickf rfl hg_6 rfl rfl ?_
       refine SL.yes rfl rfl hg_3 ?_
       refine SL.sim tk 1 [(1, vi .u16 dst_2), (2, vp 2 0), (8, vb (f_1.Low != 0)), (17, vb (dst_2 == 65535))] [] [] [] (by kernel_rfl) ?_
       rcases Bool.eq_false_or_eq_true ((dst_2 == 65535)) with hg_9 | hg_9
       · replace hp := if_t hp hg_9
         refine SL.no rfl rfl hg_9 rfl ?_
         refine SL.no rfl rfl hg_9 rfl ?_
         refine SL.no rfl rfl hg_9 rfl ?_
         refine SL.no rfl rfl hg_9 rfl ?_
         refine SL.yes rfl rfl hg_3 ?_
         refine SL.pickt rfl hg_9 rfl rfl ?_
         refine SL.pickt rfl hg_3 rfl rfl ?_
         refine SL.nilJ fun a w h => ?_
         obtain rfl := some_inv' hp
         exact h.at (js := [.g 0, .g 1]) (by kernel_rfl)
       · replace hp := if_f hp hg_9
         refine SL.yes rfl rfl hg_9 ?_
         refine SL.sim tk 1 [(1, vi .u16 dst_2), (8, vb (f_1.Low != 0)), (17, vb (dst_2 == 65535)), (18, vp 2 2)] [] [] [] (by kernel_rfl) ?_
         refine SL.yes rfl rfl hg_9 ?_
         refine SL.sim tk 1 [(1, vi .u16 dst_2), (8, vb (f_1.Low != 0)), (17, vb (dst_2 == 65535)), (19, vs 1)] [] [] [] (by kernel_rfl) ?_
         refine SL.yes rfl rfl hg_9 ?_
         refine SL.sim tk 1 [(8, vb (f_1.Low != 0)), (17, vb (dst_2 == 65535)), (19, vs 1), (20, vi .u16 dst_2)] [] [] [] (by kernel_rfl) ?_
         refine SL.yes rfl rfl hg_9 ?_
         obtain ⟨x_10, e_x_10, hp⟩ := bind_inv hp
         refine SL.eff (e_c Try.call50 (ok_slices_Contains_uint16_uint16 F f_1.Subs dst_2 _ e_x_10) [.g 1] [vs 1, vi .u16 dst_2] (vb x_10) (by kernel_rfl) (.inl rfl)) rfl (by kernel_rfl) ?_
         refine SL.yes rfl rfl hg_3 ?_
         refine SL.pickf rfl hg_9 rfl rfl ?_
         refine SL.pickt rfl hg_3 rfl rfl ?_
         refine SL.nilJ fun a w h => ?_
         obtain rfl := some_inv' hp
         exact h.at (js := [.g 0, .g 1]) (by kernel_rfl)
   · replace hp := if_f hp hg_3
     refine SL.no rfl rfl hg_3 rfl ?_
     refine SL.no rfl rfl hg_3 rfl ?_
     refine SL.no rfl rfl hg_3 rfl ?_
     refine SL.no rfl rfl hg_3 rfl ?_
     refine SL.no rfl rfl hg_3 rfl ?_
     refine SL.noU rfl rfl rfl ?_
     refine SL.noU rfl rfl rfl ?_
     refine SL.no rfl rfl hg_3 rfl ?_
     refine SL.no rfl rfl hg_3 rfl ?_
     refine SL.noU rfl rfl rfl ?_
     refine SL.noU rfl rfl rfl ?_
     refine SL.noU rfl rfl rfl ?_
     refine SL.noU rfl rfl rfl ?_
     refine SL.no rfl rfl hg_3 rfl ?_
     refine SL.pickf rfl hg_3 rfl rfl ?_
     refine SL.nilJ fun a w h => ?_
     obtain rfl := some_inv' hp
     exact h.at (js := [.g 0, .g 1]) (by kernel_rfl)
 · intro a w h
   have hp := hpr; clear hpr hz
   refine h.goL ?_
   refine SL.sim tk 1 [(4, vb z_4)] [] [] [] (by kernel_rfl) ?_
   refine SL.nilThen ?_
   obtain rfl := some_inv' hp
   exact SC.re (js := [.g 0, .g 1]) tk (by kernel_rfl)

theorem ok_wirelesslaw51_lives (F : Nat) (r : Bool) (hp : wirelesslaw51_lives F = some r) : Spec Try.prog 7 [] [] (vb r) [] := by
 refine Spec.enter Try.func7 rfl Try.ntmps7 rfl rfl fun fx => ?_
 refine SC.r tk [] [] [] [] (by kernel_rfl) ?_
 refine SC.seq ?_
 refine SC.reg ?_
 refine SL.sim tk 1 [(12, .g (C_api_Friend (T_api_Friend.mk 0 [] [] 0 false 0 0 0) nl nl))] [] [] [] (by kernel_rfl) ?_
 obtain ⟨x_1, e_x_1, hp⟩ := bind_inv hp
 refine SL.eff (e_c Try.call8 (ok_friend_Befriend F (T_api_Friend.mk 0 [] [] 0 false 0 0 0) 5 1 0 _ e_x_1) [.n, .n] [.g (C_api_Friend (T_api_Friend.mk 0 [] [] 0 false 0 0 0) nl nl), vi .u16 5, vi .i64 1, vi .i64 0] (.u [.inr (C_api_Friend x_1.1 (.s 0) (.s 1)), .inl (cb x_1.2)]) (by kernel_rfl) (.inl rfl)) rfl (by kernel_rfl) ?_
 refine SL.sim tk 3 [(14, .g (C_api_Friend x_1.1 (.s 0) (.s 1))), (15, vb x_1.2)] [] [] [] (by kernel_rfl) ?_
 refine SL.eff (e_alloc (E := 28) tk (C_api_Friend (T_api_Friend.mk 0 [] [] 0 false 0 0 0) nl nl) (by kernel_rfl)) rfl (by kernel_rfl) ?_
 refine SL.sim tk 2 [(1, vp 2 0), (2, vb x_1.2)] [(2, 28, (C_api_Friend x_1.1 (.s 0) (.s 1)))] [] [] (by kernel_rfl) ?_
 refine SL.nilThen ?_
 refine SC.seq ?_
 refine SC.reg ?_
 refine SL.sim tk 1 [(1, vp 2 0), (2, vb x_1.2), (17, .g (C_api_Friend x_1.1 (.s 0) (.s 1)))] [] [] [] (by kernel_rfl) ?_
 obtain ⟨x_2, e_x_2, hp⟩ := bind_inv hp
 refine SL.eff (e_c Try.call8 (ok_friend_Befriend F x_1.1 6 1 199 _ e_x_2) [.g 0, .g 1] [.g (C_api_Friend x_1.1 (.s 0) (.s 1)), vi .u16 6, vi .i64 1, vi .i64 199] (.u [.inr (C_api_Friend x_2.1 (.s 3) (.s 4)), .inl (cb x_2.2)]) (by kernel_rfl) (.inl rfl)) rfl (by kernel_rfl) ?_
 refine SL.norm (itsN := [.rd 18 R_T_api_Queued x_1.1.Queue, .rd 1 (RInt .u16) x_1.1.Subs, .blk 28 (C_api_Friend x_1.1 (.s 0) (.s 1)), .rd 18 R_T_api_Queued x_2.1.Queue, .rd 1 (RInt .u16) x_2.1.Subs]) (by kernel_rfl) ?_
 refine SL.sim tk 3 [(1, vp 2 0), (2, vb x_1.2), (19, .g (C_api_Friend x_2.1 (.s 3) (.s 4))), (20, vb x_2.2)] [] [] [] (by kernel_rfl) ?_
 refine SL.eff (e_alloc (E := 28) tk (C_api_Friend (T_api_Friend.mk 0 [] [] 0 false 0 0 0) nl nl) (by kernel_rfl)) rfl (by kernel_rfl) ?_
 refine SL.sim tk 2 [(1, vp 2 0), (2, vb x_1.2), (3, vp 5 0), (4, vb x_2.2)] [(5, 28, (C_api_Friend x_2.1 (.s 3) (.s 4)))] [] [] (by kernel_rfl) ?_
 refine SL.nilThen ?_
 refine SC.cut (fun a w => ∃ (c_11 : T_api_Friend), wirelesslaw51_lives_j1 F x_1 x_2 c_11 = some r ∧ A 148 0 fx [(1, vp 0 0), (2, vb x_1.2), (3, vp 3 0), (4, vb x_2.2)] [.blk 28 (C_api_Friend c_11 (.s 1) (.s 2)), .rd 18 R_T_api_Queued c_11.Queue, .rd 1 (RInt .u16) c_11.Subs, .blk 28 (C_api_Friend x_2.1 (.s 4) (.s 5)), .rd 18 R_T_api_Queued x_2.1.Queue, .rd 1 (RInt .u16) x_2.1.Subs] a w) ?_ ?_
 · refine SC.draw MO [I, I, O, I, I, I] (by kernel_rfl) fun kap_48 D_49 => ?_
   obtain ⟨x_130, e_x_130, hp⟩ := bind_inv hp
   obtain ⟨x_210, e_x_210, hp⟩ := bind_inv hp
   obtain ⟨x_290, e_x_290, hp⟩ := bind_inv hp
   obtain ⟨x_370, e_x_370, hp⟩ := bind_inv hp
   refine SD.lay 0 [I, I, I, I, I, I] [(1, vp 2 0), (2, vb x_1.2), (3, vp 5 0), (4, vb x_2.2)] [.rd 18 R_T_api_Queued x_1.1.Queue, .rd 1 (RInt .u16) x_1.1.Subs, .blk 28 (C_api_Friend x_370 (.s 12) (.s 13)), .rd 18 R_T_api_Queued x_2.1.Queue, .rd 1 (RInt .u16) x_2.1.Subs, .blk 28 (C_api_Friend x_2.1 (.s 3) (.s 4)), .gone, .gone, .gone, .gone, .gone, .gone, .rd 18 R_T_api_Queued x_370.Queue, .rd 1 (RInt .u16) x_370.Subs] ?_ (fun c_49_0 => ?_)
   · refine SD.done (by kernel_rfl) fun a w h => ?_
     exact ⟨x_370, hp, h.at (js := [.g 2, .g 12, .g 13, .g 5, .g 3, .g 4]) (by kernel_rfl)⟩
   · refine SD.lay 1 [I, I, I, I, I, O] [(1, vp 2 0), (2, vb x_1.2), (3, vp 5 0), (4, vb x_2.2), (25, .g (C_api_Friend x_370 (.s 12) (.s 13)))] [.rd 18 R_T_api_Queued x_1.1.Queue, .rd 1 (RInt .u16) x_1.1.Subs, .blk 28 (C_api_Friend x_1.1 (.s 0) (.s 1)), .rd 18 R_T_api_Queued x_2.1.Queue, .rd 1 (RInt .u16) x_2.1.Subs, .blk 28 (C_api_Friend x_2.1 (.s 3) (.s 4)), .gone, .gone, .gone, .gone, .gone, .gone, .rd 18 R_T_api_Queued x_370.Queue, .rd 1 (RInt .u16) x_370.Subs] ?_ (fun c_49_1 => ?_)
     · refine SD.all1 (i := 5) (by kernel_rfl) ?_
       refine SW.store D_49 tk (i := 5) (q := 2) (T := 28) (cs := (C_api_Friend x_370 (.s 12) (.s 13))) (bs' := [I, I, I, I, I, I]) rfl (by kernel_rfl) rfl rfl (by kernel_rfl) ?_
       exact SD.vie D_49 [.g 0, .g 1, .g 2, .g 3, .g 4, .g 5, .n, .n, .n, .n, .n, .n, .g 12, .g 13] c_49_0 (by kernel_rfl)
     · refine SD.lay 2 [I, I, I, I, O, O] [(1, vp 2 0), (2, vb x_1.2), (3, vp 5 0), (4, vb x_2.2), (23, .g (C_api_Friend x_210 (.s 8) (.s 9))), (24, .g (C_api_Queued x_290 (.s 10) (.s 11)))] [.rd 18 R_T_api_Queued x_1.1.Queue, .rd 1 (RInt .u16) x_1.1.Subs, .blk 28 (C_api_Friend x_1.1 (.s 0) (.s 1)), .rd 18 R_T_api_Queued x_2.1.Queue, .rd 1 (RInt .u16) x_2.1.Subs, .blk 28 (C_api_Friend x_2.1 (.s 3) (.s 4)), .gone, .gone, .rd 18 R_T_api_Queued x_210.Queue, .rd 1 (RInt .u16) x_210.Subs, .rd 1 R8 x_290.PDU.Payload, .rd 1 R8 x_290.Lower.Bytes] ?_ (fun c_49_2 => ?_)
       · refine SD.all1 (i := 4) (by kernel_rfl) ?_
         refine SW.eff D_49 (i := 4) (bs' := [I, I, I, I, I, O]) rfl (.inl rfl) rfl (e_c Try.call10 (ok_friend_Keep F x_210 x_290 _ e_x_370) [.g 8, .g 9, .g 10, .g 11] [.g (C_api_Friend x_210 (.s 8) (.s 9)), .g (C_api_Queued x_290 (.s 10) (.s 11))] (.g (C_api_Friend x_370 (.s 12) (.s 13))) (by kernel_rfl) (.inl rfl)) (by kernel_rfl) rfl (by kernel_rfl) ?_
         exact SD.vie D_49 [.g 0, .g 1, .g 2, .g 3, .g 4, .g 5, .n, .n, .n, .n, .n, .n, .g 12, .g 13] c_49_1 (by kernel_rfl)
       · refine SD.lay 3 [I, I, I, O, O, O] [(1, vp 2 0), (2, vb x_1.2), (3, vp 5 0), (4, vb x_2.2), (23, .g (C_api_Friend x_210 (.s 8) (.s 9)))] [.rd 18 R_T_api_Queued x_1.1.Queue, .rd 1 (RInt .u16) x_1.1.Subs, .blk 28 (C_api_Friend x_1.1 (.s 0) (.s 1)), .rd 18 R_T_api_Queued x_2.1.Queue, .rd 1 (RInt .u16) x_2.1.Subs, .blk 28 (C_api_Friend x_2.1 (.s 3) (.s 4)), .gone, .gone, .rd 18 R_T_api_Queued x_210.Queue, .rd 1 (RInt .u16) x_210.Subs] ?_ (fun c_49_3 => ?_)
         · refine SD.all1 (i := 3) (by kernel_rfl) ?_
           refine SW.eff D_49 (i := 3) (bs' := [I, I, I, I, O, O]) rfl (.inl rfl) rfl (e_c Try.call22 (ok_wirelesslaw51_queued F 2 _ e_x_290) [] [vi .u32 2] (.g (C_api_Queued x_290 (.s 10) (.s 11))) (by kernel_rfl) (.inl rfl)) (by kernel_rfl) rfl (by kernel_rfl) ?_
           exact SD.vie D_49 [.g 0, .g 1, .g 2, .g 3, .g 4, .g 5, .n, .n, .g 8, .g 9, .g 10, .g 11] c_49_2 (by kernel_rfl)
         · refine SD.lay 4 [I, I, O, O, O, O] [(1, vp 2 0), (2, vb x_1.2), (3, vp 5 0), (4, vb x_2.2), (21, .g (C_api_Friend x_1.1 (.s 0) (.s 1))), (22, .g (C_api_Queued x_130 (.s 6) (.s 7)))] [.rd 18 R_T_api_Queued x_1.1.Queue, .rd 1 (RInt .u16) x_1.1.Subs, .blk 28 (C_api_Friend x_1.1 (.s 0) (.s 1)), .rd 18 R_T_api_Queued x_2.1.Queue, .rd 1 (RInt .u16) x_2.1.Subs, .blk 28 (C_api_Friend x_2.1 (.s 3) (.s 4)), .rd 1 R8 x_130.PDU.Payload, .rd 1 R8 x_130.Lower.Bytes] ?_ (fun c_49_4 => ?_)
           · refine SD.all1 (i := 2) (by kernel_rfl) ?_
             refine SW.eff D_49 (i := 2) (bs' := [I, I, I, O, O, O]) rfl (.inl rfl) rfl (e_c Try.call10 (ok_friend_Keep F x_1.1 x_130 _ e_x_210) [.g 0, .g 1, .g 6, .g 7] [.g (C_api_Friend x_1.1 (.s 0) (.s 1)), .g (C_api_Queued x_130 (.s 6) (.s 7))] (.g (C_api_Friend x_210 (.s 8) (.s 9))) (by kernel_rfl) (.inl rfl)) (by kernel_rfl) rfl (by kernel_rfl) ?_
             exact SD.vie D_49 [.g 0, .g 1, .g 2, .g 3, .g 4, .g 5, .n, .n, .g 8, .g 9] c_49_3 (by kernel_rfl)
           · refine SD.lay 5 [I, O, O, O, O, O] [(1, vp 2 0), (2, vb x_1.2), (3, vp 5 0), (4, vb x_2.2), (21, .g (C_api_Friend x_1.1 (.s 0) (.s 1)))] [.rd 18 R_T_api_Queued x_1.1.Queue, .rd 1 (RInt .u16) x_1.1.Subs, .blk 28 (C_api_Friend x_1.1 (.s 0) (.s 1)), .rd 18 R_T_api_Queued x_2.1.Queue, .rd 1 (RInt .u16) x_2.1.Subs, .blk 28 (C_api_Friend x_2.1 (.s 3) (.s 4))] ?_ (fun c_49_5 => ?_)
             · refine SD.all1 (i := 1) (by kernel_rfl) ?_
               refine SW.eff D_49 (i := 1) (bs' := [I, I, O, O, O, O]) rfl (.inl rfl) rfl (e_c Try.call22 (ok_wirelesslaw51_queued F 1 _ e_x_130) [] [vi .u32 1] (.g (C_api_Queued x_130 (.s 6) (.s 7))) (by kernel_rfl) (.inl rfl)) (by kernel_rfl) rfl (by kernel_rfl) ?_
               exact SD.vie D_49 [.g 0, .g 1, .g 2, .g 3, .g 4, .g 5, .g 6, .g 7] c_49_4 (by kernel_rfl)
             · refine SD.lay 5 [O, I, O, O, O, O] [(1, vp 2 0), (2, vb x_1.2), (3, vp 5 0), (4, vb x_2.2), (22, .g (C_api_Queued x_130 (.s 6) (.s 7)))] [.rd 18 R_T_api_Queued x_1.1.Queue, .rd 1 (RInt .u16) x_1.1.Subs, .blk 28 (C_api_Friend x_1.1 (.s 0) (.s 1)), .rd 18 R_T_api_Queued x_2.1.Queue, .rd 1 (RInt .u16) x_2.1.Subs, .blk 28 (C_api_Friend x_2.1 (.s 3) (.s 4)), .rd 1 R8 x_130.PDU.Payload, .rd 1 R8 x_130.Lower.Bytes] ?_ (fun c_49_6 => ?_)
               · refine SD.all1 (i := 0) (by kernel_rfl) ?_
                 refine SW.eff D_49 (i := 0) (v := .g (C_api_Friend x_1.1 (.s 0) (.s 1))) (bs' := [I, I, O, O, O, O]) rfl (.inl rfl) rfl (e_val tk (by kernel_rfl)) (by kernel_rfl) rfl (by kernel_rfl) ?_
                 exact SD.vie D_49 [.g 0, .g 1, .g 2, .g 3, .g 4, .g 5, .g 6, .g 7] c_49_4 (by kernel_rfl)
               · refine SD.all2 (i := 0) (j := 1) (by kernel_rfl) ?_ ?_
                 · refine SW.eff D_49 (i := 0) (v := .g (C_api_Friend x_1.1 (.s 0) (.s 1))) (bs' := [I, O, O, O, O, O]) rfl (.inl rfl) rfl (e_val tk (by kernel_rfl)) (by kernel_rfl) rfl (by kernel_rfl) ?_
                   refine SD.norm (itsN := [.rd 18 R_T_api_Queued x_1.1.Queue, .rd 1 (RInt .u16) x_1.1.Subs, .blk 28 (C_api_Friend x_1.1 (.s 0) (.s 1)), .rd 18 R_T_api_Queued x_2.1.Queue, .rd 1 (RInt .u16) x_2.1.Subs, .blk 28 (C_api_Friend x_2.1 (.s 3) (.s 4))]) (by kernel_rfl) ?_
                   exact SD.vie D_49 [.g 0, .g 1, .g 2, .g 3, .g 4, .g 5] c_49_5 (by kernel_rfl)
                 · refine SW.eff D_49 (i := 1) (bs' := [O, I, O, O, O, O]) rfl (.inl rfl) rfl (e_c Try.call22 (ok_wirelesslaw51_queued F 1 _ e_x_130) [] [vi .u32 1] (.g (C_api_Queued x_130 (.s 6) (.s 7))) (by kernel_rfl) (.inl rfl)) (by kernel_rfl) rfl (by kernel_rfl) ?_
                   refine SD.norm (itsN := [.rd 18 R_T_api_Queued x_1.1.Queue, .rd 1 (RInt .u16) x_1.1.Subs, .blk 28 (C_api_Friend x_1.1 (.s 0) (.s 1)), .rd 18 R_T_api_Queued x_2.1.Queue, .rd 1 (RInt .u16) x_2.1.Subs, .blk 28 (C_api_Friend x_2.1 (.s 3) (.s 4)), .rd 1 R8 x_130.PDU.Payload, .rd 1 R8 x_130.Lower.Bytes]) (by kernel_rfl) ?_
                   exact SD.vie D_49 [.g 0, .g 1, .g 2, .g 3, .g 4, .g 5, .g 6, .g 7] c_49_6 (by kernel_rfl)
 · rintro a w ⟨c_11, hp, h⟩
   refine h.go ?_
   refine SC.seq ?_
   refine SC.reg ?_
   refine SL.sim tk 1 [(1, vp 0 0), (2, vb x_1.2), (3, vp 3 0), (4, vb x_2.2), (27, .g (C_api_Friend c_11 (.s 1) (.s 2)))] [] [] [] (by kernel_rfl) ?_
   obtain ⟨x_12, e_x_12, hp⟩ := bind_inv hp
   refine SL.eff (e_c Try.call9 (ok_friend_Poll F c_11 0 1 _ e_x_12) [.g 1, .g 2] [.g (C_api_Friend c_11 (.s 1) (.s 2)), vi .i64 0, vi .i64 1] (.u [.inr (C_api_Friend x_12.1 (.s 6) (.s 7)), .inl (.s 8)]) (by kernel_rfl) (.inl rfl)) rfl (by kernel_rfl) ?_
   refine SL.sim tk 5 [(1, vp 0 0), (2, vb x_1.2), (3, vp 3 0), (4, vb x_2.2), (5, vs 8)] [(0, 28, (C_api_Friend x_12.1 (.s 6) (.s 7)))] [] [] (by kernel_rfl) ?_
   refine SL.nilThen ?_
   refine SC.seq ?_
   refine SC.reg ?_
   refine SL.sim tk 1 [(1, vp 0 0), (2, vb x_1.2), (3, vp 3 0), (4, vb x_2.2), (5, vs 8), (32, .g (C_api_Friend x_12.1 (.s 6) (.s 7)))] [] [] [] (by kernel_rfl) ?_
   obtain ⟨x_13, e_x_13, hp⟩ := bind_inv hp
   refine SL.eff (e_c Try.call9 (ok_friend_Poll F x_12.1 0 2 _ e_x_13) [.g 6, .g 7] [.g (C_api_Friend x_12.1 (.s 6) (.s 7)), vi .i64 0, vi .i64 2] (.u [.inr (C_api_Friend x_13.1 (.s 9) (.s 10)), .inl (.s 11)]) (by kernel_rfl) (.inl rfl)) rfl (by kernel_rfl) ?_
   refine SL.norm (itsN := [.blk 28 (C_api_Friend x_12.1 (.s 6) (.s 7)), .rd 18 R_T_api_Queued c_11.Queue, .rd 1 (RInt .u16) c_11.Subs, .blk 28 (C_api_Friend x_2.1 (.s 4) (.s 5)), .rd 18 R_T_api_Queued x_2.1.Queue, .rd 1 (RInt .u16) x_2.1.Subs, .rd 18 R_T_api_Queued x_12.1.Queue, .rd 1 (RInt .u16) x_12.1.Subs, .rd 18 R_T_api_Queued x_12.2, .rd 18 R_T_api_Queued x_13.1.Queue, .rd 1 (RInt .u16) x_13.1.Subs, .rd 18 R_T_api_Queued x_13.2]) (by kernel_rfl) ?_
   refine SL.sim tk 5 [(1, vp 0 0), (2, vb x_1.2), (3, vp 3 0), (4, vb x_2.2), (5, vs 8), (6, vs 11)] [(0, 28, (C_api_Friend x_13.1 (.s 9) (.s 10)))] [] [] (by kernel_rfl) ?_
   refine SL.nilThen ?_
   refine SC.seq ?_
   refine SC.reg ?_
   refine SL.sim tk 1 [(1, vp 0 0), (2, vb x_1.2), (3, vp 3 0), (4, vb x_2.2), (5, vs 8), (6, vs 11), (37, .g (C_api_Friend x_13.1 (.s 9) (.s 10)))] [] [] [] (by kernel_rfl) ?_
   obtain ⟨x_14, e_x_14, hp⟩ := bind_inv hp
   refine SL.eff (e_c Try.call9 (ok_friend_Poll F x_13.1 1 3 _ e_x_14) [.g 9, .g 10] [.g (C_api_Friend x_13.1 (.s 9) (.s 10)), vi .i64 1, vi .i64 3] (.u [.inr (C_api_Friend x_14.1 (.s 12) (.s 13)), .inl (.s 14)]) (by kernel_rfl) (.inl rfl)) rfl (by kernel_rfl) ?_
   refine SL.sim tk 5 [(1, vp 0 0), (2, vb x_1.2), (3, vp 3 0), (4, vb x_2.2), (5, vs 8), (6, vs 11), (7, vs 14)] [(0, 28, (C_api_Friend x_14.1 (.s 12) (.s 13)))] [] [] (by kernel_rfl) ?_
   refine SL.nilThen ?_
   refine SC.seq ?_
   refine SC.reg ?_
   refine SL.sim tk 1 [(1, vp 0 0), (2, vb x_1.2), (3, vp 3 0), (4, vb x_2.2), (5, vs 8), (6, vs 11), (7, vs 14), (42, .g (C_api_Friend x_14.1 (.s 12) (.s 13)))] [] [] [] (by kernel_rfl) ?_
   obtain ⟨x_15, e_x_15, hp⟩ := bind_inv hp
   refine SL.eff (e_c Try.call9 (ok_friend_Poll F x_14.1 0 4 _ e_x_15) [.g 12, .g 13] [.g (C_api_Friend x_14.1 (.s 12) (.s 13)), vi .i64 0, vi .i64 4] (.u [.inr (C_api_Friend x_15.1 (.s 15) (.s 16)), .inl (.s 17)]) (by kernel_rfl) (.inl rfl)) rfl (by kernel_rfl) ?_
   refine SL.norm (itsN := [.blk 28 (C_api_Friend x_14.1 (.s 12) (.s 13)), .rd 18 R_T_api_Queued c_11.Queue, .rd 1 (RInt .u16) c_11.Subs, .blk 28 (C_api_Friend x_2.1 (.s 4) (.s 5)), .rd 18 R_T_api_Queued x_2.1.Queue, .rd 1 (RInt .u16) x_2.1.Subs, .rd 18 R_T_api_Queued x_12.1.Queue, .rd 1 (RInt .u16) x_12.1.Subs, .rd 18 R_T_api_Queued x_12.2, .rd 18 R_T_api_Queued x_13.1.Queue, .rd 1 (RInt .u16) x_13.1.Subs, .rd 18 R_T_api_Queued x_13.2, .rd 18 R_T_api_Queued x_14.1.Queue, .rd 1 (RInt .u16) x_14.1.Subs, .rd 18 R_T_api_Queued x_14.2, .rd 18 R_T_api_Queued x_15.1.Queue, .rd 1 (RInt .u16) x_15.1.Subs, .rd 18 R_T_api_Queued x_15.2]) (by kernel_rfl) ?_
   refine SL.sim tk 5 [(1, vp 0 0), (2, vb x_1.2), (3, vp 3 0), (4, vb x_2.2), (5, vs 8), (6, vs 11), (7, vs 14), (8, vs 17)] [(0, 28, (C_api_Friend x_15.1 (.s 15) (.s 16)))] [] [] (by kernel_rfl) ?_
   refine SL.nilThen ?_
   refine SC.seq ?_
   refine SC.seq ?_
   refine SC.reg ?_
   refine SL.sim tk 11 [(1, vp 0 0), (3, vp 3 0), (5, vs 8), (6, vs 11), (7, vs 14), (8, vs 17), (56, vb (((!x_1.2) || x_2.2) || (x_2.1.Low != 5)))] [] [] [] (by kernel_rfl) ?_
   obtain ⟨z_17, hz, hpr⟩ := bind_inv hp
   clear hp
   refine SL.cutAt 3 (fun a w => A 148 0 fx [(1, vp 0 0), (3, vp 3 0), (5, vs 6), (6, vs 7), (7, vs 8), (8, vs 9), (59, vb z_17)] [.blk 28 (C_api_Friend x_15.1 (.s 1) (.s 2)), .rd 18 R_T_api_Queued x_15.1.Queue, .rd 1 (RInt .u16) x_15.1.Subs, .blk 28 (C_api_Friend x_2.1 (.s 4) (.s 5)), .rd 18 R_T_api_Queued x_2.1.Queue, .rd 1 (RInt .u16) x_2.1.Subs, .rd 18 R_T_api_Queued x_12.2, .rd 18 R_T_api_Queued x_13.2, .rd 18 R_T_api_Queued x_14.2, .rd 18 R_T_api_Queued x_15.2] a w) ?_ ?_
   · have hp := hz
     rcases Bool.eq_false_or_eq_true ((((!x_1.2) || x_2.2) || (x_2.1.Low != 5))) with hg_16 | hg_16
     · replace hp := if_t hp hg_16
       refine SL.no rfl rfl hg_16 rfl ?_
       refine SL.no rfl rfl hg_16 rfl ?_
       refine SL.pickt rfl hg_16 rfl rfl ?_
       refine SL.nilJ fun a w h => ?_
       obtain rfl := some_inv' hp
       exact h.at (js := [.g 0, .g 15, .g 16, .g 3, .g 4, .g 5, .g 8, .g 11, .g 14, .g 17]) (by kernel_rfl)
     · replace hp := if_f hp hg_16
       refine SL.yes rfl rfl hg_16 ?_
       refine SL.sim tk 1 [(1, vp 0 0), (3, vp 3 0), (5, vs 8), (6, vs 11), (7, vs 14), (8, vs 17), (56, vb (((!x_1.2) || x_2.2) || (x_2.1.Low != 5))), (57, .g (C_api_Friend x_2.1 (.s 4) (.s 5)))] [] [] [] (by kernel_rfl) ?_
       refine SL.yes rfl rfl hg_16 ?_
       obtain ⟨x_47, e_x_47, hp⟩ := bind_inv hp
       refine SL.eff (e_c Try.call20 (ok_friend_Over F x_2.1 199 _ e_x_47) [.g 4, .g 5] [.g (C_api_Friend x_2.1 (.s 4) (.s 5)), vi .i64 199] (vb x_47) (by kernel_rfl) (.inl rfl)) rfl (by kernel_rfl) ?_
       refine SL.pickf rfl hg_16 rfl rfl ?_
       refine SL.nilJ fun a w h => ?_
       obtain rfl := some_inv' hp
       exact h.at (js := [.g 0, .g 15, .g 16, .g 3, .g 4, .g 5, .g 8, .g 11, .g 14, .g 17]) (by kernel_rfl)
   · intro a w h
     have hp := hpr; clear hpr hz
     refine h.goL ?_
     refine SL.sim tk 1 [(1, vp 0 0), (3, vp 3 0), (5, vs 6), (6, vs 7), (7, vs 8), (8, vs 9), (60, vb z_17)] [] [] [] (by kernel_rfl) ?_
     obtain ⟨z_19, hz, hpr⟩ := bind_inv hp
     clear hp
     refine SL.cutAt 4 (fun a w => A 148 0 fx [(1, vp 0 0), (3, vp 3 0), (5, vs 6), (6, vs 7), (7, vs 8), (8, vs 9), (64, vb z_19)] [.blk 28 (C_api_Friend x_15.1 (.s 1) (.s 2)), .rd 18 R_T_api_Queued x_15.1.Queue, .rd 1 (RInt .u16) x_15.1.Subs, .blk 28 (C_api_Friend x_2.1 (.s 4) (.s 5)), .rd 18 R_T_api_Queued x_2.1.Queue, .rd 1 (RInt .u16) x_2.1.Subs, .rd 18 R_T_api_Queued x_12.2, .rd 18 R_T_api_Queued x_13.2, .rd 18 R_T_api_Queued x_14.2, .rd 18 R_T_api_Queued x_15.2] a w) ?_ ?_
     · have hp := hz
       rcases Bool.eq_false_or_eq_true (z_17) with hg_18 | hg_18
       · replace hp := if_t hp hg_18
         refine SL.no rfl rfl hg_18 rfl ?_
         refine SL.no rfl rfl hg_18 rfl ?_
         refine SL.no rfl rfl hg_18 rfl ?_
         refine SL.pickt rfl hg_18 rfl rfl ?_
         refine SL.nilJ fun a w h => ?_
         obtain rfl := some_inv' hp
         exact h.at (js := [.g 0, .g 1, .g 2, .g 3, .g 4, .g 5, .g 6, .g 7, .g 8, .g 9]) (by kernel_rfl)
       · replace hp := if_f hp hg_18
         refine SL.yes rfl rfl hg_18 ?_
         refine SL.sim tk 1 [(1, vp 0 0), (3, vp 3 0), (5, vs 6), (6, vs 7), (7, vs 8), (8, vs 9), (60, vb z_17), (61, .g (C_api_Friend x_2.1 (.s 4) (.s 5)))] [] [] [] (by kernel_rfl) ?_
         refine SL.yes rfl rfl hg_18 ?_
         obtain ⟨x_45, e_x_45, hp⟩ := bind_inv hp
         refine SL.eff (e_c Try.call20 (ok_friend_Over F x_2.1 200 _ e_x_45) [.g 4, .g 5] [.g (C_api_Friend x_2.1 (.s 4) (.s 5)), vi .i64 200] (vb x_45) (by kernel_rfl) (.inl rfl)) rfl (by kernel_rfl) ?_
         refine SL.yes rfl rfl hg_18 ?_
         refine SL.sim tk 1 [(1, vp 0 0), (3, vp 3 0), (5, vs 6), (6, vs 7), (7, vs 8), (8, vs 9), (60, vb z_17), (63, vb (!x_45))] [] [] [] (by kernel_rfl) ?_
         refine SL.pickf rfl hg_18 rfl rfl ?_
         refine SL.nilJ fun a w h => ?_
         obtain rfl := some_inv' hp
         exact h.at (js := [.g 0, .g 1, .g 2, .g 3, .g 4, .g 5, .g 6, .g 7, .g 8, .g 9]) (by kernel_rfl)
     · intro a w h
       have hp := hpr; clear hpr hz
       refine h.goL ?_
       refine SL.sim tk 26 [(3, vp 3 0), (5, vs 6), (6, vs 7), (7, vs 8), (90, vb (((((z_19 || ((len x_12.2) != 1)) || ((len x_13.2) != 1)) || ((len x_14.2) != 1)) || ((len x_15.2) != 0)) || ((len x_15.1.Queue) != 0)))] [] [] [] (by kernel_rfl) ?_
       refine SL.nilThen ?_
       refine SC.if' rfl hp (fun hp => ?_) (fun hp => ?_)
       · refine SC.r tk [(0, vb false)] [] [] [] (by kernel_rfl) ?_
         obtain rfl := some_inv' hp
         exact SC.re (js := []) tk (by kernel_rfl)
       · refine SC.skipThen ?_
         refine SC.seq ?_
         refine SC.reg ?_
         refine SL.sim tk 1 [(3, vp 3 0), (5, vs 6), (6, vs 7), (7, vs 8), (92, .g (C_api_LowPower (T_api_LowPower.mk 0 0 0 0 0 0 [] 0 false 0) nl))] [] [] [] (by kernel_rfl) ?_
         obtain ⟨x_20, e_x_20, hp⟩ := bind_inv hp
         refine SL.eff (e_c Try.call12 (ok_friend_Seek F (T_api_LowPower.mk 0 0 0 0 0 0 [] 0 false 0) [] 7 _ e_x_20) [.n, .n] [.g (C_api_LowPower (T_api_LowPower.mk 0 0 0 0 0 0 [] 0 false 0) nl), vn, vi .i64 7] (.g (C_api_LowPower x_20 (.s 10))) (by kernel_rfl) (.inl rfl)) rfl (by kernel_rfl) ?_
         obtain ⟨x_21, e_x_21, hp⟩ := bind_inv hp
         refine SL.eff (e_c Try.call23 (ok_friend_Tick F x_20 7 _ e_x_21) [.g 10] [.g (C_api_LowPower x_20 (.s 10)), vi .i64 7] (.u [.inr (C_api_LowPower x_21.1 (.s 11)), .inl (.s 12)]) (by kernel_rfl) (.inl rfl)) rfl (by kernel_rfl) ?_
         refine SL.norm (itsN := [.blk 28 (C_api_Friend x_15.1 (.s 1) (.s 2)), .rd 18 R_T_api_Queued x_15.1.Queue, .rd 1 (RInt .u16) x_15.1.Subs, .blk 28 (C_api_Friend x_2.1 (.s 4) (.s 5)), .rd 18 R_T_api_Queued x_2.1.Queue, .rd 1 (RInt .u16) x_2.1.Subs, .rd 18 R_T_api_Queued x_12.2, .rd 18 R_T_api_Queued x_13.2, .rd 18 R_T_api_Queued x_14.2, .rd 18 R_T_api_Queued x_15.2, .rd 1 (RInt .u16) x_20.Subs, .rd 1 (RInt .u16) x_21.1.Subs, .rd 10 R_T_api_Lower x_21.2]) (by kernel_rfl) ?_
         refine SL.sim tk 3 [(3, vp 3 0), (5, vs 6), (6, vs 7), (7, vs 8), (95, .g (C_api_LowPower x_21.1 (.s 11))), (96, vs 12)] [] [] [] (by kernel_rfl) ?_
         refine SL.eff (e_alloc (E := 47) tk (C_api_LowPower (T_api_LowPower.mk 0 0 0 0 0 0 [] 0 false 0) nl) (by kernel_rfl)) rfl (by kernel_rfl) ?_
         refine SL.sim tk 2 [(3, vp 3 0), (5, vs 6), (6, vs 7), (7, vs 8), (9, vp 13 0), (10, vs 12)] [(13, 47, (C_api_LowPower x_21.1 (.s 11)))] [] [] (by kernel_rfl) ?_
         refine SL.nilThen ?_
         refine SC.seq ?_
         refine SC.reg ?_
         obtain ⟨x_22, e_x_22, hp⟩ := bind_inv hp
         refine SL.pre (pre_ix (i := 6) (iv := 0) (sz := 18) (R := R_T_api_Queued) (l := x_12.2) (by kernel_rfl) rfl e_x_22) ?_
         refine SL.sim tk 7 [(3, vp 3 0), (6, vs 7), (7, vs 8), (9, vp 13 0), (10, vs 12), (103, vb (x_22.PDU.Seq == 1))] [] [.el 14] [0] (by kernel_rfl) ?_
         obtain ⟨z_24, hz, hpr⟩ := bind_inv hp
         clear hp
         refine SL.cutAt 7 (fun a w => A 148 0 fx [(3, vp 0 0), (7, vs 3), (9, vp 4 0), (10, vs 6), (110, vb z_24)] [.blk 28 (C_api_Friend x_2.1 (.s 1) (.s 2)), .rd 18 R_T_api_Queued x_2.1.Queue, .rd 1 (RInt .u16) x_2.1.Subs, .rd 18 R_T_api_Queued x_14.2, .blk 47 (C_api_LowPower x_21.1 (.s 5)), .rd 1 (RInt .u16) x_21.1.Subs, .rd 10 R_T_api_Lower x_21.2] a w) ?_ ?_
         · have hp := hz
           rcases Bool.eq_false_or_eq_true ((x_22.PDU.Seq == 1)) with hg_23 | hg_23
           · replace hp := if_t hp hg_23
             refine SL.yes rfl rfl hg_23 ?_
             refine SL.sim tk 1 [(3, vp 3 0), (7, vs 8), (9, vp 13 0), (10, vs 12), (103, vb (x_22.PDU.Seq == 1)), (104, vs 7)] [] [] [] (by kernel_rfl) ?_
             refine SL.yes rfl rfl hg_23 ?_
             obtain ⟨x_43, e_x_43, hp⟩ := bind_inv hp
             refine SL.pre (pre_ix (i := 7) (iv := 0) (sz := 18) (R := R_T_api_Queued) (l := x_13.2) (by kernel_rfl) rfl e_x_43) ?_
             refine SL.sim tk 1 [(3, vp 3 0), (7, vs 8), (9, vp 13 0), (10, vs 12), (103, vb (x_22.PDU.Seq == 1)), (105, vp 17 0)] [] [.el 17] [0] (by kernel_rfl) ?_
             refine SL.yes rfl rfl hg_23 ?_
             refine SL.sim tk 1 [(3, vp 3 0), (7, vs 8), (9, vp 13 0), (10, vs 12), (103, vb (x_22.PDU.Seq == 1)), (106, vp 17 0)] [] [] [] (by kernel_rfl) ?_
             refine SL.yes rfl rfl hg_23 ?_
             refine SL.sim tk 1 [(3, vp 3 0), (7, vs 8), (9, vp 13 0), (10, vs 12), (103, vb (x_22.PDU.Seq == 1)), (107, vp 17 4)] [] [] [] (by kernel_rfl) ?_
             refine SL.yes rfl rfl hg_23 ?_
             refine SL.sim tk 1 [(3, vp 3 0), (7, vs 8), (9, vp 13 0), (10, vs 12), (103, vb (x_22.PDU.Seq == 1)), (108, vi .u32 x_43.PDU.Seq)] [] [] [] (by kernel_rfl) ?_
             refine SL.yes rfl rfl hg_23 ?_
             refine SL.sim tk 1 [(3, vp 3 0), (7, vs 8), (9, vp 13 0), (10, vs 12), (103, vb (x_22.PDU.Seq == 1)), (109, vb (x_43.PDU.Seq == 1))] [] [] [] (by kernel_rfl) ?_
             refine SL.pickt rfl hg_23 rfl rfl ?_
             refine SL.nilJ fun a w h => ?_
             obtain rfl := some_inv' hp
             exact h.at (js := [.g 3, .g 4, .g 5, .g 8, .g 13, .g 11, .g 12]) (by kernel_rfl)
           · replace hp := if_f hp hg_23
             refine SL.no rfl rfl hg_23 rfl ?_
             refine SL.no rfl rfl hg_23 rfl ?_
             refine SL.no rfl rfl hg_23 rfl ?_
             refine SL.no rfl rfl hg_23 rfl ?_
             refine SL.no rfl rfl hg_23 rfl ?_
             refine SL.no rfl rfl hg_23 rfl ?_
             refine SL.pickf rfl hg_23 rfl rfl ?_
             refine SL.nilJ fun a w h => ?_
             obtain rfl := some_inv' hp
             exact h.at (js := [.g 3, .g 4, .g 5, .g 8, .g 13, .g 11, .g 12]) (by kernel_rfl)
         · intro a w h
           have hp := hpr; clear hpr hz
           refine h.goL ?_
           refine SL.sim tk 1 [(3, vp 0 0), (7, vs 3), (9, vp 4 0), (10, vs 6), (111, vb z_24)] [] [] [] (by kernel_rfl) ?_
           obtain ⟨z_26, hz, hpr⟩ := bind_inv hp
           clear hp
           refine SL.cutAt 7 (fun a w => A 148 0 fx [(3, vp 0 0), (9, vp 3 0), (10, vs 5), (118, vb z_26)] [.blk 28 (C_api_Friend x_2.1 (.s 1) (.s 2)), .rd 18 R_T_api_Queued x_2.1.Queue, .rd 1 (RInt .u16) x_2.1.Subs, .blk 47 (C_api_LowPower x_21.1 (.s 4)), .rd 1 (RInt .u16) x_21.1.Subs, .rd 10 R_T_api_Lower x_21.2] a w) ?_ ?_
           · have hp := hz
             rcases Bool.eq_false_or_eq_true (z_24) with hg_25 | hg_25
             · replace hp := if_t hp hg_25
               refine SL.yes rfl rfl hg_25 ?_
               refine SL.sim tk 1 [(3, vp 0 0), (9, vp 4 0), (10, vs 6), (111, vb z_24), (112, vs 3)] [] [] [] (by kernel_rfl) ?_
               refine SL.yes rfl rfl hg_25 ?_
               obtain ⟨x_41, e_x_41, hp⟩ := bind_inv hp
               refine SL.pre (pre_ix (i := 3) (iv := 0) (sz := 18) (R := R_T_api_Queued) (l := x_14.2) (by kernel_rfl) rfl e_x_41) ?_
               refine SL.sim tk 1 [(3, vp 0 0), (9, vp 4 0), (10, vs 6), (111, vb z_24), (113, vp 7 0)] [] [.el 7] [0] (by kernel_rfl) ?_
               refine SL.yes rfl rfl hg_25 ?_
               refine SL.sim tk 1 [(3, vp 0 0), (9, vp 4 0), (10, vs 6), (111, vb z_24), (114, vp 7 0)] [] [] [] (by kernel_rfl) ?_
               refine SL.yes rfl rfl hg_25 ?_
               refine SL.sim tk 1 [(3, vp 0 0), (9, vp 4 0), (10, vs 6), (111, vb z_24), (115, vp 7 4)] [] [] [] (by kernel_rfl) ?_
               refine SL.yes rfl rfl hg_25 ?_
               refine SL.sim tk 1 [(3, vp 0 0), (9, vp 4 0), (10, vs 6), (111, vb z_24), (116, vi .u32 x_41.PDU.Seq)] [] [] [] (by kernel_rfl) ?_
               refine SL.yes rfl rfl hg_25 ?_
               refine SL.sim tk 1 [(3, vp 0 0), (9, vp 4 0), (10, vs 6), (111, vb z_24), (117, vb (x_41.PDU.Seq == 2))] [] [] [] (by kernel_rfl) ?_
               refine SL.pickt rfl hg_25 rfl rfl ?_
               refine SL.nilJ fun a w h => ?_
               obtain rfl := some_inv' hp
               exact h.at (js := [.g 0, .g 1, .g 2, .g 4, .g 5, .g 6]) (by kernel_rfl)
             · replace hp := if_f hp hg_25
               refine SL.no rfl rfl hg_25 rfl ?_
               refine SL.no rfl rfl hg_25 rfl ?_
               refine SL.no rfl rfl hg_25 rfl ?_
               refine SL.no rfl rfl hg_25 rfl ?_
               refine SL.no rfl rfl hg_25 rfl ?_
               refine SL.no rfl rfl hg_25 rfl ?_
               refine SL.pickf rfl hg_25 rfl rfl ?_
               refine SL.nilJ fun a w h => ?_
               obtain rfl := some_inv' hp
               exact h.at (js := [.g 0, .g 1, .g 2, .g 4, .g 5, .g 6]) (by kernel_rfl)
           · intro a w h
             have hp := hpr; clear hpr hz
             refine h.goL ?_
             refine SL.sim tk 6 [(3, vp 0 0), (9, vp 3 0), (10, vs 5), (124, vb (z_26 && ((len x_21.2) == 1)))] [] [] [] (by kernel_rfl) ?_
             obtain ⟨z_28, hz, hpr⟩ := bind_inv hp
             clear hp
             refine SL.cutAt 6 (fun a w => A 148 0 fx [(3, vp 0 0), (9, vp 3 0), (10, vs 5), (130, vb z_28)] [.blk 28 (C_api_Friend x_2.1 (.s 1) (.s 2)), .rd 18 R_T_api_Queued x_2.1.Queue, .rd 1 (RInt .u16) x_2.1.Subs, .blk 47 (C_api_LowPower x_21.1 (.s 4)), .rd 1 (RInt .u16) x_21.1.Subs, .rd 10 R_T_api_Lower x_21.2] a w) ?_ ?_
             · have hp := hz
               rcases Bool.eq_false_or_eq_true ((z_26 && ((len x_21.2) == 1))) with hg_27 | hg_27
               · replace hp := if_t hp hg_27
                 refine SL.yes rfl rfl hg_27 ?_
                 refine SL.sim tk 1 [(3, vp 0 0), (9, vp 3 0), (10, vs 5), (124, vb (z_26 && ((len x_21.2) == 1))), (125, vs 5)] [] [] [] (by kernel_rfl) ?_
                 refine SL.yes rfl rfl hg_27 ?_
                 obtain ⟨x_39, e_x_39, hp⟩ := bind_inv hp
                 refine SL.pre (pre_ix (i := 5) (iv := 0) (sz := 10) (R := R_T_api_Lower) (l := x_21.2) (by kernel_rfl) rfl e_x_39) ?_
                 refine SL.sim tk 1 [(3, vp 0 0), (9, vp 3 0), (10, vs 5), (124, vb (z_26 && ((len x_21.2) == 1))), (126, vp 6 0)] [] [.el 6] [0] (by kernel_rfl) ?_
                 refine SL.yes rfl rfl hg_27 ?_
                 refine SL.sim tk 1 [(3, vp 0 0), (9, vp 3 0), (10, vs 5), (124, vb (z_26 && ((len x_21.2) == 1))), (127, vp 6 6)] [] [] [] (by kernel_rfl) ?_
                 refine SL.yes rfl rfl hg_27 ?_
                 refine SL.sim tk 1 [(3, vp 0 0), (9, vp 3 0), (10, vs 5), (124, vb (z_26 && ((len x_21.2) == 1))), (128, vi .i64 x_39.Opcode)] [] [] [] (by kernel_rfl) ?_
                 refine SL.yes rfl rfl hg_27 ?_
                 refine SL.sim tk 1 [(3, vp 0 0), (9, vp 3 0), (10, vs 5), (124, vb (z_26 && ((len x_21.2) == 1))), (129, vb (x_39.Opcode == 3))] [] [] [] (by kernel_rfl) ?_
                 refine SL.pickt rfl hg_27 rfl rfl ?_
                 refine SL.nilJ fun a w h => ?_
                 obtain rfl := some_inv' hp
                 exact h.at (js := [.g 0, .g 1, .g 2, .g 3, .g 4, .g 5]) (by kernel_rfl)
               · replace hp := if_f hp hg_27
                 refine SL.no rfl rfl hg_27 rfl ?_
                 refine SL.no rfl rfl hg_27 rfl ?_
                 refine SL.no rfl rfl hg_27 rfl ?_
                 refine SL.no rfl rfl hg_27 rfl ?_
                 refine SL.no rfl rfl hg_27 rfl ?_
                 refine SL.pickf rfl hg_27 rfl rfl ?_
                 refine SL.nilJ fun a w h => ?_
                 obtain rfl := some_inv' hp
                 exact h.at (js := [.g 0, .g 1, .g 2, .g 3, .g 4, .g 5]) (by kernel_rfl)
             · intro a w h
               have hp := hpr; clear hpr hz
               refine h.goL ?_
               refine SL.sim tk 1 [(3, vp 0 0), (9, vp 3 0), (10, vs 5), (131, vb z_28)] [] [] [] (by kernel_rfl) ?_
               obtain ⟨z_30, hz, hpr⟩ := bind_inv hp
               clear hp
               refine SL.cutAt 7 (fun a w => A 148 0 fx [(3, vp 0 0), (9, vp 3 0), (138, vb z_30)] [.blk 28 (C_api_Friend x_2.1 (.s 1) (.s 2)), .rd 18 R_T_api_Queued x_2.1.Queue, .rd 1 (RInt .u16) x_2.1.Subs, .blk 47 (C_api_LowPower x_21.1 (.s 4)), .rd 1 (RInt .u16) x_21.1.Subs] a w) ?_ ?_
               · have hp := hz
                 rcases Bool.eq_false_or_eq_true (z_28) with hg_29 | hg_29
                 · replace hp := if_t hp hg_29
                   refine SL.yes rfl rfl hg_29 ?_
                   refine SL.sim tk 1 [(3, vp 0 0), (9, vp 3 0), (131, vb z_28), (132, vs 5)] [] [] [] (by kernel_rfl) ?_
                   refine SL.yes rfl rfl hg_29 ?_
                   obtain ⟨x_36, e_x_36, hp⟩ := bind_inv hp
                   refine SL.pre (pre_ix (i := 5) (iv := 0) (sz := 10) (R := R_T_api_Lower) (l := x_21.2) (by kernel_rfl) rfl e_x_36) ?_
                   refine SL.sim tk 1 [(3, vp 0 0), (9, vp 3 0), (131, vb z_28), (133, vp 6 0)] [] [.el 6] [0] (by kernel_rfl) ?_
                   refine SL.yes rfl rfl hg_29 ?_
                   refine SL.sim tk 1 [(3, vp 0 0), (9, vp 3 0), (131, vb z_28), (134, vp 6 9)] [] [] [] (by kernel_rfl) ?_
                   refine SL.yes rfl rfl hg_29 ?_
                   refine SL.sim tk 1 [(3, vp 0 0), (9, vp 3 0), (131, vb z_28), (135, vs 7)] [] [] [] (by kernel_rfl) ?_
                   refine SL.yes rfl rfl hg_29 ?_
                   refine SL.eff (e_lit (sz := 1) (E := 5) (R := R8) (by_ := 1) tk [[ci .u8 1], [ci .u8 0]] [1, 0] (by kernel_rfl) ⟨Clo.int, ⟨Clo.int, trivial⟩⟩ rfl (by kernel_rfl) (by kernel_rfl)) rfl (by kernel_rfl) ?_
                   refine SL.yes rfl rfl hg_29 ?_
                   obtain ⟨x_37, e_x_37, hp⟩ := bind_inv hp
                   refine SL.eff (e_c Try.call24 (ok_wirelessref02_Same F x_36.Bytes [1, 0] _ e_x_37) [.g 7, .l 8] [vs 7, vs 8] (vb x_37) (by kernel_rfl) (.inr ⟨trivial, trivial, trivial⟩)) rfl (by kernel_rfl) ?_
                   refine SL.norm (itsN := [.blk 28 (C_api_Friend x_2.1 (.s 1) (.s 2)), .rd 18 R_T_api_Queued x_2.1.Queue, .rd 1 (RInt .u16) x_2.1.Subs, .blk 47 (C_api_LowPower x_21.1 (.s 4)), .rd 1 (RInt .u16) x_21.1.Subs, .rd 10 R_T_api_Lower x_21.2, .elt (some (5, 0)) false (C_api_Lower x_36 (.s 7)), .rd 1 R8 x_36.Bytes, .own 1 5 R8 [1, 0]]) (by kernel_rfl) ?_
                   refine SL.pickt rfl hg_29 rfl rfl ?_
                   refine SL.nilJ fun a w h => ?_
                   obtain rfl := some_inv' hp
                   exact h.at (js := [.g 0, .g 1, .g 2, .g 3, .g 4]) (by kernel_rfl)
                 · replace hp := if_f hp hg_29
                   refine SL.no rfl rfl hg_29 rfl ?_
                   refine SL.no rfl rfl hg_29 rfl ?_
                   refine SL.no rfl rfl hg_29 rfl ?_
                   refine SL.no rfl rfl hg_29 rfl ?_
                   refine SL.no rfl rfl hg_29 rfl ?_
                   refine SL.no rfl rfl hg_29 rfl ?_
                   refine SL.pickf rfl hg_29 rfl rfl ?_
                   refine SL.nilJ fun a w h => ?_
                   obtain rfl := some_inv' hp
                   exact h.at (js := [.g 0, .g 1, .g 2, .g 3, .g 4]) (by kernel_rfl)
               · intro a w h
                 have hp := hpr; clear hpr hz
                 refine h.goL ?_
                 refine SL.sim tk 6 [(3, vp 0 0), (144, vb (z_30 && (x_21.1.Due == 17)))] [] [] [] (by kernel_rfl) ?_
                 obtain ⟨z_32, hz, hpr⟩ := bind_inv hp
                 clear hp
                 refine SL.cutAt 3 (fun a w => A 148 0 fx [(147, vb z_32)] [] a w) ?_ ?_
                 · have hp := hz
                   rcases Bool.eq_false_or_eq_true ((z_30 && (x_21.1.Due == 17))) with hg_31 | hg_31
                   · replace hp := if_t hp hg_31
                     refine SL.yes rfl rfl hg_31 ?_
                     refine SL.sim tk 1 [(144, vb (z_30 && (x_21.1.Due == 17))), (145, .g (C_api_Friend x_2.1 (.s 1) (.s 2)))] [] [] [] (by kernel_rfl) ?_
                     refine SL.yes rfl rfl hg_31 ?_
                     obtain ⟨x_34, e_x_34, hp⟩ := bind_inv hp
                     refine SL.eff (e_c Try.call18 (ok_friend_Wants F x_2.1 65535 _ e_x_34) [.g 1, .g 2] [.g (C_api_Friend x_2.1 (.s 1) (.s 2)), vi .u16 65535] (vb x_34) (by kernel_rfl) (.inl rfl)) rfl (by kernel_rfl) ?_
                     refine SL.pickt rfl hg_31 rfl rfl ?_
                     refine SL.nilJ fun a w h => ?_
                     obtain rfl := some_inv' hp
                     exact h.at (js := []) (by kernel_rfl)
                   · replace hp := if_f hp hg_31
                     refine SL.no rfl rfl hg_31 rfl ?_
                     refine SL.no rfl rfl hg_31 rfl ?_
                     refine SL.pickf rfl hg_31 rfl rfl ?_
                     refine SL.nilJ fun a w h => ?_
                     obtain rfl := some_inv' hp
                     exact h.at (js := []) (by kernel_rfl)
                 · intro a w h
                   have hp := hpr; clear hpr hz
                   refine h.goL ?_
                   refine SL.sim tk 1 [(0, vb z_32)] [] [] [] (by kernel_rfl) ?_
                   refine SL.nilThen ?_
                   obtain rfl := some_inv' hp
                   exact SC.re (js := []) tk (by kernel_rfl)

theorem ok_wirelesslaw51_fits (F : Nat) (o_1 : T_wirelesslaw51_Op) (now_2 : Int) (r : Bool) (hp : wirelesslaw51_fits F o_1 now_2 = some r) : Spec Try.prog 15 [.g (C_wirelesslaw51_Op o_1 (.s 0) (.s 1) (.s 2)), vi .i64 now_2] [.rd 1 R8 o_1.Q.PDU.Payload, .rd 1 R8 o_1.Q.Lower.Bytes, .rd 1 (RInt .u16) o_1.Subs] (vb r) [.gone, .gone, .gone] := by
 refine Spec.enter Try.func15 rfl Try.ntmps15 rfl rfl fun fx => ?_
 refine SC.seq ?_
 refine SC.reg ?_
 refine SL.eff (e_box (E := 40) (C_wirelesslaw51_Op o_1 (.s 0) (.s 1) (.s 2)) (by kernel_rfl)) rfl (by kernel_rfl) ?_
 refine SL.sim tk 1 [(1, vi .i64 now_2), (2, vp 3 0)] [] [] [] (by kernel_rfl) ?_
 refine SL.nilThen ?_
 refine SC.r tk [(4, vb (((((decide ((len o_1.Subs) ≤ 30)) && (decide ((len o_1.Q.PDU.Payload) ≤ 50))) && (decide ((len o_1.Q.Lower.Bytes) ≤ 50))) && (decide (o_1.Now ≥ now_2))) && (decide (o_1.Now ≤ 1099511627776))))] [] [] [] (by kernel_rfl) ?_
 obtain rfl := some_inv' hp
 exact SC.re (js := [.g 0, .g 1, .g 2]) tk (by kernel_rfl)

theorem ok_wirelessref48_Node (F : Nat) (a_1 : Int) (r : Bool) (hp : wirelessref48_Node F a_1 = some r) : Spec Try.prog 64 [vi .u16 a_1] [] (vb r) [] := by
 refine Spec.enter Try.func64 rfl Try.ntmps64 rfl rfl fun fx => ?_
 refine SC.r tk [(0, vi .u16 a_1)] [] [] [] (by kernel_rfl) ?_
 refine SC.r tk [(2, vb ((decide (a_1 > 0)) && (decide (a_1 < 32768))))] [] [] [] (by kernel_rfl) ?_
 obtain rfl := some_inv' hp
 exact SC.re (js := []) tk (by kernel_rfl)

theorem ok_wirelessref51_late (F : Nat) (since_1 : Int) (now_2 : Int) (r : Bool) (hp : wirelessref51_late F since_1 now_2 = some r) : Spec Try.prog 52 [vi .i64 since_1, vi .i64 now_2] [] (vb r) [] := by
 refine Spec.enter Try.func52 rfl Try.ntmps52 rfl rfl fun fx => ?_
 refine SC.r tk [(0, vi .i64 since_1), (1, vi .i64 now_2)] [] [] [] (by kernel_rfl) ?_
 refine SC.r tk [(4, vb (decide ((w64 (now_2 - since_1)) ≥ 200)))] [] [] [] (by kernel_rfl) ?_
 obtain rfl := some_inv' hp
 exact SC.re (js := []) tk (by kernel_rfl)

theorem ok_wirelessref51_Over (F : Nat) (f_1 : T_api_Friend) (now_2 : Int) (r : Bool) (hp : wirelessref51_Over F f_1 now_2 = some r) : Spec Try.prog 21 [.g (C_api_Friend f_1 (.s 0) (.s 1)), vi .i64 now_2] [.rd 18 R_T_api_Queued f_1.Queue, .rd 1 (RInt .u16) f_1.Subs] (vb r) [.gone, .gone] := by
 refine Spec.enter Try.func21 rfl Try.ntmps21 rfl rfl fun fx => ?_
 refine SC.seq ?_
 refine SC.reg ?_
 refine SL.eff (e_box (E := 28) (C_api_Friend f_1 (.s 0) (.s 1)) (by kernel_rfl)) rfl (by kernel_rfl) ?_
 refine SL.sim tk 1 [(1, vi .i64 now_2), (2, vp 2 0)] [] [] [] (by kernel_rfl) ?_
 refine SL.nilThen ?_
 refine SC.seq ?_
 refine SC.reg ?_
 refine SL.sim tk 4 [(1, vi .i64 now_2), (2, vp 2 0), (8, vb (f_1.Low != 0))] [] [] [] (by kernel_rfl) ?_
 obtain ⟨z_4, hz, hpr⟩ := bind_inv hp
 clear hp
 refine SL.cutAt 5 (fun a w => A 14 2 fx [(13, vb z_4)] [.gone, .gone] a w) ?_ ?_
 · have hp := hz
   rcases Bool.eq_false_or_eq_true ((f_1.Low != 0)) with hg_3 | hg_3
   · replace hp := if_t hp hg_3
     refine SL.yes rfl rfl hg_3 ?_
     refine SL.sim tk 1 [(1, vi .i64 now_2), (8, vb (f_1.Low != 0)), (9, vp 2 5)] [] [] [] (by kernel_rfl) ?_
     refine SL.yes rfl rfl hg_3 ?_
     refine SL.sim tk 1 [(1, vi .i64 now_2), (8, vb (f_1.Low != 0)), (10, vi .i64 f_1.Polled)] [] [] [] (by kernel_rfl) ?_
     refine SL.yes rfl rfl hg_3 ?_
     refine SL.sim tk 1 [(8, vb (f_1.Low != 0)), (10, vi .i64 f_1.Polled), (11, vi .i64 now_2)] [] [] [] (by kernel_rfl) ?_
     refine SL.yes rfl rfl hg_3 ?_
     obtain ⟨x_6, e_x_6, hp⟩ := bind_inv hp
     refine SL.eff (e_c Try.call52 (ok_wirelessref51_late F f_1.Polled now_2 _ e_x_6) [] [vi .i64 f_1.Polled, vi .i64 now_2] (vb x_6) (by kernel_rfl) (.inl rfl)) rfl (by kernel_rfl) ?_
     refine SL.pickt rfl hg_3 rfl rfl ?_
     refine SL.nilJ fun a w h => ?_
     obtain rfl := some_inv' hp
     exact h.at (js := [.g 0, .g 1]) (by kernel_rfl)
   · replace hp := if_f hp hg_3
     refine SL.no rfl rfl hg_3 rfl ?_
     refine SL.no rfl rfl hg_3 rfl ?_
     refine SL.no rfl rfl hg_3 rfl ?_
     refine SL.no rfl rfl hg_3 rfl ?_
     refine SL.pickf rfl hg_3 rfl rfl ?_
     refine SL.nilJ fun a w h => ?_
     obtain rfl := some_inv' hp
     exact h.at (js := [.g 0, .g 1]) (by kernel_rfl)
 · intro a w h
   have hp := hpr; clear hpr hz
   refine h.goL ?_
   refine SL.sim tk 1 [(4, vb z_4)] [] [] [] (by kernel_rfl) ?_
   refine SL.nilThen ?_
   obtain rfl := some_inv' hp
   exact SC.re (js := [.g 0, .g 1]) tk (by kernel_rfl)

theorem ok_wirelessref51_Befriend (F : Nat) (f_1 : T_api_Friend) (low_2 : Int) (counter_3 : Int) (now_4 : Int) (r : T_api_Friend × Bool) (hp : wirelessref51_Befriend F f_1 low_2 counter_3 now_4 = some r) : Spec Try.prog 43 [.g (C_api_Friend f_1 (.s 0) (.s 1)), vi .u16 low_2, vi .i64 counter_3, vi .i64 now_4] [.rd 18 R_T_api_Queued f_1.Queue, .rd 1 (RInt .u16) f_1.Subs] (.u [.inr [ci .u16 r.1.Low, .s 2, .s 3, ci .i64 r.1.Bit, cb r.1.Sent, ci .i64 r.1.Polled, ci .i64 r.1.Counter, ci .i64 r.1.Dropped], .inl (cb r.2)]) [.gone, .gone, .rd 18 R_T_api_Queued r.1.Queue, .rd 1 (RInt .u16) r.1.Subs] := by
 refine Spec.enter Try.func43 rfl Try.ntmps43 rfl rfl fun fx => ?_
 refine SC.seq ?_
 refine SC.reg ?_
 refine SL.eff (e_box (E := 28) (C_api_Friend f_1 (.s 0) (.s 1)) (by kernel_rfl)) rfl (by kernel_rfl) ?_
 refine SL.eff (e_alloc (E := 28) tk (C_api_Friend (T_api_Friend.mk 0 [] [] 0 false 0 0 0) nl nl) (by kernel_rfl)) rfl (by kernel_rfl) ?_
 refine SL.sim tk 1 [(1, vi .u16 low_2), (2, vi .i64 counter_3), (3, vi .i64 now_4), (4, vp 2 0), (8, vp 3 0)] [] [] [] (by kernel_rfl) ?_
 refine SL.nilThen ?_
 refine SC.seq ?_
 refine SC.seq ?_
 refine SC.reg ?_
 refine SL.sim tk 1 [(1, vi .u16 low_2), (2, vi .i64 counter_3), (3, vi .i64 now_4), (4, vp 2 0), (8, vp 3 0), (10, vi .u16 low_2)] [] [] [] (by kernel_rfl) ?_
 obtain ⟨x_5, e_x_5, hp⟩ := bind_inv hp
 refine SL.eff (e_c Try.call64 (ok_wirelessref48_Node F low_2 _ e_x_5) [] [vi .u16 low_2] (vb x_5) (by kernel_rfl) (.inl rfl)) rfl (by kernel_rfl) ?_
 refine SL.norm (itsN := [.rd 18 R_T_api_Queued f_1.Queue, .rd 1 (RInt .u16) f_1.Subs, .blk 28 (C_api_Friend f_1 (.s 0) (.s 1)), .blk 28 (C_api_Friend (T_api_Friend.mk 0 [] [] 0 false 0 0 0) nl nl)]) (by kernel_rfl) ?_
 refine SL.sim tk 10 [(1, vi .u16 low_2), (2, vi .i64 counter_3), (3, vi .i64 now_4), (4, vp 2 0), (8, vp 3 0), (21, vb (((!x_5) || (decide (counter_3 < 0))) || (decide (counter_3 > 65535))))] [] [] [] (by kernel_rfl) ?_
 obtain ⟨z_7, hz, hpr⟩ := bind_inv hp
 clear hp
 refine SL.cutAt 16 (fun a w => A 62 2 fx [(1, vi .u16 low_2), (2, vi .i64 counter_3), (3, vi .i64 now_4), (4, vp 2 0), (8, vp 3 0), (37, vb z_7)] [.rd 18 R_T_api_Queued f_1.Queue, .rd 1 (RInt .u16) f_1.Subs, .blk 28 (C_api_Friend f_1 (.s 0) (.s 1)), .blk 28 (C_api_Friend (T_api_Friend.mk 0 [] [] 0 false 0 0 0) nl nl)] a w) ?_ ?_
 · have hp := hz
   rcases Bool.eq_false_or_eq_true ((((!x_5) || (decide (counter_3 < 0))) || (decide (counter_3 > 65535)))) with hg_6 | hg_6
   · replace hp := if_t hp hg_6
     refine SL.no rfl rfl hg_6 rfl ?_
     refine SL.no rfl rfl hg_6 rfl ?_
     refine SL.no rfl rfl hg_6 rfl ?_
     refine SL.no rfl rfl hg_6 rfl ?_
     refine SL.noU rfl rfl rfl ?_
     refine SL.noU rfl rfl rfl ?_
     refine SL.noU rfl rfl rfl ?_
     refine SL.noU rfl rfl rfl ?_
     refine SL.no rfl rfl hg_6 rfl ?_
     refine SL.no rfl rfl hg_6 rfl ?_
     refine SL.noU rfl rfl rfl ?_
     refine SL.noU rfl rfl rfl ?_
     refine SL.noU rfl rfl rfl ?_
     refine SL.noU rfl rfl rfl ?_
     refine SL.no rfl rfl hg_6 rfl ?_
     refine SL.pickt rfl hg_6 rfl rfl ?_
     refine SL.nilJ fun a w h => ?_
     obtain rfl := some_inv' hp
     exact h.at (js := [.g 0, .g 1, .g 2, .g 3]) (by kernel_rfl)
   · replace hp := if_f hp hg_6
     refine SL.yes rfl rfl hg_6 ?_
     refine SL.sim tk 1 [(1, vi .u16 low_2), (2, vi .i64 counter_3), (3, vi .i64 now_4), (4, vp 2 0), (8, vp 3 0), (21, vb (((!x_5) || (decide (counter_3 < 0))) || (decide (counter_3 > 65535)))), (22, vp 2 0)] [] [] [] (by kernel_rfl) ?_
     refine SL.yes rfl rfl hg_6 ?_
     refine SL.sim tk 1 [(1, vi .u16 low_2), (2, vi .i64 counter_3), (3, vi .i64 now_4), (4, vp 2 0), (8, vp 3 0), (21, vb (((!x_5) || (decide (counter_3 < 0))) || (decide (counter_3 > 65535)))), (23, vi .u16 f_1.Low)] [] [] [] (by kernel_rfl) ?_
     refine SL.yes rfl rfl hg_6 ?_
     refine SL.sim tk 1 [(1, vi .u16 low_2), (2, vi .i64 counter_3), (3, vi .i64 now_4), (4, vp 2 0), (8, vp 3 0), (21, vb (((!x_5) || (decide (counter_3 < 0))) || (decide (counter_3 > 65535)))), (24, vb (f_1.Low != 0))] [] [] [] (by kernel_rfl) ?_
     refine SL.yes rfl rfl hg_6 ?_
     refine SL.sim tk 1 [(1, vi .u16 low_2), (2, vi .i64 counter_3), (3, vi .i64 now_4), (4, vp 2 0), (8, vp 3 0), (21, vb (((!x_5) || (decide (counter_3 < 0))) || (decide (counter_3 > 65535)))), (25, vb (f_1.Low != 0))] [] [] [] (by kernel_rfl) ?_
     rcases Bool.eq_false_or_eq_true ((f_1.Low != 0)) with hg_13 | hg_13
     · replace hp := if_t hp hg_13
       refine SL.yes rfl rfl hg_13 ?_
       refine SL.sim tk 1 [(1, vi .u16 low_2), (2, vi .i64 counter_3), (3, vi .i64 now_4), (4, vp 2 0), (8, vp 3 0), (21, vb (((!x_5) || (decide (counter_3 < 0))) || (decide (counter_3 > 65535)))), (25, vb (f_1.Low != 0)), (26, vp 2 0)] [] [] [] (by kernel_rfl) ?_
       refine SL.yes rfl rfl hg_13 ?_
       refine SL.sim tk 1 [(1, vi .u16 low_2), (2, vi .i64 counter_3), (3, vi .i64 now_4), (4, vp 2 0), (8, vp 3 0), (21, vb (((!x_5) || (decide (counter_3 < 0))) || (decide (counter_3 > 65535)))), (25, vb (f_1.Low != 0)), (27, vi .u16 f_1.Low)] [] [] [] (by kernel_rfl) ?_
       refine SL.yes rfl rfl hg_13 ?_
       refine SL.sim tk 1 [(1, vi .u16 low_2), (2, vi .i64 counter_3), (3, vi .i64 now_4), (4, vp 2 0), (8, vp 3 0), (21, vb (((!x_5) || (decide (counter_3 < 0))) || (decide (counter_3 > 65535)))), (25, vb (f_1.Low != 0)), (27, vi .u16 f_1.Low), (28, vi .u16 low_2)] [] [] [] (by kernel_rfl) ?_
       refine SL.yes rfl rfl hg_13 ?_
       refine SL.sim tk 1 [(1, vi .u16 low_2), (2, vi .i64 counter_3), (3, vi .i64 now_4), (4, vp 2 0), (8, vp 3 0), (21, vb (((!x_5) || (decide (counter_3 < 0))) || (decide (counter_3 > 65535)))), (25, vb (f_1.Low != 0)), (29, vb (f_1.Low != low_2))] [] [] [] (by kernel_rfl) ?_
       refine SL.yes rfl rfl hg_6 ?_
       refine SL.pickt rfl hg_13 rfl rfl ?_
       refine SL.yes rfl rfl hg_6 ?_
       refine SL.sim tk 1 [(1, vi .u16 low_2), (2, vi .i64 counter_3), (3, vi .i64 now_4), (4, vp 2 0), (8, vp 3 0), (21, vb (((!x_5) || (decide (counter_3 < 0))) || (decide (counter_3 > 65535)))), (31, vb (f_1.Low != low_2))] [] [] [] (by kernel_rfl) ?_
       rcases Bool.eq_false_or_eq_true ((f_1.Low != low_2)) with hg_14 | hg_14
       · replace hp := if_t hp hg_14
         refine SL.yes rfl rfl hg_14 ?_
         refine SL.sim tk 1 [(1, vi .u16 low_2), (2, vi .i64 counter_3), (3, vi .i64 now_4), (4, vp 2 0), (8, vp 3 0), (21, vb (((!x_5) || (decide (counter_3 < 0))) || (decide (counter_3 > 65535)))), (31, vb (f_1.Low != low_2)), (32, .g (C_api_Friend f_1 (.s 0) (.s 1)))] [] [] [] (by kernel_rfl) ?_
         refine SL.yes rfl rfl hg_14 ?_
         refine SL.sim tk 1 [(1, vi .u16 low_2), (2, vi .i64 counter_3), (3, vi .i64 now_4), (4, vp 2 0), (8, vp 3 0), (21, vb (((!x_5) || (decide (counter_3 < 0))) || (decide (counter_3 > 65535)))), (31, vb (f_1.Low != low_2)), (32, .g (C_api_Friend f_1 (.s 0) (.s 1))), (33, vi .i64 now_4)] [] [] [] (by kernel_rfl) ?_
         refine SL.yes rfl rfl hg_14 ?_
         obtain ⟨x_15, e_x_15, hp⟩ := bind_inv hp
         refine SL.eff (e_c Try.call21 (ok_wirelessref51_Over F f_1 now_4 _ e_x_15) [.g 0, .g 1] [.g (C_api_Friend f_1 (.s 0) (.s 1)), vi .i64 now_4] (vb x_15) (by kernel_rfl) (.inl rfl)) rfl (by kernel_rfl) ?_
         refine SL.yes rfl rfl hg_14 ?_
         refine SL.sim tk 1 [(1, vi .u16 low_2), (2, vi .i64 counter_3), (3, vi .i64 now_4), (4, vp 2 0), (8, vp 3 0), (21, vb (((!x_5) || (decide (counter_3 < 0))) || (decide (counter_3 > 65535)))), (31, vb (f_1.Low != low_2)), (35, vb (!x_15))] [] [] [] (by kernel_rfl) ?_
         refine SL.yes rfl rfl hg_6 ?_
         refine SL.pickt rfl hg_14 rfl rfl ?_
         refine SL.pickf rfl hg_6 rfl rfl ?_
         refine SL.nilJ fun a w h => ?_
         obtain rfl := some_inv' hp
         exact h.at (js := [.g 0, .g 1, .g 2, .g 3]) (by kernel_rfl)
       · replace hp := if_f hp hg_14
         refine SL.no rfl rfl hg_14 rfl ?_
         refine SL.no rfl rfl hg_14 rfl ?_
         refine SL.no rfl rfl hg_14 rfl ?_
         refine SL.no rfl rfl hg_14 rfl ?_
         refine SL.yes rfl rfl hg_6 ?_
         refine SL.pickf rfl hg_14 rfl rfl ?_
         refine SL.pickf rfl hg_6 rfl rfl ?_
         refine SL.nilJ fun a w h => ?_
         obtain rfl := some_inv' hp
         exact h.at (js := [.g 0, .g 1, .g 2, .g 3]) (by kernel_rfl)
     · replace hp := if_f hp hg_13
       refine SL.no rfl rfl hg_13 rfl ?_
       refine SL.no rfl rfl hg_13 rfl ?_
       refine SL.no rfl rfl hg_13 rfl ?_
       refine SL.no rfl rfl hg_13 rfl ?_
       refine SL.yes rfl rfl hg_6 ?_
       refine SL.pickf rfl hg_13 rfl rfl ?_
       refine SL.yes rfl rfl hg_6 ?_
       refine SL.sim tk 1 [(1, vi .u16 low_2), (2, vi .i64 counter_3), (3, vi .i64 now_4), (4, vp 2 0), (8, vp 3 0), (21, vb (((!x_5) || (decide (counter_3 < 0))) || (decide (counter_3 > 65535)))), (31, vb false)] [] [] [] (by kernel_rfl) ?_
       rcases Bool.eq_false_or_eq_true (false) with hg_16 | hg_16
       · replace hp := if_t hp hg_16
         refine SL.yes rfl rfl hg_16 ?_
         refine SL.sim tk 1 [(1, vi .u16 low_2), (2, vi .i64 counter_3), (3, vi .i64 now_4), (4, vp 2 0), (8, vp 3 0), (21, vb (((!x_5) || (decide (counter_3 < 0))) || (decide (counter_3 > 65535)))), (31, vb false), (32, .g (C_api_Friend f_1 (.s 0) (.s 1)))] [] [] [] (by kernel_rfl) ?_
         refine SL.yes rfl rfl hg_16 ?_
         refine SL.sim tk 1 [(1, vi .u16 low_2), (2, vi .i64 counter_3), (3, vi .i64 now_4), (4, vp 2 0), (8, vp 3 0), (21, vb (((!x_5) || (decide (counter_3 < 0))) || (decide (counter_3 > 65535)))), (31, vb false), (32, .g (C_api_Friend f_1 (.s 0) (.s 1))), (33, vi .i64 now_4)] [] [] [] (by kernel_rfl) ?_
         refine SL.yes rfl rfl hg_16 ?_
         obtain ⟨x_17, e_x_17, hp⟩ := bind_inv hp
         refine SL.eff (e_c Try.call21 (ok_wirelessref51_Over F f_1 now_4 _ e_x_17) [.g 0, .g 1] [.g (C_api_Friend f_1 (.s 0) (.s 1)), vi .i64 now_4] (vb x_17) (by kernel_rfl) (.inl rfl)) rfl (by kernel_rfl) ?_
         refine SL.yes rfl rfl hg_16 ?_
         refine SL.sim tk 1 [(1, vi .u16 low_2), (2, vi .i64 counter_3), (3, vi .i64 now_4), (4, vp 2 0), (8, vp 3 0), (21, vb (((!x_5) || (decide (counter_3 < 0))) || (decide (counter_3 > 65535)))), (31, vb false), (35, vb (!x_17))] [] [] [] (by kernel_rfl) ?_
         refine SL.yes rfl rfl hg_6 ?_
         refine SL.pickt rfl hg_16 rfl rfl ?_
         refine SL.pickf rfl hg_6 rfl rfl ?_
         refine SL.nilJ fun a w h => ?_
         obtain rfl := some_inv' hp
         exact h.at (js := [.g 0, .g 1, .g 2, .g 3]) (by kernel_rfl)
       · replace hp := if_f hp hg_16
         refine SL.no rfl rfl hg_16 rfl ?_
         refine SL.no rfl rfl hg_16 rfl ?_
         refine SL.no rfl rfl hg_16 rfl ?_
         refine SL.no rfl rfl hg_16 rfl ?_
         refine SL.yes rfl rfl hg_6 ?_
         refine SL.pickf rfl hg_16 rfl rfl ?_
         refine SL.pickf rfl hg_6 rfl rfl ?_
         refine SL.nilJ fun a w h => ?_
         obtain rfl := some_inv' hp
         exact h.at (js := [.g 0, .g 1, .g 2, .g 3]) (by kernel_rfl)
 · intro a w h
   have hp := hpr; clear hpr hz
   refine h.goL ?_
   refine SL.nilThen ?_
   refine SC.if' rfl hp (fun hp => ?_) (fun hp => ?_)
   · refine SC.r tk [(8, vp 3 0), (9, vb false)] [(3, 28, (C_api_Friend f_1 (.s 0) (.s 1)))] [] [] (by kernel_rfl) ?_
     obtain rfl := some_inv' hp
     exact SC.re (js := [.g 0, .g 1, .g 0, .g 1]) tk (by kernel_rfl)
   · refine SC.skipThen ?_
     refine SC.seq ?_
     refine SC.seq ?_
     refine SC.reg ?_
     refine SL.sim tk 11 [(1, vi .u16 low_2), (2, vi .i64 counter_3), (3, vi .i64 now_4), (4, vp 2 0), (8, vp 3 0), (49, vb ((f_1.Low == low_2) && (f_1.Counter == counter_3)))] [] [] [] (by kernel_rfl) ?_
     obtain ⟨z_9, hz, hpr⟩ := bind_inv hp
     clear hp
     refine SL.cutAt 5 (fun a w => A 62 2 fx [(1, vi .u16 low_2), (2, vi .i64 counter_3), (3, vi .i64 now_4), (4, vp 2 0), (8, vp 3 0), (54, vb z_9)] [.rd 18 R_T_api_Queued f_1.Queue, .rd 1 (RInt .u16) f_1.Subs, .blk 28 (C_api_Friend f_1 (.s 0) (.s 1)), .blk 28 (C_api_Friend (T_api_Friend.mk 0 [] [] 0 false 0 0 0) nl nl)] a w) ?_ ?_
     · have hp := hz
       rcases Bool.eq_false_or_eq_true (((f_1.Low == low_2) && (f_1.Counter == counter_3))) with hg_8 | hg_8
       · replace hp := if_t hp hg_8
         refine SL.yes rfl rfl hg_8 ?_
         refine SL.sim tk 1 [(1, vi .u16 low_2), (2, vi .i64 counter_3), (3, vi .i64 now_4), (4, vp 2 0), (8, vp 3 0), (49, vb ((f_1.Low == low_2) && (f_1.Counter == counter_3))), (50, .g (C_api_Friend f_1 (.s 0) (.s 1)))] [] [] [] (by kernel_rfl) ?_
         refine SL.yes rfl rfl hg_8 ?_
         refine SL.sim tk 1 [(1, vi .u16 low_2), (2, vi .i64 counter_3), (3, vi .i64 now_4), (4, vp 2 0), (8, vp 3 0), (49, vb ((f_1.Low == low_2) && (f_1.Counter == counter_3))), (50, .g (C_api_Friend f_1 (.s 0) (.s 1))), (51, vi .i64 now_4)] [] [] [] (by kernel_rfl) ?_
         refine SL.yes rfl rfl hg_8 ?_
         obtain ⟨x_11, e_x_11, hp⟩ := bind_inv hp
         refine SL.eff (e_c Try.call21 (ok_wirelessref51_Over F f_1 now_4 _ e_x_11) [.g 0, .g 1] [.g (C_api_Friend f_1 (.s 0) (.s 1)), vi .i64 now_4] (vb x_11) (by kernel_rfl) (.inl rfl)) rfl (by kernel_rfl) ?_
         refine SL.yes rfl rfl hg_8 ?_
         refine SL.sim tk 1 [(1, vi .u16 low_2), (2, vi .i64 counter_3), (3, vi .i64 now_4), (4, vp 2 0), (8, vp 3 0), (49, vb ((f_1.Low == low_2) && (f_1.Counter == counter_3))), (53, vb (!x_11))] [] [] [] (by kernel_rfl) ?_
         refine SL.pickt rfl hg_8 rfl rfl ?_
         refine SL.nilJ fun a w h => ?_
         obtain rfl := some_inv' hp
         exact h.at (js := [.g 0, .g 1, .g 2, .g 3]) (by kernel_rfl)
       · replace hp := if_f hp hg_8
         refine SL.no rfl rfl hg_8 rfl ?_
         refine SL.no rfl rfl hg_8 rfl ?_
         refine SL.no rfl rfl hg_8 rfl ?_
         refine SL.no rfl rfl hg_8 rfl ?_
         refine SL.pickf rfl hg_8 rfl rfl ?_
         refine SL.nilJ fun a w h => ?_
         obtain rfl := some_inv' hp
         exact h.at (js := [.g 0, .g 1, .g 2, .g 3]) (by kernel_rfl)
     · intro a w h
       have hp := hpr; clear hpr hz
       refine h.goL ?_
       refine SL.nilThen ?_
       refine SC.if' rfl hp (fun hp => ?_) (fun hp => ?_)
       · refine SC.r tk [(4, vp 2 0), (8, vp 3 0)] [(2, 28, (C_api_Friend ({ f_1 with Polled := now_4 }) (.s 0) (.s 1)))] [] [] (by kernel_rfl) ?_
         refine SC.r tk [(8, vp 3 0), (9, vb true)] [(3, 28, (C_api_Friend ({ f_1 with Polled := now_4 }) (.s 0) (.s 1)))] [] [] (by kernel_rfl) ?_
         obtain rfl := some_inv' hp
         exact SC.re (js := [.g 0, .g 1, .g 0, .g 1]) tk (by kernel_rfl)
       · refine SC.skipThen ?_
         refine SC.r tk [(8, vp 3 0), (9, vb true)] [(3, 28, (C_api_Friend (T_api_Friend.mk low_2 [] [] 0 false now_4 counter_3 0) nl nl))] [] [] (by kernel_rfl) ?_
         obtain rfl := some_inv' hp
         exact SC.re (js := [.g 0, .g 1, .n, .n]) tk (by kernel_rfl)

theorem ok_wirelessref50_sameHead (F : Nat) (a_1 : T_api_Lower) (b_2 : T_api_Lower) (r : Bool) (hp : wirelessref50_sameHead F a_1 b_2 = some r) : Spec Try.prog 63 [.g (C_api_Lower a_1 (.s 0)), .g (C_api_Lower b_2 (.s 1))] [.rd 1 R8 a_1.Bytes, .rd 1 R8 b_2.Bytes] (vb r) [.gone, .gone] := by
 refine Spec.enter Try.func63 rfl Try.ntmps63 rfl rfl fun fx => ?_
 refine SC.seq ?_
 refine SC.reg ?_
 refine SL.eff (e_box (E := 36) (C_api_Lower a_1 (.s 0)) (by kernel_rfl)) rfl (by kernel_rfl) ?_
 refine SL.eff (e_box (E := 36) (C_api_Lower b_2 (.s 1)) (by kernel_rfl)) rfl (by kernel_rfl) ?_
 refine SL.sim tk 1 [(2, vp 2 0), (3, vp 3 0)] [] [] [] (by kernel_rfl) ?_
 refine SL.nilThen ?_
 refine SC.r tk [(4, vb (((((((((a_1.Control == b_2.Control) && (a_1.Segmented == b_2.Segmented)) && (a_1.App == b_2.App)) && (a_1.Zero == b_2.Zero)) && (a_1.Index == b_2.Index)) && (a_1.Last == b_2.Last)) && (a_1.Opcode == b_2.Opcode)) && (a_1.Block == b_2.Block)) && (a_1.Friend == b_2.Friend)))] [] [] [] (by kernel_rfl) ?_
 obtain rfl := some_inv' hp
 exact SC.re (js := [.g 0, .g 1]) tk (by kernel_rfl)

theorem ok_wirelessref50_SameLower (F : Nat) (a_1 : T_api_Lower) (b_2 : T_api_Lower) (r : Bool) (hp : wirelessref50_SameLower F a_1 b_2 = some r) : Spec Try.prog 38 [.g (C_api_Lower a_1 (.s 0)), .g (C_api_Lower b_2 (.s 1))] [.rd 1 R8 a_1.Bytes, .rd 1 R8 b_2.Bytes] (vb r) [.gone, .gone] := by
 refine Spec.enter Try.func38 rfl Try.ntmps38 rfl rfl fun fx => ?_
 refine SC.seq ?_
 refine SC.reg ?_
 refine SL.eff (e_box (E := 36) (C_api_Lower a_1 (.s 0)) (by kernel_rfl)) rfl (by kernel_rfl) ?_
 refine SL.eff (e_box (E := 36) (C_api_Lower b_2 (.s 1)) (by kernel_rfl)) rfl (by kernel_rfl) ?_
 refine SL.sim tk 1 [(2, vp 2 0), (3, vp 3 0)] [] [] [] (by kernel_rfl) ?_
 refine SL.nilThen ?_
 refine SC.seq ?_
 refine SC.reg ?_
 refine SL.sim tk 2 [(2, vp 2 0), (3, vp 3 0), (5, .g (C_api_Lower a_1 (.s 0))), (6, .g (C_api_Lower b_2 (.s 1)))] [] [] [] (by kernel_rfl) ?_
 obtain ⟨x_3, e_x_3, hp⟩ := bind_inv hp
 refine SL.eff (e_c Try.call63 (ok_wirelessref50_sameHead F a_1 b_2 _ e_x_3) [.g 0, .g 1] [.g (C_api_Lower a_1 (.s 0)), .g (C_api_Lower b_2 (.s 1))] (vb x_3) (by kernel_rfl) (.inl rfl)) rfl (by kernel_rfl) ?_
 refine SL.norm (itsN := [.rd 1 R8 a_1.Bytes, .rd 1 R8 b_2.Bytes, .blk 36 (C_api_Lower a_1 (.s 0)), .blk 36 (C_api_Lower b_2 (.s 1))]) (by kernel_rfl) ?_
 refine SL.sim tk 1 [(2, vp 2 0), (3, vp 3 0), (8, vb x_3)] [] [] [] (by kernel_rfl) ?_
 obtain ⟨z_5, hz, hpr⟩ := bind_inv hp
 clear hp
 refine SL.cutAt 6 (fun a w => A 15 2 fx [(14, vb z_5)] [.gone, .gone] a w) ?_ ?_
 · have hp := hz
   rcases Bool.eq_false_or_eq_true (x_3) with hg_4 | hg_4
   · replace hp := if_t hp hg_4
     refine SL.yes rfl rfl hg_4 ?_
     refine SL.sim tk 1 [(3, vp 3 0), (8, vb x_3), (9, vp 2 9)] [] [] [] (by kernel_rfl) ?_
     refine SL.yes rfl rfl hg_4 ?_
     refine SL.sim tk 1 [(3, vp 3 0), (8, vb x_3), (10, vs 0)] [] [] [] (by kernel_rfl) ?_
     refine SL.yes rfl rfl hg_4 ?_
     refine SL.sim tk 1 [(8, vb x_3), (10, vs 0), (11, vp 3 9)] [] [] [] (by kernel_rfl) ?_
     refine SL.yes rfl rfl hg_4 ?_
     refine SL.sim tk 1 [(8, vb x_3), (10, vs 0), (12, vs 1)] [] [] [] (by kernel_rfl) ?_
     refine SL.yes rfl rfl hg_4 ?_
     obtain ⟨x_7, e_x_7, hp⟩ := bind_inv hp
     refine SL.eff (e_c Try.call24 (ok_wirelessref02_Same F a_1.Bytes b_2.Bytes _ e_x_7) [.g 0, .g 1] [vs 0, vs 1] (vb x_7) (by kernel_rfl) (.inl rfl)) rfl (by kernel_rfl) ?_
     refine SL.pickt rfl hg_4 rfl rfl ?_
     refine SL.nilJ fun a w h => ?_
     obtain rfl := some_inv' hp
     exact h.at (js := [.g 0, .g 1]) (by kernel_rfl)
   · replace hp := if_f hp hg_4
     refine SL.no rfl rfl hg_4 rfl ?_
     refine SL.no rfl rfl hg_4 rfl ?_
     refine SL.no rfl rfl hg_4 rfl ?_
     refine SL.no rfl rfl hg_4 rfl ?_
     refine SL.no rfl rfl hg_4 rfl ?_
     refine SL.pickf rfl hg_4 rfl rfl ?_
     refine SL.nilJ fun a w h => ?_
     obtain rfl := some_inv' hp
     exact h.at (js := [.g 0, .g 1]) (by kernel_rfl)
 · intro a w h
   have hp := hpr; clear hpr hz
   refine h.goL ?_
   refine SL.sim tk 1 [(4, vb z_5)] [] [] [] (by kernel_rfl) ?_
   refine SL.nilThen ?_
   obtain rfl := some_inv' hp
   exact SC.re (js := [.g 0, .g 1]) tk (by kernel_rfl)

theorem ok_wirelesslaw51_sameNode (F : Nat) (a_1 : T_api_Queued) (b_2 : T_api_Queued) (r : Bool) (hp : wirelesslaw51_sameNode F a_1 b_2 = some r) : Spec Try.prog 65 [.g (C_api_Queued a_1 (.s 0) (.s 1)), .g (C_api_Queued b_2 (.s 2) (.s 3))] [.rd 1 R8 a_1.PDU.Payload, .rd 1 R8 a_1.Lower.Bytes, .rd 1 R8 b_2.PDU.Payload, .rd 1 R8 b_2.Lower.Bytes] (vb r) [.gone, .gone, .gone, .gone] := by
 refine Spec.enter Try.func65 rfl Try.ntmps65 rfl rfl fun fx => ?_
 refine SC.seq ?_
 refine SC.reg ?_
 refine SL.eff (e_box (E := 38) (C_api_Queued a_1 (.s 0) (.s 1)) (by kernel_rfl)) rfl (by kernel_rfl) ?_
 refine SL.eff (e_box (E := 38) (C_api_Queued b_2 (.s 2) (.s 3)) (by kernel_rfl)) rfl (by kernel_rfl) ?_
 refine SL.sim tk 1 [(2, vp 4 0), (3, vp 5 0)] [] [] [] (by kernel_rfl) ?_
 refine SL.nilThen ?_
 refine SC.cut (fun a w => wirelesslaw51_sameNode_j1 F a_1 b_2 = some r ∧ A 72 4 fx [(2, vp 4 0), (3, vp 5 0), (5, vp 6 0), (6, vp 7 0)] [.rd 1 R8 a_1.PDU.Payload, .rd 1 R8 a_1.Lower.Bytes, .rd 1 R8 b_2.PDU.Payload, .rd 1 R8 b_2.Lower.Bytes, .blk 38 (C_api_Queued a_1 (.s 0) (.s 1)), .blk 38 (C_api_Queued b_2 (.s 2) (.s 3)), .blk 34 (C_api_NetPDU a_1.PDU (.s 0)), .blk 34 (C_api_NetPDU b_2.PDU (.s 2))] a w) ?_ ?_
 · refine SC.draw MO [I, I, I, I, I, I] (by kernel_rfl) fun kap_11 D_12 => ?_
   refine SD.takes tk D_12 [] kn0 [0, 1, 2, 3] [] [] [I, I, I, I, O, O, O, O] [(2, vp 4 0), (3, vp 5 0), (8, .g (C_api_NetPDU a_1.PDU (.s 0))), (10, .g (C_api_NetPDU b_2.PDU (.s 2)))] rfl (by kernel_rfl) (by kernel_rfl) (by kernel_rfl) ?_
   refine SD.lay 0 [I, I, I, I, I, I, I, I] [(2, vp 4 0), (3, vp 5 0), (5, vp 6 0), (6, vp 7 0)] [.rd 1 R8 a_1.PDU.Payload, .rd 1 R8 a_1.Lower.Bytes, .rd 1 R8 b_2.PDU.Payload, .rd 1 R8 b_2.Lower.Bytes, .blk 38 (C_api_Queued a_1 (.s 0) (.s 1)), .blk 38 (C_api_Queued b_2 (.s 2) (.s 3)), .blk 34 (C_api_NetPDU a_1.PDU (.s 0)), .blk 34 (C_api_NetPDU b_2.PDU (.s 2))] ?_ (fun c_12_0 => ?_)
   · refine SD.done (by kernel_rfl) fun a w h => ?_
     exact ⟨hp, h.at (js := [.g 0, .g 1, .g 2, .g 3, .g 4, .g 5, .g 6, .g 7]) (by kernel_rfl)⟩
   · refine SD.lay 1 [I, I, I, I, I, I, I, O] [(2, vp 4 0), (3, vp 5 0), (5, vp 6 0), (6, vp 7 0), (10, .g (C_api_NetPDU b_2.PDU (.s 2)))] [.rd 1 R8 a_1.PDU.Payload, .rd 1 R8 a_1.Lower.Bytes, .rd 1 R8 b_2.PDU.Payload, .rd 1 R8 b_2.Lower.Bytes, .blk 38 (C_api_Queued a_1 (.s 0) (.s 1)), .blk 38 (C_api_Queued b_2 (.s 2) (.s 3)), .blk 34 (C_api_NetPDU a_1.PDU (.s 0)), .blk 34 (C_api_NetPDU (T_api_NetPDU.mk 0 0 false 0 0 0 0 []) nl)] ?_ (fun c_12_1 => ?_)
     · refine SD.all1 (i := 7) (by kernel_rfl) ?_
       refine SW.store D_12 tk (i := 7) (q := 7) (T := 34) (cs := (C_api_NetPDU b_2.PDU (.s 2))) (bs' := [I, I, I, I, I, I, I, I]) rfl (by kernel_rfl) rfl rfl (by kernel_rfl) ?_
       exact SD.vie D_12 [.g 0, .g 1, .g 2, .g 3, .g 4, .g 5, .g 6, .g 7] c_12_0 (by kernel_rfl)
     · refine SD.lay 2 [I, I, I, I, I, I, O, O] [(2, vp 4 0), (3, vp 5 0), (5, vp 6 0), (6, vp 7 0), (8, .g (C_api_NetPDU a_1.PDU (.s 0))), (10, .g (C_api_NetPDU b_2.PDU (.s 2)))] [.rd 1 R8 a_1.PDU.Payload, .rd 1 R8 a_1.Lower.Bytes, .rd 1 R8 b_2.PDU.Payload, .rd 1 R8 b_2.Lower.Bytes, .blk 38 (C_api_Queued a_1 (.s 0) (.s 1)), .blk 38 (C_api_Queued b_2 (.s 2) (.s 3)), .blk 34 (C_api_NetPDU (T_api_NetPDU.mk 0 0 false 0 0 0 0 []) nl), .blk 34 (C_api_NetPDU (T_api_NetPDU.mk 0 0 false 0 0 0 0 []) nl)] ?_ (fun c_12_2 => ?_)
       · refine SD.all1 (i := 6) (by kernel_rfl) ?_
         refine SW.store D_12 tk (i := 6) (q := 6) (T := 34) (cs := (C_api_NetPDU a_1.PDU (.s 0))) (bs' := [I, I, I, I, I, I, I, O]) rfl (by kernel_rfl) rfl rfl (by kernel_rfl) ?_
         exact SD.vie D_12 [.g 0, .g 1, .g 2, .g 3, .g 4, .g 5, .g 6, .g 7] c_12_1 (by kernel_rfl)
       · refine SD.lay 3 [I, I, I, I, I, O, O, O] [(2, vp 4 0), (3, vp 5 0), (5, vp 6 0), (8, .g (C_api_NetPDU a_1.PDU (.s 0))), (10, .g (C_api_NetPDU b_2.PDU (.s 2)))] [.rd 1 R8 a_1.PDU.Payload, .rd 1 R8 a_1.Lower.Bytes, .rd 1 R8 b_2.PDU.Payload, .rd 1 R8 b_2.Lower.Bytes, .blk 38 (C_api_Queued a_1 (.s 0) (.s 1)), .blk 38 (C_api_Queued b_2 (.s 2) (.s 3)), .blk 34 (C_api_NetPDU (T_api_NetPDU.mk 0 0 false 0 0 0 0 []) nl)] ?_ (fun c_12_3 => ?_)
         · refine SD.all1 (i := 5) (by kernel_rfl) ?_
           refine SW.eff D_12 (i := 5) (bs' := [I, I, I, I, I, I, O, O]) rfl (.inl rfl) rfl (e_alloc (E := 34) tk (C_api_NetPDU (T_api_NetPDU.mk 0 0 false 0 0 0 0 []) nl) (by kernel_rfl)) (by kernel_rfl) rfl (by kernel_rfl) ?_
           exact SD.vie D_12 [.g 0, .g 1, .g 2, .g 3, .g 4, .g 5, .g 6, .g 7] c_12_2 (by kernel_rfl)
         · refine SD.lay 3 [I, I, I, I, O, I, O, O] [(2, vp 4 0), (3, vp 5 0), (6, vp 6 0), (8, .g (C_api_NetPDU a_1.PDU (.s 0))), (10, .g (C_api_NetPDU b_2.PDU (.s 2)))] [.rd 1 R8 a_1.PDU.Payload, .rd 1 R8 a_1.Lower.Bytes, .rd 1 R8 b_2.PDU.Payload, .rd 1 R8 b_2.Lower.Bytes, .blk 38 (C_api_Queued a_1 (.s 0) (.s 1)), .blk 38 (C_api_Queued b_2 (.s 2) (.s 3)), .blk 34 (C_api_NetPDU (T_api_NetPDU.mk 0 0 false 0 0 0 0 []) nl)] ?_ (fun c_12_4 => ?_)
           · refine SD.all1 (i := 4) (by kernel_rfl) ?_
             refine SW.eff D_12 (i := 4) (bs' := [I, I, I, I, I, I, O, O]) rfl (.inl rfl) rfl (e_alloc (E := 34) tk (C_api_NetPDU (T_api_NetPDU.mk 0 0 false 0 0 0 0 []) nl) (by kernel_rfl)) (by kernel_rfl) rfl (by kernel_rfl) ?_
             exact SD.vie D_12 [.g 0, .g 1, .g 2, .g 3, .g 4, .g 5, .g 7, .g 6] c_12_2 (by kernel_rfl)
           · refine SD.all2 (i := 4) (j := 5) (by kernel_rfl) ?_ ?_
             · refine SW.eff D_12 (i := 4) (bs' := [I, I, I, I, I, O, O, O]) rfl (.inl rfl) rfl (e_alloc (E := 34) tk (C_api_NetPDU (T_api_NetPDU.mk 0 0 false 0 0 0 0 []) nl) (by kernel_rfl)) (by kernel_rfl) rfl (by kernel_rfl) ?_
               refine SD.norm (itsN := [.rd 1 R8 a_1.PDU.Payload, .rd 1 R8 a_1.Lower.Bytes, .rd 1 R8 b_2.PDU.Payload, .rd 1 R8 b_2.Lower.Bytes, .blk 38 (C_api_Queued a_1 (.s 0) (.s 1)), .blk 38 (C_api_Queued b_2 (.s 2) (.s 3)), .blk 34 (C_api_NetPDU (T_api_NetPDU.mk 0 0 false 0 0 0 0 []) nl)]) (by kernel_rfl) ?_
               exact SD.vie D_12 [.g 0, .g 1, .g 2, .g 3, .g 4, .g 5, .g 6] c_12_3 (by kernel_rfl)
             · refine SW.eff D_12 (i := 5) (bs' := [I, I, I, I, O, I, O, O]) rfl (.inl rfl) rfl (e_alloc (E := 34) tk (C_api_NetPDU (T_api_NetPDU.mk 0 0 false 0 0 0 0 []) nl) (by kernel_rfl)) (by kernel_rfl) rfl (by kernel_rfl) ?_
               refine SD.norm (itsN := [.rd 1 R8 a_1.PDU.Payload, .rd 1 R8 a_1.Lower.Bytes, .rd 1 R8 b_2.PDU.Payload, .rd 1 R8 b_2.Lower.Bytes, .blk 38 (C_api_Queued a_1 (.s 0) (.s 1)), .blk 38 (C_api_Queued b_2 (.s 2) (.s 3)), .blk 34 (C_api_NetPDU (T_api_NetPDU.mk 0 0 false 0 0 0 0 []) nl)]) (by kernel_rfl) ?_
               exact SD.vie D_12 [.g 0, .g 1, .g 2, .g 3, .g 4, .g 5, .g 6] c_12_4 (by kernel_rfl)
 · rintro a w ⟨hp, h⟩
   refine h.go ?_
   refine SC.seq ?_
   refine SC.reg ?_
   refine SL.sim tk 48 [(2, vp 4 0), (3, vp 5 0), (5, vp 6 0), (6, vp 7 0), (58, vb (((((((a_1.PDU.IV == b_2.PDU.IV) && (a_1.PDU.NID == b_2.PDU.NID)) && (a_1.PDU.Control == b_2.PDU.Control)) && (a_1.PDU.TTL == b_2.PDU.TTL)) && (a_1.PDU.Seq == b_2.PDU.Seq)) && (a_1.PDU.Src == b_2.PDU.Src)) && (a_1.PDU.Dst == b_2.PDU.Dst)))] [] [] [] (by kernel_rfl) ?_
   obtain ⟨z_4, hz, hpr⟩ := bind_inv hp
   clear hp
   refine SL.cutAt 6 (fun a w => A 72 4 fx [(2, vp 4 0), (3, vp 5 0), (64, vb z_4)] [.rd 1 R8 a_1.PDU.Payload, .rd 1 R8 a_1.Lower.Bytes, .rd 1 R8 b_2.PDU.Payload, .rd 1 R8 b_2.Lower.Bytes, .blk 38 (C_api_Queued a_1 (.s 0) (.s 1)), .blk 38 (C_api_Queued b_2 (.s 2) (.s 3))] a w) ?_ ?_
   · have hp := hz
     rcases Bool.eq_false_or_eq_true ((((((((a_1.PDU.IV == b_2.PDU.IV) && (a_1.PDU.NID == b_2.PDU.NID)) && (a_1.PDU.Control == b_2.PDU.Control)) && (a_1.PDU.TTL == b_2.PDU.TTL)) && (a_1.PDU.Seq == b_2.PDU.Seq)) && (a_1.PDU.Src == b_2.PDU.Src)) && (a_1.PDU.Dst == b_2.PDU.Dst))) with hg_3 | hg_3
     · replace hp := if_t hp hg_3
       refine SL.yes rfl rfl hg_3 ?_
       refine SL.sim tk 1 [(2, vp 4 0), (3, vp 5 0), (6, vp 7 0), (58, vb (((((((a_1.PDU.IV == b_2.PDU.IV) && (a_1.PDU.NID == b_2.PDU.NID)) && (a_1.PDU.Control == b_2.PDU.Control)) && (a_1.PDU.TTL == b_2.PDU.TTL)) && (a_1.PDU.Seq == b_2.PDU.Seq)) && (a_1.PDU.Src == b_2.PDU.Src)) && (a_1.PDU.Dst == b_2.PDU.Dst))), (59, vp 6 7)] [] [] [] (by kernel_rfl) ?_
       refine SL.yes rfl rfl hg_3 ?_
       refine SL.sim tk 1 [(2, vp 4 0), (3, vp 5 0), (6, vp 7 0), (58, vb (((((((a_1.PDU.IV == b_2.PDU.IV) && (a_1.PDU.NID == b_2.PDU.NID)) && (a_1.PDU.Control == b_2.PDU.Control)) && (a_1.PDU.TTL == b_2.PDU.TTL)) && (a_1.PDU.Seq == b_2.PDU.Seq)) && (a_1.PDU.Src == b_2.PDU.Src)) && (a_1.PDU.Dst == b_2.PDU.Dst))), (60, vs 0)] [] [] [] (by kernel_rfl) ?_
       refine SL.yes rfl rfl hg_3 ?_
       refine SL.sim tk 1 [(2, vp 4 0), (3, vp 5 0), (58, vb (((((((a_1.PDU.IV == b_2.PDU.IV) && (a_1.PDU.NID == b_2.PDU.NID)) && (a_1.PDU.Control == b_2.PDU.Control)) && (a_1.PDU.TTL == b_2.PDU.TTL)) && (a_1.PDU.Seq == b_2.PDU.Seq)) && (a_1.PDU.Src == b_2.PDU.Src)) && (a_1.PDU.Dst == b_2.PDU.Dst))), (60, vs 0), (61, vp 7 7)] [] [] [] (by kernel_rfl) ?_
       refine SL.yes rfl rfl hg_3 ?_
       refine SL.sim tk 1 [(2, vp 4 0), (3, vp 5 0), (58, vb (((((((a_1.PDU.IV == b_2.PDU.IV) && (a_1.PDU.NID == b_2.PDU.NID)) && (a_1.PDU.Control == b_2.PDU.Control)) && (a_1.PDU.TTL == b_2.PDU.TTL)) && (a_1.PDU.Seq == b_2.PDU.Seq)) && (a_1.PDU.Src == b_2.PDU.Src)) && (a_1.PDU.Dst == b_2.PDU.Dst))), (60, vs 0), (62, vs 2)] [] [] [] (by kernel_rfl) ?_
       refine SL.yes rfl rfl hg_3 ?_
       obtain ⟨x_10, e_x_10, hp⟩ := bind_inv hp
       refine SL.eff (e_c Try.call24 (ok_wirelessref02_Same F a_1.PDU.Payload b_2.PDU.Payload _ e_x_10) [.g 0, .g 2] [vs 0, vs 2] (vb x_10) (by kernel_rfl) (.inl rfl)) rfl (by kernel_rfl) ?_
       refine SL.pickt rfl hg_3 rfl rfl ?_
       refine SL.nilJ fun a w h => ?_
       obtain rfl := some_inv' hp
       exact h.at (js := [.g 0, .g 1, .g 2, .g 3, .g 4, .g 5]) (by kernel_rfl)
     · replace hp := if_f hp hg_3
       refine SL.no rfl rfl hg_3 rfl ?_
       refine SL.no rfl rfl hg_3 rfl ?_
       refine SL.no rfl rfl hg_3 rfl ?_
       refine SL.no rfl rfl hg_3 rfl ?_
       refine SL.no rfl rfl hg_3 rfl ?_
       refine SL.pickf rfl hg_3 rfl rfl ?_
       refine SL.nilJ fun a w h => ?_
       obtain rfl := some_inv' hp
       exact h.at (js := [.g 0, .g 1, .g 2, .g 3, .g 4, .g 5]) (by kernel_rfl)
   · intro a w h
     have hp := hpr; clear hpr hz
     refine h.goL ?_
     refine SL.sim tk 1 [(2, vp 4 0), (3, vp 5 0), (65, vb z_4)] [] [] [] (by kernel_rfl) ?_
     obtain ⟨z_6, hz, hpr⟩ := bind_inv hp
     clear hp
     refine SL.cutAt 6 (fun a w => A 72 4 fx [(71, vb z_6)] [.gone, .gone, .gone, .gone] a w) ?_ ?_
     · have hp := hz
       rcases Bool.eq_false_or_eq_true (z_4) with hg_5 | hg_5
       · replace hp := if_t hp hg_5
         refine SL.yes rfl rfl hg_5 ?_
         refine SL.sim tk 1 [(3, vp 5 0), (65, vb z_4), (66, vp 4 8)] [] [] [] (by kernel_rfl) ?_
         refine SL.yes rfl rfl hg_5 ?_
         refine SL.sim tk 1 [(3, vp 5 0), (65, vb z_4), (67, .g (C_api_Lower a_1.Lower (.s 1)))] [] [] [] (by kernel_rfl) ?_
         refine SL.yes rfl rfl hg_5 ?_
         refine SL.sim tk 1 [(65, vb z_4), (67, .g (C_api_Lower a_1.Lower (.s 1))), (68, vp 5 8)] [] [] [] (by kernel_rfl) ?_
         refine SL.yes rfl rfl hg_5 ?_
         refine SL.sim tk 1 [(65, vb z_4), (67, .g (C_api_Lower a_1.Lower (.s 1))), (69, .g (C_api_Lower b_2.Lower (.s 3)))] [] [] [] (by kernel_rfl) ?_
         refine SL.yes rfl rfl hg_5 ?_
         obtain ⟨x_8, e_x_8, hp⟩ := bind_inv hp
         refine SL.eff (e_c Try.call38 (ok_wirelessref50_SameLower F a_1.Lower b_2.Lower _ e_x_8) [.g 1, .g 3] [.g (C_api_Lower a_1.Lower (.s 1)), .g (C_api_Lower b_2.Lower (.s 3))] (vb x_8) (by kernel_rfl) (.inl rfl)) rfl (by kernel_rfl) ?_
         refine SL.pickt rfl hg_5 rfl rfl ?_
         refine SL.nilJ fun a w h => ?_
         obtain rfl := some_inv' hp
         exact h.at (js := [.g 0, .g 1, .g 2, .g 3]) (by kernel_rfl)
       · replace hp := if_f hp hg_5
         refine SL.no rfl rfl hg_5 rfl ?_
         refine SL.no rfl rfl hg_5 rfl ?_
         refine SL.no rfl rfl hg_5 rfl ?_
         refine SL.no rfl rfl hg_5 rfl ?_
         refine SL.no rfl rfl hg_5 rfl ?_
         refine SL.pickf rfl hg_5 rfl rfl ?_
         refine SL.nilJ fun a w h => ?_
         obtain rfl := some_inv' hp
         exact h.at (js := [.g 0, .g 1, .g 2, .g 3]) (by kernel_rfl)
     · intro a w h
       have hp := hpr; clear hpr hz
       refine h.goL ?_
       refine SL.sim tk 1 [(4, vb z_6)] [] [] [] (by kernel_rfl) ?_
       refine SL.nilThen ?_
       obtain rfl := some_inv' hp
       exact SC.re (js := [.g 0, .g 1, .g 2, .g 3]) tk (by kernel_rfl)

theorem ok_wirelesslaw51_sameQueue (F : Nat) (a_1 : (List T_api_Queued)) (b_2 : (List T_api_Queued)) (r : Bool) (hp : wirelesslaw51_sameQueue F a_1 b_2 = some r) : Spec Try.prog 47 [vs 0, vs 1] [.rd 18 R_T_api_Queued a_1, .rd 18 R_T_api_Queued b_2] (vb r) [.gone, .gone] := by
 refine Spec.enter Try.func47 rfl Try.ntmps47 rfl rfl fun fx => ?_
 refine SC.r tk [(0, vs 0), (1, vs 1)] [] [] [] (by kernel_rfl) ?_
 refine SC.seq ?_
 refine SC.r tk [(0, vs 0), (1, vs 1), (10, vb ((len a_1) != (len b_2)))] [] [] [] (by kernel_rfl) ?_
 refine SC.if' rfl hp (fun hp => ?_) (fun hp => ?_)
 · refine SC.r tk [(4, vb false)] [] [] [] (by kernel_rfl) ?_
   obtain rfl := some_inv' hp
   exact SC.re (js := [.g 0, .g 1]) tk (by kernel_rfl)
 · refine SC.skipThen ?_
   refine SC.cut (fun a w => wirelesslaw51_sameQueue_j1 F = some r ∧ A 27 2 fx [] [.gone, .gone] a w) ?_ ?_
   · refine SC.r tk [(0, vs 0), (1, vs 1), (5, vi .i64 0)] [] [] [] (by kernel_rfl) ?_
     refine SC.block ?_
     obtain ⟨o1, hi1, ho1⟩ := bind_inv hp
     clear hp
     refine SC.loop (fun n a w => ∃ (x_3 : Int), iter (fun s => wirelesslaw51_sameQueue_l1 F a_1 b_2 s) n (x_3) = some o1 ∧ A 27 2 fx [(0, vs 0), (1, vs 1), (5, vi .i64 x_3)] [.rd 18 R_T_api_Queued a_1, .rd 18 R_T_api_Queued b_2] a w) F (fun a w h => ⟨0, hi1, h.at (js := [.g 0, .g 1]) (by kernel_rfl)⟩) ?_
     rintro n1 a w ⟨x_3, hi1, h⟩
     obtain ⟨n1, q1, rfl, hp, hs1⟩ := iter_inv hi1
     replace hp : wirelesslaw51_sameQueue_l1 F a_1 b_2 x_3 = some q1 := hp
     clear hi1
     refine h.go ?_
     refine SC.seq ?_
     refine SC.r tk [(0, vs 0), (1, vs 1), (5, vi .i64 x_3), (14, vb (decide (x_3 < (len a_1))))] [] [] [] (by kernel_rfl) ?_
     refine SC.if' rfl hp (fun hp => ?_) (fun hp => ?_)
     · refine SC.skipThen ?_
       refine SC.seq ?_
       refine SC.block ?_
       refine SC.cut (fun a w => ∃ (z_4 : Bool), wirelesslaw51_sameQueue_j2 F x_3 z_4 = some q1 ∧ A 27 2 fx [(0, vs 0), (1, vs 1), (5, vi .i64 x_3), (26, vb z_4)] [.rd 18 R_T_api_Queued a_1, .rd 18 R_T_api_Queued b_2] a w) ?_ ?_
       · obtain ⟨x_5, e_x_5, hp⟩ := bind_inv hp
         obtain ⟨x_6, e_x_6, hp⟩ := bind_inv hp
         refine SC.pre (pre_ix (i := 0) (iv := x_3) (sz := 18) (R := R_T_api_Queued) (l := a_1) (by kernel_rfl) rfl e_x_5) ?_
         refine SC.pre (pre_ix (i := 1) (iv := x_3) (sz := 18) (R := R_T_api_Queued) (l := b_2) (by kernel_rfl) rfl e_x_6) ?_
         refine SC.draw MO [I, I, I, I, I, I, I, I] (by kernel_rfl) fun kap_7 D_8 => ?_
         refine SD.takes tk D_8 [] kn0 [0, 1, 2, 3, 4, 5, 6, 7] [.el 2, .el 5] [x_3, x_3] [I, I, I, I, I, I, I, I, O, O] [(0, vs 0), (1, vs 1), (5, vi .i64 x_3), (20, .g (C_api_Queued x_5 (.s 3) (.s 4))), (24, .g (C_api_Queued x_6 (.s 6) (.s 7)))] rfl (by kernel_rfl) (by kernel_rfl) (by kernel_rfl) ?_
         obtain ⟨x_9, e_x_9, hp⟩ := bind_inv hp
         refine SD.all1 (i := 8) (by kernel_rfl) ?_
         refine SW.eff D_8 (i := 8) (bs' := [I, I, I, I, I, I, I, I, I, O]) rfl (.inl rfl) rfl (e_c Try.call65 (ok_wirelesslaw51_sameNode F x_5 x_6 _ e_x_9) [.g 3, .g 4, .g 6, .g 7] [.g (C_api_Queued x_5 (.s 3) (.s 4)), .g (C_api_Queued x_6 (.s 6) (.s 7))] (vb x_9) (by kernel_rfl) (.inl rfl)) (by kernel_rfl) rfl (by kernel_rfl) ?_
         refine SD.takes tk D_8 [] kn0 [9] [] [] [I, I, I, I, I, I, I, I, I, I] [(0, vs 0), (1, vs 1), (5, vi .i64 x_3), (26, vb (!x_9))] rfl (by kernel_rfl) (by kernel_rfl) (by kernel_rfl) ?_
         refine SD.done (by kernel_rfl) fun a w h => ?_
         exact ⟨(!x_9), hp, h.at (js := [.g 0, .g 1]) (by kernel_rfl)⟩
       · rintro a w ⟨z_4, hp, h⟩
         refine h.go ?_
         refine SC.if' rfl hp (fun hp => ?_) (fun hp => ?_)
         · refine SC.r tk [(4, vb false)] [] [] [] (by kernel_rfl) ?_
           have ho := done_inv hp hs1
           replace hp := ho1
           try rw [ho] at hp
           obtain rfl := some_inv' hp
           exact SC.re (js := [.g 0, .g 1]) tk (by kernel_rfl)
         · refine SC.skipThen ?_
           refine SC.reg ?_
           refine SL.sim tk 3 [(0, vs 0), (1, vs 1), (5, vi .i64 (w64 (x_3 + 1)))] [] [] [] (by kernel_rfl) ?_
           refine SL.nilJ fun a w h => ?_
           exact ⟨n1, Nat.lt_succ_self _, w64 (x_3 + 1), next_inv hp hs1, h.at (js := [.g 0, .g 1]) (by kernel_rfl)⟩
     · refine SC.exitJ rfl fun a w h => ?_
       have ho := done_inv hp hs1
       replace hp := ho1
       try rw [ho] at hp
       exact ⟨hp, h.at (js := [.g 0, .g 1]) (by kernel_rfl)⟩
   · rintro a w ⟨hp, h⟩
     refine h.go ?_
     refine SC.r tk [(4, vb true)] [] [] [] (by kernel_rfl) ?_
     obtain rfl := some_inv' hp
     exact SC.re (js := [.g 0, .g 1]) tk (by kernel_rfl)
end V
end Go.Proofs.Ytphigebccfoppaa
