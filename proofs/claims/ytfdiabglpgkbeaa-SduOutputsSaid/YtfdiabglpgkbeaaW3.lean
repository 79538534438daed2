/-
  Walks, written by program: each Go function returns what its pure twin says.
-/
import Derived.Test.YtfdiabglpgkbeaaW2
namespace Go.Proofs.Ytfdiabglpgkbeaa
namespace V
theorem ok_wirelesslaw33_SduInputs (F : Nat) (U0 : Nat → Prop) (w0 : World) (c_1 : T_api_Channel) (frames_8 : (List (List Int))) (A_2 : Option Addr) (k_3 : Nat) (A_5 : Option Addr) (k_6 : Nat) (A_9 : Option Addr) (k_10 : Nat) (C : Ctx U0 [] w0 [] w0) (f_4 : Sl 1 (RSl 1 (RInt .u8)) (Mu U0 []) w0 A_2 k_3 c_1.Out) (f_7 : Sl 1 (RInt .u8) (Mu U0 []) w0 A_5 k_6 c_1.In) (f_11 : Sl 1 (RSl 1 (RInt .u8)) (Mu U0 []) w0 A_9 k_10 frames_8) (r : Bool) (hp : wirelesslaw33_SduInputs F c_1 frames_8 = some r) :
    Calls Try.prog 4 #[.agg #[.int .u16 c_1.Local, .int .u16 c_1.Remote, .int .u16 c_1.PSM, .int .i64 c_1.MTU, .int .i64 c_1.MPS, .int .i64 c_1.PeerMTU, .int .i64 c_1.PeerMPS, .int .i64 c_1.TxCredits, .int .i64 c_1.RxCredits, .int .i64 c_1.Given, .slice A_2 (List.length c_1.Out) k_3, .int .i64 c_1.Sent, .slice A_5 (List.length c_1.In) k_6, .int .i64 c_1.Want, .bool c_1.Failed], .slice A_9 (List.length frames_8) k_10] w0 fun e w => ∃ v, e = .returned v ∧ (v = .bool r) ∧ (Ctx U0 [] w0 [] w) := by
  refine calls_enter (vs := [.agg #[.int .u16 c_1.Local, .int .u16 c_1.Remote, .int .u16 c_1.PSM, .int .i64 c_1.MTU, .int .i64 c_1.MPS, .int .i64 c_1.PeerMTU, .int .i64 c_1.PeerMPS, .int .i64 c_1.TxCredits, .int .i64 c_1.RxCredits, .int .i64 c_1.Given, .slice A_2 (List.length c_1.Out) k_3, .int .i64 c_1.Sent, .slice A_5 (List.length c_1.In) k_6, .int .i64 c_1.Want, .bool c_1.Failed], .slice A_9 (List.length frames_8) k_10]) Try.func4 rfl Try.ntmps4 rfl ?_
  refine WC.prune (l' := [(0, .agg #[.int .u16 c_1.Local, .int .u16 c_1.Remote, .int .u16 c_1.PSM, .int .i64 c_1.MTU, .int .i64 c_1.MPS, .int .i64 c_1.PeerMTU, .int .i64 c_1.PeerMPS, .int .i64 c_1.TxCredits, .int .i64 c_1.RxCredits, .int .i64 c_1.Given, .slice A_2 (List.length c_1.Out) k_3, .int .i64 c_1.Sent, .slice A_5 (List.length c_1.In) k_6, .int .i64 c_1.Want, .bool c_1.Failed]), (1, .slice A_9 (List.length frames_8) k_10)]) ⟨rfl, rfl, trivial⟩ ?_
  skip
  refine WC.seq ?_
  refine WC.region ?_
  refine WL.world (rw_box rfl rfl C) rfl ?_
  rintro v w ⟨b_12, rfl, hb_12, C', T⟩
  replace C' : Ctx U0 [] w0 [some b_12] _ := C'
  replace T : TR U0 [] _ [some b_12] _ [] := T
  replace hb_12 : Blk _ b_12 26 [.int .u16 c_1.Local, .int .u16 c_1.Remote, .int .u16 c_1.PSM, .int .i64 c_1.MTU, .int .i64 c_1.MPS, .int .i64 c_1.PeerMTU, .int .i64 c_1.PeerMPS, .int .i64 c_1.TxCredits, .int .i64 c_1.RxCredits, .int .i64 c_1.Given, .slice A_2 (List.length c_1.Out) k_3, .int .i64 c_1.Sent, .slice A_5 (List.length c_1.In) k_6, .int .i64 c_1.Want, .bool c_1.Failed] := hb_12
  replace f_4 := T.sl f_4
  replace f_7 := T.sl f_7
  replace f_11 := T.sl f_11
  clear T; replace C := C'; clear C'
  refine WL.val (rv_assign rfl) rfl ?_
  refine WL.nilThen ?_
  refine WC.seq ?_
  refine WC.seq ?_
  refine WC.region ?_
  refine WL.val (rv_loadN Try.isAgg26 Try.sizeOf26 rfl hb_12 rfl rfl) rfl ?_
  replace hp := bind_inv hp
  obtain ⟨x_13, e_x_13, hp⟩ := hp
  refine WL.call (rc_func Try.call9 rfl) (ok_wirelesslaw33_light F (Mu U0 [some b_12]) _ c_1 A_2 k_3 A_5 k_6 (C.give [0] [] (by decide) rfl rfl (by decide)) (f_4.mu (mu_give [0] [] rfl rfl)) (f_7.mu (mu_give [0] [] rfl rfl)) _ e_x_13) rfl ?_
  rintro v w ⟨rfl, D⟩
  obtain ⟨C', T⟩ := C.join D [0] [] (by decide) rfl rfl (by decide)
  replace C' : Ctx U0 [] w0 [some b_12] _ := C'
  replace T : TR U0 [some b_12] _ [some b_12] _ [] := T
  replace f_4 := T.sl f_4
  replace f_7 := T.sl f_7
  replace f_11 := T.sl f_11
  replace hb_12 := T.blk ne0 hb_12
  clear T; replace C := C'; clear C'
  clear D
  refine WL.val (rv_not rfl) rfl ?_
  refine WL.val (rv_move rfl) rfl ?_
  obtain ⟨z_15, hz, hpr⟩ := bind_inv hp
  clear hp
  refine WL.cutAt 5 (fun a w => (True) ∧ (Holds 78 [(1, .slice A_9 (List.length frames_8) k_10), (2, .pointer (some ⟨b_12, 0, none⟩)), (21, .bool z_15)] a) ∧ (Ctx U0 [] w0 [some b_12] w) ∧ (Sl 1 (RSl 1 (RInt .u8)) (Mu U0 [some b_12]) w A_9 k_10 frames_8) ∧ (Sl 1 (RSl 1 (RInt .u8)) (Mu U0 [some b_12]) w A_2 k_3 c_1.Out) ∧ (Sl 1 (RInt .u8) (Mu U0 [some b_12]) w A_5 k_6 c_1.In) ∧ (Blk w b_12 26 [.int .u16 c_1.Local, .int .u16 c_1.Remote, .int .u16 c_1.PSM, .int .i64 c_1.MTU, .int .i64 c_1.MPS, .int .i64 c_1.PeerMTU, .int .i64 c_1.PeerMPS, .int .i64 c_1.TxCredits, .int .i64 c_1.RxCredits, .int .i64 c_1.Given, .slice A_2 (List.length c_1.Out) k_3, .int .i64 c_1.Sent, .slice A_5 (List.length c_1.In) k_6, .int .i64 c_1.Want, .bool c_1.Failed])) ?_ ?_
  · have hp := hz
    rcases Bool.eq_false_or_eq_true ((!x_13)) with hg_14 | hg_14
    · replace hp := if_t hp hg_14
      refine WL.no rfl rfl hg_14 rfl ?_
      refine WL.no rfl rfl hg_14 rfl ?_
      refine WL.no rfl rfl hg_14 rfl ?_
      refine WL.no rfl rfl hg_14 rfl ?_
      refine WL.val (rv_pick_t rfl hg_14 rfl) rfl ?_
      refine WL.nil (fun a ha => ?_)
      obtain rfl := some_inv' hp
      exact ⟨trivial, ha.sub ⟨rfl, rfl, rfl, trivial⟩, C, f_11, f_4, f_7, hb_12⟩
    · replace hp := if_f hp hg_14
      refine WL.yes rfl rfl hg_14 ?_
      refine WL.val (rv_move rfl) rfl ?_
      refine WL.yes rfl rfl hg_14 ?_
      refine WL.val (rv_build (cs := [.int .u16 0, .int .u16 0, .int .u16 0, .int .i64 0, .int .i64 0, .int .i64 0, .int .i64 0, .int .i64 0, .int .i64 0, .int .i64 0, .slice A_9 (List.length frames_8) k_10, .int .i64 0, .slice none 0 0, .int .i64 0, .bool false]) (vs := [(10, .slice A_9 (List.length frames_8) k_10)]) Try.zeroValue26 Try.underlying26 (PL26 _ (Try.underlying26).symm) rfl (by kernel_rfl)) rfl ?_
      replace hp := bind_inv hp
      obtain ⟨x_198, e_x_198, hp⟩ := hp
      refine WL.yes rfl rfl hg_14 ?_
      refine WL.call (rc_func Try.call9 rfl) (ok_wirelesslaw33_light F (Mu U0 [some b_12]) _ (T_api_Channel.mk 0 0 0 0 0 0 0 0 0 0 frames_8 0 [] 0 false) A_9 k_10 none 0 (C.give [0] [] (by decide) rfl rfl (by decide)) (f_11.mu (mu_give [0] [] rfl rfl)) Sl.nil0 _ e_x_198) rfl ?_
      rintro v w ⟨rfl, D⟩
      obtain ⟨C', T⟩ := C.join D [0] [] (by decide) rfl rfl (by decide)
      replace C' : Ctx U0 [] w0 [some b_12] _ := C'
      replace T : TR U0 [some b_12] _ [some b_12] _ [] := T
      replace f_4 := T.sl f_4
      replace f_7 := T.sl f_7
      replace f_11 := T.sl f_11
      replace hb_12 := T.blk ne0 hb_12
      clear T; replace C := C'; clear C'
      clear D
      refine WL.yes rfl rfl hg_14 ?_
      refine WL.val (rv_not rfl) rfl ?_
      refine WL.val (rv_pick_f rfl hg_14 rfl) rfl ?_
      refine WL.nil (fun a ha => ?_)
      obtain rfl := some_inv' hp
      exact ⟨trivial, ha.sub ⟨rfl, rfl, rfl, trivial⟩, C, f_11, f_4, f_7, hb_12⟩
  · rintro a w ⟨hp, ha, C, f_11, f_4, f_7, hb_12⟩
    have hp := hpr; clear hpr hz
    refine WL.ofJ (l := [(1, .slice A_9 (List.length frames_8) k_10), (2, .pointer (some ⟨b_12, 0, none⟩)), (21, .bool z_15)]) ?_ ha
    refine WL.val (rv_move rfl) rfl ?_
    obtain ⟨z_17, hz, hpr⟩ := bind_inv hp
    clear hp
    refine WL.cutAt 4 (fun a w => (True) ∧ (Holds 78 [(1, .slice A_9 (List.length frames_8) k_10), (2, .pointer (some ⟨b_12, 0, none⟩)), (26, .bool z_17)] a) ∧ (Ctx U0 [] w0 [some b_12] w) ∧ (Sl 1 (RSl 1 (RInt .u8)) (Mu U0 [some b_12]) w A_9 k_10 frames_8) ∧ (Sl 1 (RSl 1 (RInt .u8)) (Mu U0 [some b_12]) w A_2 k_3 c_1.Out) ∧ (Sl 1 (RInt .u8) (Mu U0 [some b_12]) w A_5 k_6 c_1.In) ∧ (Blk w b_12 26 [.int .u16 c_1.Local, .int .u16 c_1.Remote, .int .u16 c_1.PSM, .int .i64 c_1.MTU, .int .i64 c_1.MPS, .int .i64 c_1.PeerMTU, .int .i64 c_1.PeerMPS, .int .i64 c_1.TxCredits, .int .i64 c_1.RxCredits, .int .i64 c_1.Given, .slice A_2 (List.length c_1.Out) k_3, .int .i64 c_1.Sent, .slice A_5 (List.length c_1.In) k_6, .int .i64 c_1.Want, .bool c_1.Failed])) ?_ ?_
    · have hp := hz
      rcases Bool.eq_false_or_eq_true (z_15) with hg_16 | hg_16
      · replace hp := if_t hp hg_16
        refine WL.no rfl rfl hg_16 rfl ?_
        refine WL.no rfl rfl hg_16 rfl ?_
        refine WL.no rfl rfl hg_16 rfl ?_
        refine WL.val (rv_pick_t rfl hg_16 rfl) rfl ?_
        refine WL.nil (fun a ha => ?_)
        obtain rfl := some_inv' hp
        exact ⟨trivial, ha.sub ⟨rfl, rfl, rfl, trivial⟩, C, f_11, f_4, f_7, hb_12⟩
      · replace hp := if_f hp hg_16
        refine WL.yes rfl rfl hg_16 ?_
        refine WL.val (rv_loadN Try.isAgg26 Try.sizeOf26 rfl hb_12 rfl rfl) rfl ?_
        replace hp := bind_inv hp
        obtain ⟨x_196, e_x_196, hp⟩ := hp
        refine WL.yes rfl rfl hg_16 ?_
        refine WL.call (rc_func Try.call10 rfl) (ok_wirelessref33_Check F (Mu U0 [some b_12]) _ c_1 A_2 k_3 A_5 k_6 (C.give [0] [] (by decide) rfl rfl (by decide)) (f_4.mu (mu_give [0] [] rfl rfl)) (f_7.mu (mu_give [0] [] rfl rfl)) _ e_x_196) rfl ?_
        rintro v w ⟨rfl, D⟩
        obtain ⟨C', T⟩ := C.join D [0] [] (by decide) rfl rfl (by decide)
        replace C' : Ctx U0 [] w0 [some b_12] _ := C'
        replace T : TR U0 [some b_12] _ [some b_12] _ [] := T
        replace f_11 := T.sl f_11
        replace f_4 := T.sl f_4
        replace f_7 := T.sl f_7
        replace hb_12 := T.blk ne0 hb_12
        clear T; replace C := C'; clear C'
        clear D
        refine WL.yes rfl rfl hg_16 ?_
        refine WL.val (rv_neq rfl rfl) rfl ?_
        refine WL.val (rv_pick_f rfl hg_16 rfl) rfl ?_
        refine WL.nil (fun a ha => ?_)
        obtain rfl := some_inv' hp
        exact ⟨trivial, ha.sub ⟨rfl, rfl, rfl, trivial⟩, C, f_11, f_4, f_7, hb_12⟩
    · rintro a w ⟨hp, ha, C, f_11, f_4, f_7, hb_12⟩
      have hp := hpr; clear hpr hz
      refine WL.ofJ (l := [(1, .slice A_9 (List.length frames_8) k_10), (2, .pointer (some ⟨b_12, 0, none⟩)), (26, .bool z_17)]) ?_ ha
      refine WL.nilThen ?_
      refine WC.cond rfl (fun hc => ?_) (fun hc => ?_)
      · replace hp := if_t hp hc
        clear hc
        refine WC.seq ?_
        refine WC.region ?_
        replace hp := bind_inv hp
        obtain ⟨x_18, e_x_18, hp⟩ := hp
        refine WL.call (rc_func Try.call11 rfl) (ok_wirelesslaw33_exampleHolds F (Mu U0 [some b_12]) _  (C.give [0] [] (by decide) rfl rfl (by decide)) _ e_x_18) rfl ?_
        rintro v w ⟨rfl, D⟩
        obtain ⟨C', T⟩ := C.join D [0] [] (by decide) rfl rfl (by decide)
        replace C' : Ctx U0 [] w0 [some b_12] _ := C'
        replace T : TR U0 [some b_12] _ [some b_12] _ [] := T
        replace f_11 := T.sl f_11
        replace f_4 := T.sl f_4
        replace f_7 := T.sl f_7
        replace hb_12 := T.blk ne0 hb_12
        clear T; replace C := C'; clear C'
        clear D
        refine WL.val (rv_assign rfl) rfl ?_
        refine WL.nilThen ?_
        obtain rfl := some_inv' hp
        refine WC.ret (retK (rs := [.tmp 4]) (vs := [.bool x_18]) rfl ⟨rv1_tmp rfl, trivial⟩ ?_)
        have T : TR U0 [some b_12] w [] w [] := TR.pick [] rfl
        have C' : Ctx U0 [] w0 [] _ := C.pick [] (by decide) rfl
        clear T; replace C := C'; clear C'
        exact ⟨_, rfl, rfl, C⟩
      · replace hp := if_f hp hc
        clear hc
        refine WC.skipThen ?_
        refine WC.seq ?_
        refine WC.region ?_
        refine WL.val (rv_loadN Try.isAgg26 Try.sizeOf26 rfl hb_12 rfl rfl) rfl ?_
        refine WL.world (rw_alloc Try.zeroValue26 rfl C) rfl ?_
        rintro v w ⟨b_19, rfl, hb_19, C', T⟩
        replace C' : Ctx U0 [] w0 [some b_19, some b_12] _ := C'
        replace T : TR U0 [some b_12] _ [some b_19, some b_12] _ [] := T
        replace hb_19 : Blk _ b_19 26 [.int .u16 0, .int .u16 0, .int .u16 0, .int .i64 0, .int .i64 0, .int .i64 0, .int .i64 0, .int .i64 0, .int .i64 0, .int .i64 0, .slice none 0 0, .int .i64 0, .slice none 0 0, .int .i64 0, .bool false] := hb_19
        replace f_11 := T.sl f_11
        replace f_4 := T.sl f_4
        replace f_7 := T.sl f_7
        replace hb_12 := T.blk ne0 hb_12
        clear T; replace C := C'; clear C'
        refine WL.storeK (rs_store (i := 0) (cs' := [.int .u16 c_1.Local, .int .u16 c_1.Remote, .int .u16 c_1.PSM, .int .i64 c_1.MTU, .int .i64 c_1.MPS, .int .i64 c_1.PeerMTU, .int .i64 c_1.PeerMPS, .int .i64 c_1.TxCredits, .int .i64 c_1.RxCredits, .int .i64 c_1.Given, .slice A_2 (List.length c_1.Out) k_3, .int .i64 c_1.Sent, .slice A_5 (List.length c_1.In) k_6, .int .i64 c_1.Want, .bool c_1.Failed]) Try.sizeOf26 rfl rfl rfl rfl rfl hb_19 rfl C rfl rfl) ?_
        rintro w ⟨hb_19, C', T⟩
        replace f_11 := T.sl f_11
        replace f_4 := T.sl f_4
        replace f_7 := T.sl f_7
        replace hb_12 := T.blk (C.ne (i := 1) rfl [0] rfl (by decide)) hb_12
        clear T; replace C := C'; clear C'
        refine WL.nilThen ?_
        refine WC.seqCut (fun a w => (wirelesslaw33_SduInputs_j1 F = some r) ∧ (Holds 78 [] a) ∧ (Ctx U0 [] w0 [] w)) ?_ ?_
        · refine WC.seq ?_
          refine WC.region ?_
          refine WL.val (rv_assign rfl) rfl ?_
          refine WL.nilThen ?_
          refine WC.block ?_
          obtain ⟨o_66, hi_66, hpo_66⟩ := bind_inv hp
          clear hp
          refine WC.loop (fun n a w => ∃ (c_64 : T_api_Channel) (c_65 : T_api_Channel) (x_63 : Int) (A_32 : Option Addr) (k_33 : Nat) (A_37 : Option Addr) (k_38 : Nat) (A_53 : Option Addr) (k_54 : Nat) (A_58 : Option Addr) (k_59 : Nat), (iter (fun s => wirelesslaw33_SduInputs_l66 F frames_8 s.1 s.2.1 s.2.2) n (c_64, c_65, x_63) = some o_66) ∧ (Holds 78 [(1, .slice A_9 (List.length frames_8) k_10), (2, .pointer (some ⟨b_12, 0, none⟩)), (5, .pointer (some ⟨b_19, 0, none⟩)), (6, .int .i64 x_63)] a) ∧ (Ctx U0 [] w0 [some b_19, some b_12] w) ∧ (Sl 1 (RSl 1 (RInt .u8)) (Mu U0 [some b_19, some b_12]) w A_9 k_10 frames_8) ∧ (Sl 1 (RSl 1 (RInt .u8)) (Mu U0 [some b_19, some b_12]) w A_32 k_33 c_64.Out) ∧ (Sl 1 (RInt .u8) (Mu U0 [some b_19, some b_12]) w A_37 k_38 c_64.In) ∧ (Sl 1 (RSl 1 (RInt .u8)) (Mu U0 [some b_19, some b_12]) w A_53 k_54 c_65.Out) ∧ (Sl 1 (RInt .u8) (Mu U0 [some b_19, some b_12]) w A_58 k_59 c_65.In) ∧ (Blk w b_12 26 [.int .u16 c_64.Local, .int .u16 c_64.Remote, .int .u16 c_64.PSM, .int .i64 c_64.MTU, .int .i64 c_64.MPS, .int .i64 c_64.PeerMTU, .int .i64 c_64.PeerMPS, .int .i64 c_64.TxCredits, .int .i64 c_64.RxCredits, .int .i64 c_64.Given, .slice A_32 (List.length c_64.Out) k_33, .int .i64 c_64.Sent, .slice A_37 (List.length c_64.In) k_38, .int .i64 c_64.Want, .bool c_64.Failed]) ∧ (Blk w b_19 26 [.int .u16 c_65.Local, .int .u16 c_65.Remote, .int .u16 c_65.PSM, .int .i64 c_65.MTU, .int .i64 c_65.MPS, .int .i64 c_65.PeerMTU, .int .i64 c_65.PeerMPS, .int .i64 c_65.TxCredits, .int .i64 c_65.RxCredits, .int .i64 c_65.Given, .slice A_53 (List.length c_65.Out) k_54, .int .i64 c_65.Sent, .slice A_58 (List.length c_65.In) k_59, .int .i64 c_65.Want, .bool c_65.Failed])) F ?_ ?_
          · intro a ha
            exact ⟨c_1, c_1, 0, A_2, k_3, A_5, k_6, A_2, k_3, A_5, k_6, hi_66, ha.sub ⟨rfl, rfl, rfl, rfl, trivial⟩, C, f_11, f_4, f_7, f_4, f_7, hb_12, hb_19⟩
          · rintro n_66 a w ⟨c_64, c_65, x_63, A_32, k_33, A_37, k_38, A_53, k_54, A_58, k_59, hi_66, ha, C, f_11, f_34, f_39, f_55, f_60, hb_12, hb_19⟩
            obtain ⟨n_66, q_66, rfl, hp, hs_66⟩ := iter_inv hi_66
            replace hp : wirelesslaw33_SduInputs_l66 F frames_8 c_64 c_65 x_63 = some q_66 := hp
            clear hi_66
            refine WC.ofJ (l := [(1, .slice A_9 (List.length frames_8) k_10), (2, .pointer (some ⟨b_12, 0, none⟩)), (5, .pointer (some ⟨b_19, 0, none⟩)), (6, .int .i64 x_63)]) ?_ ha
            refine WC.seq ?_
            refine WC.seq ?_
            refine WC.region ?_
            refine WL.val (rv_move rfl) rfl ?_
            refine WL.val (rv_move rfl) rfl ?_
            refine WL.val (rv_len (dt := frames_8) Try.underlying23 rfl) rfl ?_
            refine WL.val (rv_lss rfl rfl) rfl ?_
            refine WL.nilThen ?_
            refine WC.cond rfl (fun hc => ?_) (fun hc => ?_)
            · replace hp := if_t hp hc
              clear hc
              refine WC.skipThen ?_
              refine WC.seq ?_
              refine WC.block ?_
              refine WC.seqCut (fun a w => ∃ (c_94 : T_api_Channel) (l_89 : (List (List Int))) (x_93 : Int) (b_67 : Nat) (A_79 : Option Addr) (k_80 : Nat) (A_84 : Option Addr) (k_85 : Nat) (A_90 : Option Addr) (k_91 : Nat), (wirelesslaw33_SduInputs_j2 F frames_8 x_63 c_65 c_94 l_89 x_93 = some q_66) ∧ (Holds 78 [(1, .slice A_9 (List.length frames_8) k_10), (2, .pointer (some ⟨b_12, 0, none⟩)), (5, .pointer (some ⟨b_19, 0, none⟩)), (6, .int .i64 x_63), (7, .pointer (some ⟨b_67, 0, none⟩)), (8, .slice A_90 (List.length l_89) k_91), (9, .int .i64 x_93)] a) ∧ (Ctx U0 [] w0 [some b_67, some b_19, some b_12] w) ∧ (Sl 1 (RSl 1 (RInt .u8)) (Mu U0 [some b_67, some b_19, some b_12]) w A_9 k_10 frames_8) ∧ (Sl 1 (RSl 1 (RInt .u8)) (Mu U0 [some b_67, some b_19, some b_12]) w A_32 k_33 c_64.Out) ∧ (Sl 1 (RInt .u8) (Mu U0 [some b_67, some b_19, some b_12]) w A_37 k_38 c_64.In) ∧ (Sl 1 (RSl 1 (RInt .u8)) (Mu U0 [some b_67, some b_19, some b_12]) w A_53 k_54 c_65.Out) ∧ (Sl 1 (RInt .u8) (Mu U0 [some b_67, some b_19, some b_12]) w A_58 k_59 c_65.In) ∧ (Sl 1 (RSl 1 (RInt .u8)) (Mu U0 [some b_67, some b_19, some b_12]) w A_79 k_80 c_94.Out) ∧ (Sl 1 (RInt .u8) (Mu U0 [some b_67, some b_19, some b_12]) w A_84 k_85 c_94.In) ∧ (Sl 1 (RSl 1 (RInt .u8)) (Mu U0 [some b_67, some b_19, some b_12]) w A_90 k_91 l_89) ∧ (Blk w b_12 26 [.int .u16 c_64.Local, .int .u16 c_64.Remote, .int .u16 c_64.PSM, .int .i64 c_64.MTU, .int .i64 c_64.MPS, .int .i64 c_64.PeerMTU, .int .i64 c_64.PeerMPS, .int .i64 c_64.TxCredits, .int .i64 c_64.RxCredits, .int .i64 c_64.Given, .slice A_32 (List.length c_64.Out) k_33, .int .i64 c_64.Sent, .slice A_37 (List.length c_64.In) k_38, .int .i64 c_64.Want, .bool c_64.Failed]) ∧ (Blk w b_19 26 [.int .u16 c_65.Local, .int .u16 c_65.Remote, .int .u16 c_65.PSM, .int .i64 c_65.MTU, .int .i64 c_65.MPS, .int .i64 c_65.PeerMTU, .int .i64 c_65.PeerMPS, .int .i64 c_65.TxCredits, .int .i64 c_65.RxCredits, .int .i64 c_65.Given, .slice A_53 (List.length c_65.Out) k_54, .int .i64 c_65.Sent, .slice A_58 (List.length c_65.In) k_59, .int .i64 c_65.Want, .bool c_65.Failed]) ∧ (Blk w b_67 26 [.int .u16 c_94.Local, .int .u16 c_94.Remote, .int .u16 c_94.PSM, .int .i64 c_94.MTU, .int .i64 c_94.MPS, .int .i64 c_94.PeerMTU, .int .i64 c_94.PeerMPS, .int .i64 c_94.TxCredits, .int .i64 c_94.RxCredits, .int .i64 c_94.Given, .slice A_79 (List.length c_94.Out) k_80, .int .i64 c_94.Sent, .slice A_84 (List.length c_94.In) k_85, .int .i64 c_94.Want, .bool c_94.Failed])) ?_ ?_
              · replace hp := bind_inv hp
                obtain ⟨x_165, e_x_165, hp⟩ := hp
                obtain ⟨d_166, es_167, f_168, hl, hr, hv_169⟩ := sl_ix2 (P := Try.prog) (iv := x_63) Try.underlying23 Try.sizeOf24 rfl f_11 e_x_165
                obtain ⟨A_170, k_171, rfl, f_172⟩ := hr
                clear hl
                refine WC.draw (fun w => (Blk w b_12 26 [.int .u16 c_64.Local, .int .u16 c_64.Remote, .int .u16 c_64.PSM, .int .i64 c_64.MTU, .int .i64 c_64.MPS, .int .i64 c_64.PeerMTU, .int .i64 c_64.PeerMPS, .int .i64 c_64.TxCredits, .int .i64 c_64.RxCredits, .int .i64 c_64.Given, .slice A_32 (List.length c_64.Out) k_33, .int .i64 c_64.Sent, .slice A_37 (List.length c_64.In) k_38, .int .i64 c_64.Want, .bool c_64.Failed]) ∧ (At (fun _ => False) w d_166 [.slice A_170 (List.length x_165) k_171])) MO C ?_
                rintro w C' T
                replace f_11 := T.sl f_11
                replace f_34 := T.sl f_34
                replace f_39 := T.sl f_39
                replace f_55 := T.sl f_55
                replace f_60 := T.sl f_60
                replace f_172 := T.sl f_172
                replace f_168 := T.at_ f_168 (by simp)
                replace hb_12 := T.blk ne0 hb_12
                replace hb_19 := T.blk ne0 hb_19
                clear T; replace C := C'; clear C'
                refine WA.take (i := 0) (bs' := [true, false, false, false, false, false, false, false, false, false, false, false, false, false]) rfl (by kernel_rfl) (by kernel_rfl) (by kernel_rfl) (fun w hS => by obtain ⟨hb_12, f_168⟩ := hS; exact rv_loadN Try.isAgg26 Try.sizeOf26 rfl hb_12 rfl rfl) ⟨hb_12, (f_168.mu (fun _ h => h.elim))⟩ rfl rfl ?_
                refine WA.take (i := 1) (bs' := [true, true, false, false, false, false, false, false, false, false, false, false, false, false]) rfl (by kernel_rfl) (by kernel_rfl) (by kernel_rfl) (fun _ _ => rv_move rfl) ⟨hb_12, (f_168.mu (fun _ h => h.elim))⟩ rfl rfl ?_
                refine WA.take (i := 2) (bs' := [true, true, true, false, false, false, false, false, false, false, false, false, false, false]) rfl (by kernel_rfl) (by kernel_rfl) (by kernel_rfl) (fun _ _ => rv_move rfl) ⟨hb_12, (f_168.mu (fun _ h => h.elim))⟩ rfl rfl ?_
                refine WA.take (i := 3) (bs' := [true, true, true, true, false, false, false, false, false, false, false, false, false, false]) rfl (by kernel_rfl) (by kernel_rfl) (by kernel_rfl) (fun _ _ => hv_169 rfl rfl) ⟨hb_12, (f_168.mu (fun _ h => h.elim))⟩ rfl rfl ?_
                refine WA.take (i := 4) (bs' := [true, true, true, true, true, false, false, false, false, false, false, false, false, false]) rfl (by kernel_rfl) (by kernel_rfl) (by kernel_rfl) (fun w hS => by obtain ⟨hb_12, f_168⟩ := hS; exact rv_loadA1 (ad := d_166) (o := 0) Try.isAgg24 rfl f_168 rfl) ⟨hb_12, (f_168.mu (fun _ h => h.elim))⟩ rfl rfl ?_
                refine WA.all2 (i := 5) (j := 10) (by kernel_rfl) ?_ ?_
                · replace hp := bind_inv hp
                  obtain ⟨x_173, e_x_173, hp⟩ := hp
                  refine WS.call (i := 5) (bs' := [true, true, true, true, true, true, false, false, false, false, false, false, false, false]) rfl (rc_func Try.call16 rfl) (ok_sdu_Input F (Mu U0 [some b_19, some b_12]) _ c_64 x_165 A_32 k_33 A_37 k_38 A_170 k_171 (C.give [0, 1] [] (by decide) rfl rfl (by decide)) (f_34.mu (mu_give [0, 1] [] rfl rfl)) (f_39.mu (mu_give [0, 1] [] rfl rfl)) (f_172.mu (mu_give [0, 1] [] rfl rfl)) _ e_x_173) rfl rfl ?_
                  rintro v w ⟨A_174, k_175, A_177, k_178, A_180, k_181, rfl, D, f_176, f_179, f_182⟩
                  obtain ⟨C', T⟩ := C.join D [0, 1] [] (by decide) rfl rfl (by decide)
                  replace C' : Ctx U0 [] w0 [some b_19, some b_12] _ := C'
                  replace T : TR U0 [some b_19, some b_12] _ [some b_19, some b_12] _ [] := T
                  replace f_176 : Sl 1 (RSl 1 (RInt .u8)) (Mu U0 [some b_19, some b_12]) _ A_174 k_175 x_173.1.Out := f_176.mu (mu_join (R := []) (L2 := [some b_19, some b_12]) (fun b h => h))
                  replace f_179 : Sl 1 (RInt .u8) (Mu U0 [some b_19, some b_12]) _ A_177 k_178 x_173.1.In := f_179.mu (mu_join (R := []) (L2 := [some b_19, some b_12]) (fun b h => h))
                  replace f_182 : Sl 1 (RSl 1 (RInt .u8)) (Mu U0 [some b_19, some b_12]) _ A_180 k_181 x_173.2.1 := f_182.mu (mu_join (R := []) (L2 := [some b_19, some b_12]) (fun b h => h))
                  replace f_11 := T.sl f_11
                  replace f_34 := T.sl f_34
                  replace f_39 := T.sl f_39
                  replace f_55 := T.sl f_55
                  replace f_60 := T.sl f_60
                  replace f_172 := T.sl f_172
                  replace f_168 := T.at_ f_168 (by simp)
                  replace hb_12 := T.blk ne0 hb_12
                  replace hb_19 := T.blk ne0 hb_19
                  clear T; replace C := C'; clear C'
                  clear D
                  refine ⟨⟨hb_12, (f_168.mu (fun _ h => h.elim))⟩, ?_⟩
                  refine WA.take (i := 6) (bs' := [true, true, true, true, true, true, true, false, false, false, false, false, false, false]) rfl (by kernel_rfl) (by kernel_rfl) (by kernel_rfl) (fun _ _ => rv_move rfl) ⟨hb_12, (f_168.mu (fun _ h => h.elim))⟩ rfl rfl ?_
                  refine WA.take (i := 7) (bs' := [true, true, true, true, true, true, true, true, false, false, false, false, false, false]) rfl (by kernel_rfl) (by kernel_rfl) (by kernel_rfl) (fun _ _ => rv_extract rfl rfl) ⟨hb_12, (f_168.mu (fun _ h => h.elim))⟩ rfl rfl ?_
                  refine WA.take (i := 8) (bs' := [true, true, true, true, true, true, true, true, true, false, false, false, false, false]) rfl (by kernel_rfl) (by kernel_rfl) (by kernel_rfl) (fun _ _ => rv_extract rfl rfl) ⟨hb_12, (f_168.mu (fun _ h => h.elim))⟩ rfl rfl ?_
                  refine WA.take (i := 9) (bs' := [true, true, true, true, true, true, true, true, true, true, false, false, false, false]) rfl (by kernel_rfl) (by kernel_rfl) (by kernel_rfl) (fun _ _ => rv_extract rfl rfl) ⟨hb_12, (f_168.mu (fun _ h => h.elim))⟩ rfl rfl ?_
                  refine WA.all1 (i := 10) (by kernel_rfl) ?_
                  refine WS.world (i := 10) (bs' := [true, true, true, true, true, true, true, true, true, true, true, false, false, false]) rfl (rw_alloc Try.zeroValue26 rfl C) rfl rfl ?_
                  rintro v w ⟨b_183, rfl, hb_183, C', T⟩
                  replace C' : Ctx U0 [] w0 [some b_183, some b_19, some b_12] _ := C'
                  replace T : TR U0 [some b_19, some b_12] _ [some b_183, some b_19, some b_12] _ [] := T
                  replace hb_183 : Blk _ b_183 26 [.int .u16 0, .int .u16 0, .int .u16 0, .int .i64 0, .int .i64 0, .int .i64 0, .int .i64 0, .int .i64 0, .int .i64 0, .int .i64 0, .slice none 0 0, .int .i64 0, .slice none 0 0, .int .i64 0, .bool false] := hb_183
                  replace f_11 := T.sl f_11
                  replace f_34 := T.sl f_34
                  replace f_39 := T.sl f_39
                  replace f_55 := T.sl f_55
                  replace f_60 := T.sl f_60
                  replace f_172 := T.sl f_172
                  replace f_168 := T.at_ f_168 (by simp)
                  replace f_176 := T.sl f_176
                  replace f_179 := T.sl f_179
                  replace f_182 := T.sl f_182
                  replace hb_12 := T.blk ne0 hb_12
                  replace hb_19 := T.blk ne0 hb_19
                  clear T; replace C := C'; clear C'
                  refine ⟨⟨hb_12, (f_168.mu (fun _ h => h.elim))⟩, ?_⟩
                  refine WA.all1 (i := 11) (by kernel_rfl) ?_
                  refine WS.storeK (i := 11) (bs' := [true, true, true, true, true, true, true, true, true, true, true, true, false, false]) rfl (rs_store (i := 0) (cs' := [.int .u16 x_173.1.Local, .int .u16 x_173.1.Remote, .int .u16 x_173.1.PSM, .int .i64 x_173.1.MTU, .int .i64 x_173.1.MPS, .int .i64 x_173.1.PeerMTU, .int .i64 x_173.1.PeerMPS, .int .i64 x_173.1.TxCredits, .int .i64 x_173.1.RxCredits, .int .i64 x_173.1.Given, .slice A_174 (List.length x_173.1.Out) k_175, .int .i64 x_173.1.Sent, .slice A_177 (List.length x_173.1.In) k_178, .int .i64 x_173.1.Want, .bool x_173.1.Failed]) Try.sizeOf26 rfl rfl rfl rfl rfl hb_183 rfl C rfl rfl) rfl ?_
                  rintro w ⟨hb_183, C', T⟩
                  replace f_11 := T.sl f_11
                  replace f_34 := T.sl f_34
                  replace f_39 := T.sl f_39
                  replace f_55 := T.sl f_55
                  replace f_60 := T.sl f_60
                  replace f_172 := T.sl f_172
                  replace f_168 := T.at_ f_168 (by simp)
                  replace f_176 := T.sl f_176
                  replace f_179 := T.sl f_179
                  replace f_182 := T.sl f_182
                  replace hb_12 := T.blk (C.ne (i := 2) rfl [0] rfl (by decide)) hb_12
                  replace hb_19 := T.blk (C.ne (i := 1) rfl [0] rfl (by decide)) hb_19
                  clear T; replace C := C'; clear C'
                  refine ⟨⟨hb_12, (f_168.mu (fun _ h => h.elim))⟩, ?_⟩
                  refine WA.take (i := 12) (bs' := [true, true, true, true, true, true, true, true, true, true, true, true, true, false]) rfl (by kernel_rfl) (by kernel_rfl) (by kernel_rfl) (fun _ _ => rv_assign rfl) ⟨hb_12, (f_168.mu (fun _ h => h.elim))⟩ rfl rfl ?_
                  refine WA.take (i := 13) (bs' := [true, true, true, true, true, true, true, true, true, true, true, true, true, true]) rfl (by kernel_rfl) (by kernel_rfl) (by kernel_rfl) (fun _ _ => rv_assign rfl) ⟨hb_12, (f_168.mu (fun _ h => h.elim))⟩ rfl rfl ?_
                  refine WA.done (by kernel_rfl) (fun a ha => ?_)
                  exact ⟨x_173.1, x_173.2.1, x_173.2.2, b_183, A_174, k_175, A_177, k_178, A_180, k_181, hp, ha.sub ⟨rfl, rfl, rfl, rfl, rfl, rfl, rfl, trivial⟩, C, f_11, f_34, f_39, f_55, f_60, f_176, f_179, f_182, hb_12, hb_19, hb_183⟩
                · refine WS.world (i := 10) (bs' := [true, true, true, true, true, false, false, false, false, false, true, false, false, false]) rfl (rw_alloc Try.zeroValue26 rfl C) rfl rfl ?_
                  rintro v w ⟨b_184, rfl, hb_184, C', T⟩
                  replace C' : Ctx U0 [] w0 [some b_184, some b_19, some b_12] _ := C'
                  replace T : TR U0 [some b_19, some b_12] _ [some b_184, some b_19, some b_12] _ [] := T
                  replace hb_184 : Blk _ b_184 26 [.int .u16 0, .int .u16 0, .int .u16 0, .int .i64 0, .int .i64 0, .int .i64 0, .int .i64 0, .int .i64 0, .int .i64 0, .int .i64 0, .slice none 0 0, .int .i64 0, .slice none 0 0, .int .i64 0, .bool false] := hb_184
                  replace f_11 := T.sl f_11
                  replace f_34 := T.sl f_34
                  replace f_39 := T.sl f_39
                  replace f_55 := T.sl f_55
                  replace f_60 := T.sl f_60
                  replace f_172 := T.sl f_172
                  replace f_168 := T.at_ f_168 (by simp)
                  replace hb_12 := T.blk ne0 hb_12
                  replace hb_19 := T.blk ne0 hb_19
                  clear T; replace C := C'; clear C'
                  refine ⟨⟨hb_12, (f_168.mu (fun _ h => h.elim))⟩, ?_⟩
                  refine WA.all1 (i := 5) (by kernel_rfl) ?_
                  replace hp := bind_inv hp
                  obtain ⟨x_185, e_x_185, hp⟩ := hp
                  refine WS.call (i := 5) (bs' := [true, true, true, true, true, true, false, false, false, false, true, false, false, false]) rfl (rc_func Try.call16 rfl) (ok_sdu_Input F (Mu U0 [some b_184, some b_19, some b_12]) _ c_64 x_165 A_32 k_33 A_37 k_38 A_170 k_171 (C.give [0, 1, 2] [] (by decide) rfl rfl (by decide)) (f_34.mu (mu_give [0, 1, 2] [] rfl rfl)) (f_39.mu (mu_give [0, 1, 2] [] rfl rfl)) (f_172.mu (mu_give [0, 1, 2] [] rfl rfl)) _ e_x_185) rfl rfl ?_
                  rintro v w ⟨A_186, k_187, A_189, k_190, A_192, k_193, rfl, D, f_188, f_191, f_194⟩
                  obtain ⟨C', T⟩ := C.join D [0, 1, 2] [] (by decide) rfl rfl (by decide)
                  replace C' : Ctx U0 [] w0 [some b_184, some b_19, some b_12] _ := C'
                  replace T : TR U0 [some b_184, some b_19, some b_12] _ [some b_184, some b_19, some b_12] _ [] := T
                  replace f_188 : Sl 1 (RSl 1 (RInt .u8)) (Mu U0 [some b_184, some b_19, some b_12]) _ A_186 k_187 x_185.1.Out := f_188.mu (mu_join (R := []) (L2 := [some b_184, some b_19, some b_12]) (fun b h => h))
                  replace f_191 : Sl 1 (RInt .u8) (Mu U0 [some b_184, some b_19, some b_12]) _ A_189 k_190 x_185.1.In := f_191.mu (mu_join (R := []) (L2 := [some b_184, some b_19, some b_12]) (fun b h => h))
                  replace f_194 : Sl 1 (RSl 1 (RInt .u8)) (Mu U0 [some b_184, some b_19, some b_12]) _ A_192 k_193 x_185.2.1 := f_194.mu (mu_join (R := []) (L2 := [some b_184, some b_19, some b_12]) (fun b h => h))
                  replace f_11 := T.sl f_11
                  replace f_34 := T.sl f_34
                  replace f_39 := T.sl f_39
                  replace f_55 := T.sl f_55
                  replace f_60 := T.sl f_60
                  replace f_172 := T.sl f_172
                  replace f_168 := T.at_ f_168 (by simp)
                  replace hb_12 := T.blk ne0 hb_12
                  replace hb_19 := T.blk ne0 hb_19
                  replace hb_184 := T.blk ne0 hb_184
                  clear T; replace C := C'; clear C'
                  clear D
                  refine ⟨⟨hb_12, (f_168.mu (fun _ h => h.elim))⟩, ?_⟩
                  refine WA.take (i := 6) (bs' := [true, true, true, true, true, true, true, false, false, false, true, false, false, false]) rfl (by kernel_rfl) (by kernel_rfl) (by kernel_rfl) (fun _ _ => rv_move rfl) ⟨hb_12, (f_168.mu (fun _ h => h.elim))⟩ rfl rfl ?_
                  refine WA.take (i := 7) (bs' := [true, true, true, true, true, true, true, true, false, false, true, false, false, false]) rfl (by kernel_rfl) (by kernel_rfl) (by kernel_rfl) (fun _ _ => rv_extract rfl rfl) ⟨hb_12, (f_168.mu (fun _ h => h.elim))⟩ rfl rfl ?_
                  refine WA.take (i := 8) (bs' := [true, true, true, true, true, true, true, true, true, false, true, false, false, false]) rfl (by kernel_rfl) (by kernel_rfl) (by kernel_rfl) (fun _ _ => rv_extract rfl rfl) ⟨hb_12, (f_168.mu (fun _ h => h.elim))⟩ rfl rfl ?_
                  refine WA.take (i := 9) (bs' := [true, true, true, true, true, true, true, true, true, true, true, false, false, false]) rfl (by kernel_rfl) (by kernel_rfl) (by kernel_rfl) (fun _ _ => rv_extract rfl rfl) ⟨hb_12, (f_168.mu (fun _ h => h.elim))⟩ rfl rfl ?_
                  refine WA.all1 (i := 11) (by kernel_rfl) ?_
                  refine WS.storeK (i := 11) (bs' := [true, true, true, true, true, true, true, true, true, true, true, true, false, false]) rfl (rs_store (i := 0) (cs' := [.int .u16 x_185.1.Local, .int .u16 x_185.1.Remote, .int .u16 x_185.1.PSM, .int .i64 x_185.1.MTU, .int .i64 x_185.1.MPS, .int .i64 x_185.1.PeerMTU, .int .i64 x_185.1.PeerMPS, .int .i64 x_185.1.TxCredits, .int .i64 x_185.1.RxCredits, .int .i64 x_185.1.Given, .slice A_186 (List.length x_185.1.Out) k_187, .int .i64 x_185.1.Sent, .slice A_189 (List.length x_185.1.In) k_190, .int .i64 x_185.1.Want, .bool x_185.1.Failed]) Try.sizeOf26 rfl rfl rfl rfl rfl hb_184 rfl C rfl rfl) rfl ?_
                  rintro w ⟨hb_184, C', T⟩
                  replace f_11 := T.sl f_11
                  replace f_34 := T.sl f_34
                  replace f_39 := T.sl f_39
                  replace f_55 := T.sl f_55
                  replace f_60 := T.sl f_60
                  replace f_172 := T.sl f_172
                  replace f_168 := T.at_ f_168 (by simp)
                  replace f_188 := T.sl f_188
                  replace f_191 := T.sl f_191
                  replace f_194 := T.sl f_194
                  replace hb_12 := T.blk (C.ne (i := 2) rfl [0] rfl (by decide)) hb_12
                  replace hb_19 := T.blk (C.ne (i := 1) rfl [0] rfl (by decide)) hb_19
                  clear T; replace C := C'; clear C'
                  refine ⟨⟨hb_12, (f_168.mu (fun _ h => h.elim))⟩, ?_⟩
                  refine WA.take (i := 12) (bs' := [true, true, true, true, true, true, true, true, true, true, true, true, true, false]) rfl (by kernel_rfl) (by kernel_rfl) (by kernel_rfl) (fun _ _ => rv_assign rfl) ⟨hb_12, (f_168.mu (fun _ h => h.elim))⟩ rfl rfl ?_
                  refine WA.take (i := 13) (bs' := [true, true, true, true, true, true, true, true, true, true, true, true, true, true]) rfl (by kernel_rfl) (by kernel_rfl) (by kernel_rfl) (fun _ _ => rv_assign rfl) ⟨hb_12, (f_168.mu (fun _ h => h.elim))⟩ rfl rfl ?_
                  refine WA.done (by kernel_rfl) (fun a ha => ?_)
                  exact ⟨x_185.1, x_185.2.1, x_185.2.2, b_184, A_186, k_187, A_189, k_190, A_192, k_193, hp, ha.sub ⟨rfl, rfl, rfl, rfl, rfl, rfl, rfl, trivial⟩, C, f_11, f_34, f_39, f_55, f_60, f_188, f_191, f_194, hb_12, hb_19, hb_184⟩
              · rintro a w ⟨c_94, l_89, x_93, b_67, A_79, k_80, A_84, k_85, A_90, k_91, hp, ha, C, f_11, f_34, f_39, f_55, f_60, f_81, f_86, f_92, hb_12, hb_19, hb_67⟩
                refine WC.ofJ (l := [(1, .slice A_9 (List.length frames_8) k_10), (2, .pointer (some ⟨b_12, 0, none⟩)), (5, .pointer (some ⟨b_19, 0, none⟩)), (6, .int .i64 x_63), (7, .pointer (some ⟨b_67, 0, none⟩)), (8, .slice A_90 (List.length l_89) k_91), (9, .int .i64 x_93)]) ?_ ha
                refine WC.seqCut (fun a w => ∃ (c_122 : T_api_Channel) (l_117 : (List (List Int))) (x_121 : Int) (b_95 : Nat) (A_107 : Option Addr) (k_108 : Nat) (A_112 : Option Addr) (k_113 : Nat) (A_118 : Option Addr) (k_119 : Nat), (wirelesslaw33_SduInputs_j3 F x_63 l_89 x_93 c_94 c_122 l_117 x_121 = some q_66) ∧ (Holds 78 [(1, .slice A_9 (List.length frames_8) k_10), (2, .pointer (some ⟨b_12, 0, none⟩)), (5, .pointer (some ⟨b_19, 0, none⟩)), (6, .int .i64 x_63), (7, .pointer (some ⟨b_67, 0, none⟩)), (8, .slice A_90 (List.length l_89) k_91), (9, .int .i64 x_93), (10, .pointer (some ⟨b_95, 0, none⟩)), (11, .slice A_118 (List.length l_117) k_119), (12, .int .i64 x_121)] a) ∧ (Ctx U0 [] w0 [some b_95, some b_67, some b_19, some b_12] w) ∧ (Sl 1 (RSl 1 (RInt .u8)) (Mu U0 [some b_95, some b_67, some b_19, some b_12]) w A_9 k_10 frames_8) ∧ (Sl 1 (RSl 1 (RInt .u8)) (Mu U0 [some b_95, some b_67, some b_19, some b_12]) w A_32 k_33 c_64.Out) ∧ (Sl 1 (RInt .u8) (Mu U0 [some b_95, some b_67, some b_19, some b_12]) w A_37 k_38 c_64.In) ∧ (Sl 1 (RSl 1 (RInt .u8)) (Mu U0 [some b_95, some b_67, some b_19, some b_12]) w A_53 k_54 c_65.Out) ∧ (Sl 1 (RInt .u8) (Mu U0 [some b_95, some b_67, some b_19, some b_12]) w A_58 k_59 c_65.In) ∧ (Sl 1 (RSl 1 (RInt .u8)) (Mu U0 [some b_95, some b_67, some b_19, some b_12]) w A_79 k_80 c_94.Out) ∧ (Sl 1 (RInt .u8) (Mu U0 [some b_95, some b_67, some b_19, some b_12]) w A_84 k_85 c_94.In) ∧ (Sl 1 (RSl 1 (RInt .u8)) (Mu U0 [some b_95, some b_67, some b_19, some b_12]) w A_90 k_91 l_89) ∧ (Sl 1 (RSl 1 (RInt .u8)) (Mu U0 [some b_95, some b_67, some b_19, some b_12]) w A_107 k_108 c_122.Out) ∧ (Sl 1 (RInt .u8) (Mu U0 [some b_95, some b_67, some b_19, some b_12]) w A_112 k_113 c_122.In) ∧ (Sl 1 (RSl 1 (RInt .u8)) (Mu U0 [some b_95, some b_67, some b_19, some b_12]) w A_118 k_119 l_117) ∧ (Blk w b_12 26 [.int .u16 c_64.Local, .int .u16 c_64.Remote, .int .u16 c_64.PSM, .int .i64 c_64.MTU, .int .i64 c_64.MPS, .int .i64 c_64.PeerMTU, .int .i64 c_64.PeerMPS, .int .i64 c_64.TxCredits, .int .i64 c_64.RxCredits, .int .i64 c_64.Given, .slice A_32 (List.length c_64.Out) k_33, .int .i64 c_64.Sent, .slice A_37 (List.length c_64.In) k_38, .int .i64 c_64.Want, .bool c_64.Failed]) ∧ (Blk w b_19 26 [.int .u16 c_65.Local, .int .u16 c_65.Remote, .int .u16 c_65.PSM, .int .i64 c_65.MTU, .int .i64 c_65.MPS, .int .i64 c_65.PeerMTU, .int .i64 c_65.PeerMPS, .int .i64 c_65.TxCredits, .int .i64 c_65.RxCredits, .int .i64 c_65.Given, .slice A_53 (List.length c_65.Out) k_54, .int .i64 c_65.Sent, .slice A_58 (List.length c_65.In) k_59, .int .i64 c_65.Want, .bool c_65.Failed]) ∧ (Blk w b_67 26 [.int .u16 c_94.Local, .int .u16 c_94.Remote, .int .u16 c_94.PSM, .int .i64 c_94.MTU, .int .i64 c_94.MPS, .int .i64 c_94.PeerMTU, .int .i64 c_94.PeerMPS, .int .i64 c_94.TxCredits, .int .i64 c_94.RxCredits, .int .i64 c_94.Given, .slice A_79 (List.length c_94.Out) k_80, .int .i64 c_94.Sent, .slice A_84 (List.length c_94.In) k_85, .int .i64 c_94.Want, .bool c_94.Failed]) ∧ (Blk w b_95 26 [.int .u16 c_122.Local, .int .u16 c_122.Remote, .int .u16 c_122.PSM, .int .i64 c_122.MTU, .int .i64 c_122.MPS, .int .i64 c_122.PeerMTU, .int .i64 c_122.PeerMPS, .int .i64 c_122.TxCredits, .int .i64 c_122.RxCredits, .int .i64 c_122.Given, .slice A_107 (List.length c_122.Out) k_108, .int .i64 c_122.Sent, .slice A_112 (List.length c_122.In) k_113, .int .i64 c_122.Want, .bool c_122.Failed])) ?_ ?_
                · replace hp := bind_inv hp
                  obtain ⟨x_135, e_x_135, hp⟩ := hp
                  obtain ⟨d_136, es_137, f_138, hl, hr, hv_139⟩ := sl_ix2 (P := Try.prog) (iv := x_63) Try.underlying23 Try.sizeOf24 rfl f_11 e_x_135
                  obtain ⟨A_140, k_141, rfl, f_142⟩ := hr
                  clear hl
                  refine WC.draw (fun w => (Blk w b_19 26 [.int .u16 c_65.Local, .int .u16 c_65.Remote, .int .u16 c_65.PSM, .int .i64 c_65.MTU, .int .i64 c_65.MPS, .int .i64 c_65.PeerMTU, .int .i64 c_65.PeerMPS, .int .i64 c_65.TxCredits, .int .i64 c_65.RxCredits, .int .i64 c_65.Given, .slice A_53 (List.length c_65.Out) k_54, .int .i64 c_65.Sent, .slice A_58 (List.length c_65.In) k_59, .int .i64 c_65.Want, .bool c_65.Failed]) ∧ (At (fun _ => False) w d_136 [.slice A_140 (List.length x_135) k_141])) MO C ?_
                  rintro w C' T
                  replace f_11 := T.sl f_11
                  replace f_34 := T.sl f_34
                  replace f_39 := T.sl f_39
                  replace f_55 := T.sl f_55
                  replace f_60 := T.sl f_60
                  replace f_81 := T.sl f_81
                  replace f_86 := T.sl f_86
                  replace f_92 := T.sl f_92
                  replace f_142 := T.sl f_142
                  replace f_138 := T.at_ f_138 (by simp)
                  replace hb_12 := T.blk ne0 hb_12
                  replace hb_19 := T.blk ne0 hb_19
                  replace hb_67 := T.blk ne0 hb_67
                  clear T; replace C := C'; clear C'
                  refine WA.take (i := 0) (bs' := [true, false, false, false, false, false, false, false, false, false, false, false, false, false]) rfl (by kernel_rfl) (by kernel_rfl) (by kernel_rfl) (fun w hS => by obtain ⟨hb_19, f_138⟩ := hS; exact rv_loadN Try.isAgg26 Try.sizeOf26 rfl hb_19 rfl rfl) ⟨hb_19, (f_138.mu (fun _ h => h.elim))⟩ rfl rfl ?_
                  refine WA.take (i := 1) (bs' := [true, true, false, false, false, false, false, false, false, false, false, false, false, false]) rfl (by kernel_rfl) (by kernel_rfl) (by kernel_rfl) (fun _ _ => rv_move rfl) ⟨hb_19, (f_138.mu (fun _ h => h.elim))⟩ rfl rfl ?_
                  refine WA.take (i := 2) (bs' := [true, true, true, false, false, false, false, false, false, false, false, false, false, false]) rfl (by kernel_rfl) (by kernel_rfl) (by kernel_rfl) (fun _ _ => rv_move rfl) ⟨hb_19, (f_138.mu (fun _ h => h.elim))⟩ rfl rfl ?_
                  refine WA.take (i := 3) (bs' := [true, true, true, true, false, false, false, false, false, false, false, false, false, false]) rfl (by kernel_rfl) (by kernel_rfl) (by kernel_rfl) (fun _ _ => hv_139 rfl rfl) ⟨hb_19, (f_138.mu (fun _ h => h.elim))⟩ rfl rfl ?_
                  refine WA.take (i := 4) (bs' := [true, true, true, true, true, false, false, false, false, false, false, false, false, false]) rfl (by kernel_rfl) (by kernel_rfl) (by kernel_rfl) (fun w hS => by obtain ⟨hb_19, f_138⟩ := hS; exact rv_loadA1 (ad := d_136) (o := 0) Try.isAgg24 rfl f_138 rfl) ⟨hb_19, (f_138.mu (fun _ h => h.elim))⟩ rfl rfl ?_
                  refine WA.all2 (i := 5) (j := 10) (by kernel_rfl) ?_ ?_
                  · replace hp := bind_inv hp
                    obtain ⟨x_143, e_x_143, hp⟩ := hp
                    refine WS.call (i := 5) (bs' := [true, true, true, true, true, true, false, false, false, false, false, false, false, false]) rfl (rc_func Try.call17 rfl) (ok_wirelessref33_Input F (Mu U0 [some b_67, some b_19, some b_12]) _ c_65 x_135 A_53 k_54 A_58 k_59 A_140 k_141 (C.give [0, 1, 2] [] (by decide) rfl rfl (by decide)) (f_55.mu (mu_give [0, 1, 2] [] rfl rfl)) (f_60.mu (mu_give [0, 1, 2] [] rfl rfl)) (f_142.mu (mu_give [0, 1, 2] [] rfl rfl)) _ e_x_143) rfl rfl ?_
                    rintro v w ⟨A_144, k_145, A_147, k_148, A_150, k_151, rfl, D, f_146, f_149, f_152⟩
                    obtain ⟨C', T⟩ := C.join D [0, 1, 2] [] (by decide) rfl rfl (by decide)
                    replace C' : Ctx U0 [] w0 [some b_67, some b_19, some b_12] _ := C'
                    replace T : TR U0 [some b_67, some b_19, some b_12] _ [some b_67, some b_19, some b_12] _ [] := T
                    replace f_146 : Sl 1 (RSl 1 (RInt .u8)) (Mu U0 [some b_67, some b_19, some b_12]) _ A_144 k_145 x_143.1.Out := f_146.mu (mu_join (R := []) (L2 := [some b_67, some b_19, some b_12]) (fun b h => h))
                    replace f_149 : Sl 1 (RInt .u8) (Mu U0 [some b_67, some b_19, some b_12]) _ A_147 k_148 x_143.1.In := f_149.mu (mu_join (R := []) (L2 := [some b_67, some b_19, some b_12]) (fun b h => h))
                    replace f_152 : Sl 1 (RSl 1 (RInt .u8)) (Mu U0 [some b_67, some b_19, some b_12]) _ A_150 k_151 x_143.2.1 := f_152.mu (mu_join (R := []) (L2 := [some b_67, some b_19, some b_12]) (fun b h => h))
                    replace f_11 := T.sl f_11
                    replace f_34 := T.sl f_34
                    replace f_39 := T.sl f_39
                    replace f_55 := T.sl f_55
                    replace f_60 := T.sl f_60
                    replace f_81 := T.sl f_81
                    replace f_86 := T.sl f_86
                    replace f_92 := T.sl f_92
                    replace f_142 := T.sl f_142
                    replace f_138 := T.at_ f_138 (by simp)
                    replace hb_12 := T.blk ne0 hb_12
                    replace hb_19 := T.blk ne0 hb_19
                    replace hb_67 := T.blk ne0 hb_67
                    clear T; replace C := C'; clear C'
                    clear D
                    refine ⟨⟨hb_19, (f_138.mu (fun _ h => h.elim))⟩, ?_⟩
                    refine WA.take (i := 6) (bs' := [true, true, true, true, true, true, true, false, false, false, false, false, false, false]) rfl (by kernel_rfl) (by kernel_rfl) (by kernel_rfl) (fun _ _ => rv_move rfl) ⟨hb_19, (f_138.mu (fun _ h => h.elim))⟩ rfl rfl ?_
                    refine WA.take (i := 7) (bs' := [true, true, true, true, true, true, true, true, false, false, false, false, false, false]) rfl (by kernel_rfl) (by kernel_rfl) (by kernel_rfl) (fun _ _ => rv_extract rfl rfl) ⟨hb_19, (f_138.mu (fun _ h => h.elim))⟩ rfl rfl ?_
                    refine WA.take (i := 8) (bs' := [true, true, true, true, true, true, true, true, true, false, false, false, false, false]) rfl (by kernel_rfl) (by kernel_rfl) (by kernel_rfl) (fun _ _ => rv_extract rfl rfl) ⟨hb_19, (f_138.mu (fun _ h => h.elim))⟩ rfl rfl ?_
                    refine WA.take (i := 9) (bs' := [true, true, true, true, true, true, true, true, true, true, false, false, false, false]) rfl (by kernel_rfl) (by kernel_rfl) (by kernel_rfl) (fun _ _ => rv_extract rfl rfl) ⟨hb_19, (f_138.mu (fun _ h => h.elim))⟩ rfl rfl ?_
                    refine WA.all1 (i := 10) (by kernel_rfl) ?_
                    refine WS.world (i := 10) (bs' := [true, true, true, true, true, true, true, true, true, true, true, false, false, false]) rfl (rw_alloc Try.zeroValue26 rfl C) rfl rfl ?_
                    rintro v w ⟨b_153, rfl, hb_153, C', T⟩
                    replace C' : Ctx U0 [] w0 [some b_153, some b_67, some b_19, some b_12] _ := C'
                    replace T : TR U0 [some b_67, some b_19, some b_12] _ [some b_153, some b_67, some b_19, some b_12] _ [] := T
                    replace hb_153 : Blk _ b_153 26 [.int .u16 0, .int .u16 0, .int .u16 0, .int .i64 0, .int .i64 0, .int .i64 0, .int .i64 0, .int .i64 0, .int .i64 0, .int .i64 0, .slice none 0 0, .int .i64 0, .slice none 0 0, .int .i64 0, .bool false] := hb_153
                    replace f_11 := T.sl f_11
                    replace f_34 := T.sl f_34
                    replace f_39 := T.sl f_39
                    replace f_55 := T.sl f_55
                    replace f_60 := T.sl f_60
                    replace f_81 := T.sl f_81
                    replace f_86 := T.sl f_86
                    replace f_92 := T.sl f_92
                    replace f_142 := T.sl f_142
                    replace f_138 := T.at_ f_138 (by simp)
                    replace f_146 := T.sl f_146
                    replace f_149 := T.sl f_149
                    replace f_152 := T.sl f_152
                    replace hb_12 := T.blk ne0 hb_12
                    replace hb_19 := T.blk ne0 hb_19
                    replace hb_67 := T.blk ne0 hb_67
                    clear T; replace C := C'; clear C'
                    refine ⟨⟨hb_19, (f_138.mu (fun _ h => h.elim))⟩, ?_⟩
                    refine WA.all1 (i := 11) (by kernel_rfl) ?_
                    refine WS.storeK (i := 11) (bs' := [true, true, true, true, true, true, true, true, true, true, true, true, false, false]) rfl (rs_store (i := 0) (cs' := [.int .u16 x_143.1.Local, .int .u16 x_143.1.Remote, .int .u16 x_143.1.PSM, .int .i64 x_143.1.MTU, .int .i64 x_143.1.MPS, .int .i64 x_143.1.PeerMTU, .int .i64 x_143.1.PeerMPS, .int .i64 x_143.1.TxCredits, .int .i64 x_143.1.RxCredits, .int .i64 x_143.1.Given, .slice A_144 (List.length x_143.1.Out) k_145, .int .i64 x_143.1.Sent, .slice A_147 (List.length x_143.1.In) k_148, .int .i64 x_143.1.Want, .bool x_143.1.Failed]) Try.sizeOf26 rfl rfl rfl rfl rfl hb_153 rfl C rfl rfl) rfl ?_
                    rintro w ⟨hb_153, C', T⟩
                    replace f_11 := T.sl f_11
                    replace f_34 := T.sl f_34
                    replace f_39 := T.sl f_39
                    replace f_55 := T.sl f_55
                    replace f_60 := T.sl f_60
                    replace f_81 := T.sl f_81
                    replace f_86 := T.sl f_86
                    replace f_92 := T.sl f_92
                    replace f_142 := T.sl f_142
                    replace f_138 := T.at_ f_138 (by simp)
                    replace f_146 := T.sl f_146
                    replace f_149 := T.sl f_149
                    replace f_152 := T.sl f_152
                    replace hb_12 := T.blk (C.ne (i := 3) rfl [0] rfl (by decide)) hb_12
                    replace hb_19 := T.blk (C.ne (i := 2) rfl [0] rfl (by decide)) hb_19
                    replace hb_67 := T.blk (C.ne (i := 1) rfl [0] rfl (by decide)) hb_67
                    clear T; replace C := C'; clear C'
                    refine ⟨⟨hb_19, (f_138.mu (fun _ h => h.elim))⟩, ?_⟩
                    refine WA.take (i := 12) (bs' := [true, true, true, true, true, true, true, true, true, true, true, true, true, false]) rfl (by kernel_rfl) (by kernel_rfl) (by kernel_rfl) (fun _ _ => rv_assign rfl) ⟨hb_19, (f_138.mu (fun _ h => h.elim))⟩ rfl rfl ?_
                    refine WA.take (i := 13) (bs' := [true, true, true, true, true, true, true, true, true, true, true, true, true, true]) rfl (by kernel_rfl) (by kernel_rfl) (by kernel_rfl) (fun _ _ => rv_assign rfl) ⟨hb_19, (f_138.mu (fun _ h => h.elim))⟩ rfl rfl ?_
                    refine WA.done (by kernel_rfl) (fun a ha => ?_)
                    exact ⟨x_143.1, x_143.2.1, x_143.2.2, b_153, A_144, k_145, A_147, k_148, A_150, k_151, hp, ha.sub ⟨rfl, rfl, rfl, rfl, rfl, rfl, rfl, rfl, rfl, rfl, trivial⟩, C, f_11, f_34, f_39, f_55, f_60, f_81, f_86, f_92, f_146, f_149, f_152, hb_12, hb_19, hb_67, hb_153⟩
                  · refine WS.world (i := 10) (bs' := [true, true, true, true, true, false, false, false, false, false, true, false, false, false]) rfl (rw_alloc Try.zeroValue26 rfl C) rfl rfl ?_
                    rintro v w ⟨b_154, rfl, hb_154, C', T⟩
                    replace C' : Ctx U0 [] w0 [some b_154, some b_67, some b_19, some b_12] _ := C'
                    replace T : TR U0 [some b_67, some b_19, some b_12] _ [some b_154, some b_67, some b_19, some b_12] _ [] := T
                    replace hb_154 : Blk _ b_154 26 [.int .u16 0, .int .u16 0, .int .u16 0, .int .i64 0, .int .i64 0, .int .i64 0, .int .i64 0, .int .i64 0, .int .i64 0, .int .i64 0, .slice none 0 0, .int .i64 0, .slice none 0 0, .int .i64 0, .bool false] := hb_154
                    replace f_11 := T.sl f_11
                    replace f_34 := T.sl f_34
                    replace f_39 := T.sl f_39
                    replace f_55 := T.sl f_55
                    replace f_60 := T.sl f_60
                    replace f_81 := T.sl f_81
                    replace f_86 := T.sl f_86
                    replace f_92 := T.sl f_92
                    replace f_142 := T.sl f_142
                    replace f_138 := T.at_ f_138 (by simp)
                    replace hb_12 := T.blk ne0 hb_12
                    replace hb_19 := T.blk ne0 hb_19
                    replace hb_67 := T.blk ne0 hb_67
                    clear T; replace C := C'; clear C'
                    refine ⟨⟨hb_19, (f_138.mu (fun _ h => h.elim))⟩, ?_⟩
                    refine WA.all1 (i := 5) (by kernel_rfl) ?_
                    replace hp := bind_inv hp
                    obtain ⟨x_155, e_x_155, hp⟩ := hp
                    refine WS.call (i := 5) (bs' := [true, true, true, true, true, true, false, false, false, false, true, false, false, false]) rfl (rc_func Try.call17 rfl) (ok_wirelessref33_Input F (Mu U0 [some b_154, some b_67, some b_19, some b_12]) _ c_65 x_135 A_53 k_54 A_58 k_59 A_140 k_141 (C.give [0, 1, 2, 3] [] (by decide) rfl rfl (by decide)) (f_55.mu (mu_give [0, 1, 2, 3] [] rfl rfl)) (f_60.mu (mu_give [0, 1, 2, 3] [] rfl rfl)) (f_142.mu (mu_give [0, 1, 2, 3] [] rfl rfl)) _ e_x_155) rfl rfl ?_
                    rintro v w ⟨A_156, k_157, A_159, k_160, A_162, k_163, rfl, D, f_158, f_161, f_164⟩
                    obtain ⟨C', T⟩ := C.join D [0, 1, 2, 3] [] (by decide) rfl rfl (by decide)
                    replace C' : Ctx U0 [] w0 [some b_154, some b_67, some b_19, some b_12] _ := C'
                    replace T : TR U0 [some b_154, some b_67, some b_19, some b_12] _ [some b_154, some b_67, some b_19, some b_12] _ [] := T
                    replace f_158 : Sl 1 (RSl 1 (RInt .u8)) (Mu U0 [some b_154, some b_67, some b_19, some b_12]) _ A_156 k_157 x_155.1.Out := f_158.mu (mu_join (R := []) (L2 := [some b_154, some b_67, some b_19, some b_12]) (fun b h => h))
                    replace f_161 : Sl 1 (RInt .u8) (Mu U0 [some b_154, some b_67, some b_19, some b_12]) _ A_159 k_160 x_155.1.In := f_161.mu (mu_join (R := []) (L2 := [some b_154, some b_67, some b_19, some b_12]) (fun b h => h))
                    replace f_164 : Sl 1 (RSl 1 (RInt .u8)) (Mu U0 [some b_154, some b_67, some b_19, some b_12]) _ A_162 k_163 x_155.2.1 := f_164.mu (mu_join (R := []) (L2 := [some b_154, some b_67, some b_19, some b_12]) (fun b h => h))
                    replace f_11 := T.sl f_11
                    replace f_34 := T.sl f_34
                    replace f_39 := T.sl f_39
                    replace f_55 := T.sl f_55
                    replace f_60 := T.sl f_60
                    replace f_81 := T.sl f_81
                    replace f_86 := T.sl f_86
                    replace f_92 := T.sl f_92
                    replace f_142 := T.sl f_142
                    replace f_138 := T.at_ f_138 (by simp)
                    replace hb_12 := T.blk ne0 hb_12
                    replace hb_19 := T.blk ne0 hb_19
                    replace hb_67 := T.blk ne0 hb_67
                    replace hb_154 := T.blk ne0 hb_154
                    clear T; replace C := C'; clear C'
                    clear D
                    refine ⟨⟨hb_19, (f_138.mu (fun _ h => h.elim))⟩, ?_⟩
                    refine WA.take (i := 6) (bs' := [true, true, true, true, true, true, true, false, false, false, true, false, false, false]) rfl (by kernel_rfl) (by kernel_rfl) (by kernel_rfl) (fun _ _ => rv_move rfl) ⟨hb_19, (f_138.mu (fun _ h => h.elim))⟩ rfl rfl ?_
                    refine WA.take (i := 7) (bs' := [true, true, true, true, true, true, true, true, false, false, true, false, false, false]) rfl (by kernel_rfl) (by kernel_rfl) (by kernel_rfl) (fun _ _ => rv_extract rfl rfl) ⟨hb_19, (f_138.mu (fun _ h => h.elim))⟩ rfl rfl ?_
                    refine WA.take (i := 8) (bs' := [true, true, true, true, true, true, true, true, true, false, true, false, false, false]) rfl (by kernel_rfl) (by kernel_rfl) (by kernel_rfl) (fun _ _ => rv_extract rfl rfl) ⟨hb_19, (f_138.mu (fun _ h => h.elim))⟩ rfl rfl ?_
                    refine WA.take (i := 9) (bs' := [true, true, true, true, true, true, true, true, true, true, true, false, false, false]) rfl (by kernel_rfl) (by kernel_rfl) (by kernel_rfl) (fun _ _ => rv_extract rfl rfl) ⟨hb_19, (f_138.mu (fun _ h => h.elim))⟩ rfl rfl ?_
                    refine WA.all1 (i := 11) (by kernel_rfl) ?_
                    refine WS.storeK (i := 11) (bs' := [true, true, true, true, true, true, true, true, true, true, true, true, false, false]) rfl (rs_store (i := 0) (cs' := [.int .u16 x_155.1.Local, .int .u16 x_155.1.Remote, .int .u16 x_155.1.PSM, .int .i64 x_155.1.MTU, .int .i64 x_155.1.MPS, .int .i64 x_155.1.PeerMTU, .int .i64 x_155.1.PeerMPS, .int .i64 x_155.1.TxCredits, .int .i64 x_155.1.RxCredits, .int .i64 x_155.1.Given, .slice A_156 (List.length x_155.1.Out) k_157, .int .i64 x_155.1.Sent, .slice A_159 (List.length x_155.1.In) k_160, .int .i64 x_155.1.Want, .bool x_155.1.Failed]) Try.sizeOf26 rfl rfl rfl rfl rfl hb_154 rfl C rfl rfl) rfl ?_
                    rintro w ⟨hb_154, C', T⟩
                    replace f_11 := T.sl f_11
                    replace f_34 := T.sl f_34
                    replace f_39 := T.sl f_39
                    replace f_55 := T.sl f_55
                    replace f_60 := T.sl f_60
                    replace f_81 := T.sl f_81
                    replace f_86 := T.sl f_86
                    replace f_92 := T.sl f_92
                    replace f_142 := T.sl f_142
                    replace f_138 := T.at_ f_138 (by simp)
                    replace f_158 := T.sl f_158
                    replace f_161 := T.sl f_161
                    replace f_164 := T.sl f_164
                    replace hb_12 := T.blk (C.ne (i := 3) rfl [0] rfl (by decide)) hb_12
                    replace hb_19 := T.blk (C.ne (i := 2) rfl [0] rfl (by decide)) hb_19
                    replace hb_67 := T.blk (C.ne (i := 1) rfl [0] rfl (by decide)) hb_67
                    clear T; replace C := C'; clear C'
                    refine ⟨⟨hb_19, (f_138.mu (fun _ h => h.elim))⟩, ?_⟩
                    refine WA.take (i := 12) (bs' := [true, true, true, true, true, true, true, true, true, true, true, true, true, false]) rfl (by kernel_rfl) (by kernel_rfl) (by kernel_rfl) (fun _ _ => rv_assign rfl) ⟨hb_19, (f_138.mu (fun _ h => h.elim))⟩ rfl rfl ?_
                    refine WA.take (i := 13) (bs' := [true, true, true, true, true, true, true, true, true, true, true, true, true, true]) rfl (by kernel_rfl) (by kernel_rfl) (by kernel_rfl) (fun _ _ => rv_assign rfl) ⟨hb_19, (f_138.mu (fun _ h => h.elim))⟩ rfl rfl ?_
                    refine WA.done (by kernel_rfl) (fun a ha => ?_)
                    exact ⟨x_155.1, x_155.2.1, x_155.2.2, b_154, A_156, k_157, A_159, k_160, A_162, k_163, hp, ha.sub ⟨rfl, rfl, rfl, rfl, rfl, rfl, rfl, rfl, rfl, rfl, trivial⟩, C, f_11, f_34, f_39, f_55, f_60, f_81, f_86, f_92, f_158, f_161, f_164, hb_12, hb_19, hb_67, hb_154⟩
                · rintro a w ⟨c_122, l_117, x_121, b_95, A_107, k_108, A_112, k_113, A_118, k_119, hp, ha, C, f_11, f_34, f_39, f_55, f_60, f_81, f_86, f_92, f_109, f_114, f_120, hb_12, hb_19, hb_67, hb_95⟩
                  refine WC.ofJ (l := [(1, .slice A_9 (List.length frames_8) k_10), (2, .pointer (some ⟨b_12, 0, none⟩)), (5, .pointer (some ⟨b_19, 0, none⟩)), (6, .int .i64 x_63), (7, .pointer (some ⟨b_67, 0, none⟩)), (8, .slice A_90 (List.length l_89) k_91), (9, .int .i64 x_93), (10, .pointer (some ⟨b_95, 0, none⟩)), (11, .slice A_118 (List.length l_117) k_119), (12, .int .i64 x_121)]) ?_ ha
                  refine WC.seq ?_
                  refine WC.seq ?_
                  refine WC.region ?_
                  refine WL.val (rv_move rfl) rfl ?_
                  refine WL.val (rv_move rfl) rfl ?_
                  refine WL.val (rv_neq rfl rfl) rfl ?_
                  refine WL.val (rv_move rfl) rfl ?_
                  obtain ⟨z_124, hz, hpr⟩ := bind_inv hp
                  clear hp
                  refine WL.cutAt 5 (fun a w => (True) ∧ (Holds 78 [(1, .slice A_9 (List.length frames_8) k_10), (2, .pointer (some ⟨b_12, 0, none⟩)), (5, .pointer (some ⟨b_19, 0, none⟩)), (6, .int .i64 x_63), (7, .pointer (some ⟨b_67, 0, none⟩)), (8, .slice A_90 (List.length l_89) k_91), (10, .pointer (some ⟨b_95, 0, none⟩)), (11, .slice A_118 (List.length l_117) k_119), (63, .bool z_124)] a) ∧ (Ctx U0 [] w0 [some b_95, some b_67, some b_19, some b_12] w) ∧ (Sl 1 (RSl 1 (RInt .u8)) (Mu U0 [some b_95, some b_67, some b_19, some b_12]) w A_9 k_10 frames_8) ∧ (Sl 1 (RSl 1 (RInt .u8)) (Mu U0 [some b_95, some b_67, some b_19, some b_12]) w A_32 k_33 c_64.Out) ∧ (Sl 1 (RInt .u8) (Mu U0 [some b_95, some b_67, some b_19, some b_12]) w A_37 k_38 c_64.In) ∧ (Sl 1 (RSl 1 (RInt .u8)) (Mu U0 [some b_95, some b_67, some b_19, some b_12]) w A_53 k_54 c_65.Out) ∧ (Sl 1 (RInt .u8) (Mu U0 [some b_95, some b_67, some b_19, some b_12]) w A_58 k_59 c_65.In) ∧ (Sl 1 (RSl 1 (RInt .u8)) (Mu U0 [some b_95, some b_67, some b_19, some b_12]) w A_79 k_80 c_94.Out) ∧ (Sl 1 (RInt .u8) (Mu U0 [some b_95, some b_67, some b_19, some b_12]) w A_84 k_85 c_94.In) ∧ (Sl 1 (RSl 1 (RInt .u8)) (Mu U0 [some b_95, some b_67, some b_19, some b_12]) w A_90 k_91 l_89) ∧ (Sl 1 (RSl 1 (RInt .u8)) (Mu U0 [some b_95, some b_67, some b_19, some b_12]) w A_107 k_108 c_122.Out) ∧ (Sl 1 (RInt .u8) (Mu U0 [some b_95, some b_67, some b_19, some b_12]) w A_112 k_113 c_122.In) ∧ (Sl 1 (RSl 1 (RInt .u8)) (Mu U0 [some b_95, some b_67, some b_19, some b_12]) w A_118 k_119 l_117) ∧ (Blk w b_12 26 [.int .u16 c_64.Local, .int .u16 c_64.Remote, .int .u16 c_64.PSM, .int .i64 c_64.MTU, .int .i64 c_64.MPS, .int .i64 c_64.PeerMTU, .int .i64 c_64.PeerMPS, .int .i64 c_64.TxCredits, .int .i64 c_64.RxCredits, .int .i64 c_64.Given, .slice A_32 (List.length c_64.Out) k_33, .int .i64 c_64.Sent, .slice A_37 (List.length c_64.In) k_38, .int .i64 c_64.Want, .bool c_64.Failed]) ∧ (Blk w b_19 26 [.int .u16 c_65.Local, .int .u16 c_65.Remote, .int .u16 c_65.PSM, .int .i64 c_65.MTU, .int .i64 c_65.MPS, .int .i64 c_65.PeerMTU, .int .i64 c_65.PeerMPS, .int .i64 c_65.TxCredits, .int .i64 c_65.RxCredits, .int .i64 c_65.Given, .slice A_53 (List.length c_65.Out) k_54, .int .i64 c_65.Sent, .slice A_58 (List.length c_65.In) k_59, .int .i64 c_65.Want, .bool c_65.Failed]) ∧ (Blk w b_67 26 [.int .u16 c_94.Local, .int .u16 c_94.Remote, .int .u16 c_94.PSM, .int .i64 c_94.MTU, .int .i64 c_94.MPS, .int .i64 c_94.PeerMTU, .int .i64 c_94.PeerMPS, .int .i64 c_94.TxCredits, .int .i64 c_94.RxCredits, .int .i64 c_94.Given, .slice A_79 (List.length c_94.Out) k_80, .int .i64 c_94.Sent, .slice A_84 (List.length c_94.In) k_85, .int .i64 c_94.Want, .bool c_94.Failed]) ∧ (Blk w b_95 26 [.int .u16 c_122.Local, .int .u16 c_122.Remote, .int .u16 c_122.PSM, .int .i64 c_122.MTU, .int .i64 c_122.MPS, .int .i64 c_122.PeerMTU, .int .i64 c_122.PeerMPS, .int .i64 c_122.TxCredits, .int .i64 c_122.RxCredits, .int .i64 c_122.Given, .slice A_107 (List.length c_122.Out) k_108, .int .i64 c_122.Sent, .slice A_112 (List.length c_122.In) k_113, .int .i64 c_122.Want, .bool c_122.Failed])) ?_ ?_
                  · have hp := hz
                    rcases Bool.eq_false_or_eq_true ((x_93 != x_121)) with hg_123 | hg_123
                    · replace hp := if_t hp hg_123
                      refine WL.no rfl rfl hg_123 rfl ?_
                      refine WL.no rfl rfl hg_123 rfl ?_
                      refine WL.no rfl rfl hg_123 rfl ?_
                      refine WL.no rfl rfl hg_123 rfl ?_
                      refine WL.val (rv_pick_t rfl hg_123 rfl) rfl ?_
                      refine WL.nil (fun a ha => ?_)
                      obtain rfl := some_inv' hp
                      exact ⟨trivial, ha.sub ⟨rfl, rfl, rfl, rfl, rfl, rfl, rfl, rfl, rfl, trivial⟩, C, f_11, f_34, f_39, f_55, f_60, f_81, f_86, f_92, f_109, f_114, f_120, hb_12, hb_19, hb_67, hb_95⟩
                    · replace hp := if_f hp hg_123
                      refine WL.yes rfl rfl hg_123 ?_
                      refine WL.val (rv_loadN Try.isAgg26 Try.sizeOf26 rfl hb_67 rfl rfl) rfl ?_
                      refine WL.yes rfl rfl hg_123 ?_
                      refine WL.val (rv_loadN Try.isAgg26 Try.sizeOf26 rfl hb_95 rfl rfl) rfl ?_
                      replace hp := bind_inv hp
                      obtain ⟨x_134, e_x_134, hp⟩ := hp
                      refine WL.yes rfl rfl hg_123 ?_
                      refine WL.call (rc_func Try.call14 rfl) (ok_wirelessref33_SameChannel F (Mu U0 [some b_95, some b_67, some b_19, some b_12]) _ c_94 c_122 A_79 k_80 A_84 k_85 A_107 k_108 A_112 k_113 (C.give [0, 1, 2, 3] [] (by decide) rfl rfl (by decide)) (f_81.mu (mu_give [0, 1, 2, 3] [] rfl rfl)) (f_86.mu (mu_give [0, 1, 2, 3] [] rfl rfl)) (f_109.mu (mu_give [0, 1, 2, 3] [] rfl rfl)) (f_114.mu (mu_give [0, 1, 2, 3] [] rfl rfl)) _ e_x_134) rfl ?_
                      rintro v w ⟨rfl, D⟩
                      obtain ⟨C', T⟩ := C.join D [0, 1, 2, 3] [] (by decide) rfl rfl (by decide)
                      replace C' : Ctx U0 [] w0 [some b_95, some b_67, some b_19, some b_12] _ := C'
                      replace T : TR U0 [some b_95, some b_67, some b_19, some b_12] _ [some b_95, some b_67, some b_19, some b_12] _ [] := T
                      replace f_11 := T.sl f_11
                      replace f_34 := T.sl f_34
                      replace f_39 := T.sl f_39
                      replace f_55 := T.sl f_55
                      replace f_60 := T.sl f_60
                      replace f_81 := T.sl f_81
                      replace f_86 := T.sl f_86
                      replace f_92 := T.sl f_92
                      replace f_109 := T.sl f_109
                      replace f_114 := T.sl f_114
                      replace f_120 := T.sl f_120
                      replace hb_12 := T.blk ne0 hb_12
                      replace hb_19 := T.blk ne0 hb_19
                      replace hb_67 := T.blk ne0 hb_67
                      replace hb_95 := T.blk ne0 hb_95
                      clear T; replace C := C'; clear C'
                      clear D
                      refine WL.yes rfl rfl hg_123 ?_
                      refine WL.val (rv_not rfl) rfl ?_
                      refine WL.val (rv_pick_f rfl hg_123 rfl) rfl ?_
                      refine WL.nil (fun a ha => ?_)
                      obtain rfl := some_inv' hp
                      exact ⟨trivial, ha.sub ⟨rfl, rfl, rfl, rfl, rfl, rfl, rfl, rfl, rfl, trivial⟩, C, f_11, f_34, f_39, f_55, f_60, f_81, f_86, f_92, f_109, f_114, f_120, hb_12, hb_19, hb_67, hb_95⟩
                  · rintro a w ⟨hp, ha, C, f_11, f_34, f_39, f_55, f_60, f_81, f_86, f_92, f_109, f_114, f_120, hb_12, hb_19, hb_67, hb_95⟩
                    have hp := hpr; clear hpr hz
                    refine WL.ofJ (l := [(1, .slice A_9 (List.length frames_8) k_10), (2, .pointer (some ⟨b_12, 0, none⟩)), (5, .pointer (some ⟨b_19, 0, none⟩)), (6, .int .i64 x_63), (7, .pointer (some ⟨b_67, 0, none⟩)), (8, .slice A_90 (List.length l_89) k_91), (10, .pointer (some ⟨b_95, 0, none⟩)), (11, .slice A_118 (List.length l_117) k_119), (63, .bool z_124)]) ?_ ha
                    refine WL.val (rv_move rfl) rfl ?_
                    obtain ⟨z_126, hz, hpr⟩ := bind_inv hp
                    clear hp
                    refine WL.cutAt 5 (fun a w => (True) ∧ (Holds 78 [(1, .slice A_9 (List.length frames_8) k_10), (2, .pointer (some ⟨b_12, 0, none⟩)), (5, .pointer (some ⟨b_19, 0, none⟩)), (6, .int .i64 x_63), (7, .pointer (some ⟨b_67, 0, none⟩)), (10, .pointer (some ⟨b_95, 0, none⟩)), (69, .bool z_126)] a) ∧ (Ctx U0 [] w0 [some b_95, some b_67, some b_19, some b_12] w) ∧ (Sl 1 (RSl 1 (RInt .u8)) (Mu U0 [some b_95, some b_67, some b_19, some b_12]) w A_9 k_10 frames_8) ∧ (Sl 1 (RSl 1 (RInt .u8)) (Mu U0 [some b_95, some b_67, some b_19, some b_12]) w A_32 k_33 c_64.Out) ∧ (Sl 1 (RInt .u8) (Mu U0 [some b_95, some b_67, some b_19, some b_12]) w A_37 k_38 c_64.In) ∧ (Sl 1 (RSl 1 (RInt .u8)) (Mu U0 [some b_95, some b_67, some b_19, some b_12]) w A_53 k_54 c_65.Out) ∧ (Sl 1 (RInt .u8) (Mu U0 [some b_95, some b_67, some b_19, some b_12]) w A_58 k_59 c_65.In) ∧ (Sl 1 (RSl 1 (RInt .u8)) (Mu U0 [some b_95, some b_67, some b_19, some b_12]) w A_79 k_80 c_94.Out) ∧ (Sl 1 (RInt .u8) (Mu U0 [some b_95, some b_67, some b_19, some b_12]) w A_84 k_85 c_94.In) ∧ (Sl 1 (RSl 1 (RInt .u8)) (Mu U0 [some b_95, some b_67, some b_19, some b_12]) w A_107 k_108 c_122.Out) ∧ (Sl 1 (RInt .u8) (Mu U0 [some b_95, some b_67, some b_19, some b_12]) w A_112 k_113 c_122.In) ∧ (Blk w b_12 26 [.int .u16 c_64.Local, .int .u16 c_64.Remote, .int .u16 c_64.PSM, .int .i64 c_64.MTU, .int .i64 c_64.MPS, .int .i64 c_64.PeerMTU, .int .i64 c_64.PeerMPS, .int .i64 c_64.TxCredits, .int .i64 c_64.RxCredits, .int .i64 c_64.Given, .slice A_32 (List.length c_64.Out) k_33, .int .i64 c_64.Sent, .slice A_37 (List.length c_64.In) k_38, .int .i64 c_64.Want, .bool c_64.Failed]) ∧ (Blk w b_19 26 [.int .u16 c_65.Local, .int .u16 c_65.Remote, .int .u16 c_65.PSM, .int .i64 c_65.MTU, .int .i64 c_65.MPS, .int .i64 c_65.PeerMTU, .int .i64 c_65.PeerMPS, .int .i64 c_65.TxCredits, .int .i64 c_65.RxCredits, .int .i64 c_65.Given, .slice A_53 (List.length c_65.Out) k_54, .int .i64 c_65.Sent, .slice A_58 (List.length c_65.In) k_59, .int .i64 c_65.Want, .bool c_65.Failed]) ∧ (Blk w b_67 26 [.int .u16 c_94.Local, .int .u16 c_94.Remote, .int .u16 c_94.PSM, .int .i64 c_94.MTU, .int .i64 c_94.MPS, .int .i64 c_94.PeerMTU, .int .i64 c_94.PeerMPS, .int .i64 c_94.TxCredits, .int .i64 c_94.RxCredits, .int .i64 c_94.Given, .slice A_79 (List.length c_94.Out) k_80, .int .i64 c_94.Sent, .slice A_84 (List.length c_94.In) k_85, .int .i64 c_94.Want, .bool c_94.Failed]) ∧ (Blk w b_95 26 [.int .u16 c_122.Local, .int .u16 c_122.Remote, .int .u16 c_122.PSM, .int .i64 c_122.MTU, .int .i64 c_122.MPS, .int .i64 c_122.PeerMTU, .int .i64 c_122.PeerMPS, .int .i64 c_122.TxCredits, .int .i64 c_122.RxCredits, .int .i64 c_122.Given, .slice A_107 (List.length c_122.Out) k_108, .int .i64 c_122.Sent, .slice A_112 (List.length c_122.In) k_113, .int .i64 c_122.Want, .bool c_122.Failed])) ?_ ?_
                    · have hp := hz
                      rcases Bool.eq_false_or_eq_true (z_124) with hg_125 | hg_125
                      · replace hp := if_t hp hg_125
                        refine WL.no rfl rfl hg_125 rfl ?_
                        refine WL.no rfl rfl hg_125 rfl ?_
                        refine WL.no rfl rfl hg_125 rfl ?_
                        refine WL.no rfl rfl hg_125 rfl ?_
                        refine WL.val (rv_pick_t rfl hg_125 rfl) rfl ?_
                        refine WL.nil (fun a ha => ?_)
                        obtain rfl := some_inv' hp
                        exact ⟨trivial, ha.sub ⟨rfl, rfl, rfl, rfl, rfl, rfl, rfl, trivial⟩, C, f_11, f_34, f_39, f_55, f_60, f_81, f_86, f_109, f_114, hb_12, hb_19, hb_67, hb_95⟩
                      · replace hp := if_f hp hg_125
                        refine WL.yes rfl rfl hg_125 ?_
                        refine WL.val (rv_move rfl) rfl ?_
                        refine WL.yes rfl rfl hg_125 ?_
                        refine WL.val (rv_move rfl) rfl ?_
                        replace hp := bind_inv hp
                        obtain ⟨x_132, e_x_132, hp⟩ := hp
                        refine WL.yes rfl rfl hg_125 ?_
                        refine WL.call (rc_func Try.call15 rfl) (ok_wirelessref33_SameLists F (Mu U0 [some b_95, some b_67, some b_19, some b_12]) _ l_89 l_117 A_90 k_91 A_118 k_119 (C.give [0, 1, 2, 3] [] (by decide) rfl rfl (by decide)) (f_92.mu (mu_give [0, 1, 2, 3] [] rfl rfl)) (f_120.mu (mu_give [0, 1, 2, 3] [] rfl rfl)) _ e_x_132) rfl ?_
                        rintro v w ⟨rfl, D⟩
                        obtain ⟨C', T⟩ := C.join D [0, 1, 2, 3] [] (by decide) rfl rfl (by decide)
                        replace C' : Ctx U0 [] w0 [some b_95, some b_67, some b_19, some b_12] _ := C'
                        replace T : TR U0 [some b_95, some b_67, some b_19, some b_12] _ [some b_95, some b_67, some b_19, some b_12] _ [] := T
                        replace f_11 := T.sl f_11
                        replace f_34 := T.sl f_34
                        replace f_39 := T.sl f_39
                        replace f_55 := T.sl f_55
                        replace f_60 := T.sl f_60
                        replace f_81 := T.sl f_81
                        replace f_86 := T.sl f_86
                        replace f_92 := T.sl f_92
                        replace f_109 := T.sl f_109
                        replace f_114 := T.sl f_114
                        replace f_120 := T.sl f_120
                        replace hb_12 := T.blk ne0 hb_12
                        replace hb_19 := T.blk ne0 hb_19
                        replace hb_67 := T.blk ne0 hb_67
                        replace hb_95 := T.blk ne0 hb_95
                        clear T; replace C := C'; clear C'
                        clear D
                        refine WL.yes rfl rfl hg_125 ?_
                        refine WL.val (rv_not rfl) rfl ?_
                        refine WL.val (rv_pick_f rfl hg_125 rfl) rfl ?_
                        refine WL.nil (fun a ha => ?_)
                        obtain rfl := some_inv' hp
                        exact ⟨trivial, ha.sub ⟨rfl, rfl, rfl, rfl, rfl, rfl, rfl, trivial⟩, C, f_11, f_34, f_39, f_55, f_60, f_81, f_86, f_109, f_114, hb_12, hb_19, hb_67, hb_95⟩
                    · rintro a w ⟨hp, ha, C, f_11, f_34, f_39, f_55, f_60, f_81, f_86, f_109, f_114, hb_12, hb_19, hb_67, hb_95⟩
                      have hp := hpr; clear hpr hz
                      refine WL.ofJ (l := [(1, .slice A_9 (List.length frames_8) k_10), (2, .pointer (some ⟨b_12, 0, none⟩)), (5, .pointer (some ⟨b_19, 0, none⟩)), (6, .int .i64 x_63), (7, .pointer (some ⟨b_67, 0, none⟩)), (10, .pointer (some ⟨b_95, 0, none⟩)), (69, .bool z_126)]) ?_ ha
                      refine WL.val (rv_move rfl) rfl ?_
                      obtain ⟨z_128, hz, hpr⟩ := bind_inv hp
                      clear hp
                      refine WL.cutAt 4 (fun a w => (True) ∧ (Holds 78 [(1, .slice A_9 (List.length frames_8) k_10), (2, .pointer (some ⟨b_12, 0, none⟩)), (5, .pointer (some ⟨b_19, 0, none⟩)), (6, .int .i64 x_63), (7, .pointer (some ⟨b_67, 0, none⟩)), (10, .pointer (some ⟨b_95, 0, none⟩)), (74, .bool z_128)] a) ∧ (Ctx U0 [] w0 [some b_95, some b_67, some b_19, some b_12] w) ∧ (Sl 1 (RSl 1 (RInt .u8)) (Mu U0 [some b_95, some b_67, some b_19, some b_12]) w A_9 k_10 frames_8) ∧ (Sl 1 (RSl 1 (RInt .u8)) (Mu U0 [some b_95, some b_67, some b_19, some b_12]) w A_32 k_33 c_64.Out) ∧ (Sl 1 (RInt .u8) (Mu U0 [some b_95, some b_67, some b_19, some b_12]) w A_37 k_38 c_64.In) ∧ (Sl 1 (RSl 1 (RInt .u8)) (Mu U0 [some b_95, some b_67, some b_19, some b_12]) w A_53 k_54 c_65.Out) ∧ (Sl 1 (RInt .u8) (Mu U0 [some b_95, some b_67, some b_19, some b_12]) w A_58 k_59 c_65.In) ∧ (Sl 1 (RSl 1 (RInt .u8)) (Mu U0 [some b_95, some b_67, some b_19, some b_12]) w A_79 k_80 c_94.Out) ∧ (Sl 1 (RInt .u8) (Mu U0 [some b_95, some b_67, some b_19, some b_12]) w A_84 k_85 c_94.In) ∧ (Sl 1 (RSl 1 (RInt .u8)) (Mu U0 [some b_95, some b_67, some b_19, some b_12]) w A_107 k_108 c_122.Out) ∧ (Sl 1 (RInt .u8) (Mu U0 [some b_95, some b_67, some b_19, some b_12]) w A_112 k_113 c_122.In) ∧ (Blk w b_12 26 [.int .u16 c_64.Local, .int .u16 c_64.Remote, .int .u16 c_64.PSM, .int .i64 c_64.MTU, .int .i64 c_64.MPS, .int .i64 c_64.PeerMTU, .int .i64 c_64.PeerMPS, .int .i64 c_64.TxCredits, .int .i64 c_64.RxCredits, .int .i64 c_64.Given, .slice A_32 (List.length c_64.Out) k_33, .int .i64 c_64.Sent, .slice A_37 (List.length c_64.In) k_38, .int .i64 c_64.Want, .bool c_64.Failed]) ∧ (Blk w b_19 26 [.int .u16 c_65.Local, .int .u16 c_65.Remote, .int .u16 c_65.PSM, .int .i64 c_65.MTU, .int .i64 c_65.MPS, .int .i64 c_65.PeerMTU, .int .i64 c_65.PeerMPS, .int .i64 c_65.TxCredits, .int .i64 c_65.RxCredits, .int .i64 c_65.Given, .slice A_53 (List.length c_65.Out) k_54, .int .i64 c_65.Sent, .slice A_58 (List.length c_65.In) k_59, .int .i64 c_65.Want, .bool c_65.Failed]) ∧ (Blk w b_67 26 [.int .u16 c_94.Local, .int .u16 c_94.Remote, .int .u16 c_94.PSM, .int .i64 c_94.MTU, .int .i64 c_94.MPS, .int .i64 c_94.PeerMTU, .int .i64 c_94.PeerMPS, .int .i64 c_94.TxCredits, .int .i64 c_94.RxCredits, .int .i64 c_94.Given, .slice A_79 (List.length c_94.Out) k_80, .int .i64 c_94.Sent, .slice A_84 (List.length c_94.In) k_85, .int .i64 c_94.Want, .bool c_94.Failed]) ∧ (Blk w b_95 26 [.int .u16 c_122.Local, .int .u16 c_122.Remote, .int .u16 c_122.PSM, .int .i64 c_122.MTU, .int .i64 c_122.MPS, .int .i64 c_122.PeerMTU, .int .i64 c_122.PeerMPS, .int .i64 c_122.TxCredits, .int .i64 c_122.RxCredits, .int .i64 c_122.Given, .slice A_107 (List.length c_122.Out) k_108, .int .i64 c_122.Sent, .slice A_112 (List.length c_122.In) k_113, .int .i64 c_122.Want, .bool c_122.Failed])) ?_ ?_
                      · have hp := hz
                        rcases Bool.eq_false_or_eq_true (z_126) with hg_127 | hg_127
                        · replace hp := if_t hp hg_127
                          refine WL.no rfl rfl hg_127 rfl ?_
                          refine WL.no rfl rfl hg_127 rfl ?_
                          refine WL.no rfl rfl hg_127 rfl ?_
                          refine WL.val (rv_pick_t rfl hg_127 rfl) rfl ?_
                          refine WL.nil (fun a ha => ?_)
                          obtain rfl := some_inv' hp
                          exact ⟨trivial, ha.sub ⟨rfl, rfl, rfl, rfl, rfl, rfl, rfl, trivial⟩, C, f_11, f_34, f_39, f_55, f_60, f_81, f_86, f_109, f_114, hb_12, hb_19, hb_67, hb_95⟩
                        · replace hp := if_f hp hg_127
                          refine WL.yes rfl rfl hg_127 ?_
                          refine WL.val (rv_loadN Try.isAgg26 Try.sizeOf26 rfl hb_67 rfl rfl) rfl ?_
                          replace hp := bind_inv hp
                          obtain ⟨x_130, e_x_130, hp⟩ := hp
                          refine WL.yes rfl rfl hg_127 ?_
                          refine WL.call (rc_func Try.call10 rfl) (ok_wirelessref33_Check F (Mu U0 [some b_95, some b_67, some b_19, some b_12]) _ c_94 A_79 k_80 A_84 k_85 (C.give [0, 1, 2, 3] [] (by decide) rfl rfl (by decide)) (f_81.mu (mu_give [0, 1, 2, 3] [] rfl rfl)) (f_86.mu (mu_give [0, 1, 2, 3] [] rfl rfl)) _ e_x_130) rfl ?_
                          rintro v w ⟨rfl, D⟩
                          obtain ⟨C', T⟩ := C.join D [0, 1, 2, 3] [] (by decide) rfl rfl (by decide)
                          replace C' : Ctx U0 [] w0 [some b_95, some b_67, some b_19, some b_12] _ := C'
                          replace T : TR U0 [some b_95, some b_67, some b_19, some b_12] _ [some b_95, some b_67, some b_19, some b_12] _ [] := T
                          replace f_11 := T.sl f_11
                          replace f_34 := T.sl f_34
                          replace f_39 := T.sl f_39
                          replace f_55 := T.sl f_55
                          replace f_60 := T.sl f_60
                          replace f_81 := T.sl f_81
                          replace f_86 := T.sl f_86
                          replace f_109 := T.sl f_109
                          replace f_114 := T.sl f_114
                          replace hb_12 := T.blk ne0 hb_12
                          replace hb_19 := T.blk ne0 hb_19
                          replace hb_67 := T.blk ne0 hb_67
                          replace hb_95 := T.blk ne0 hb_95
                          clear T; replace C := C'; clear C'
                          clear D
                          refine WL.yes rfl rfl hg_127 ?_
                          refine WL.val (rv_neq rfl rfl) rfl ?_
                          refine WL.val (rv_pick_f rfl hg_127 rfl) rfl ?_
                          refine WL.nil (fun a ha => ?_)
                          obtain rfl := some_inv' hp
                          exact ⟨trivial, ha.sub ⟨rfl, rfl, rfl, rfl, rfl, rfl, rfl, trivial⟩, C, f_11, f_34, f_39, f_55, f_60, f_81, f_86, f_109, f_114, hb_12, hb_19, hb_67, hb_95⟩
                      · rintro a w ⟨hp, ha, C, f_11, f_34, f_39, f_55, f_60, f_81, f_86, f_109, f_114, hb_12, hb_19, hb_67, hb_95⟩
                        have hp := hpr; clear hpr hz
                        refine WL.ofJ (l := [(1, .slice A_9 (List.length frames_8) k_10), (2, .pointer (some ⟨b_12, 0, none⟩)), (5, .pointer (some ⟨b_19, 0, none⟩)), (6, .int .i64 x_63), (7, .pointer (some ⟨b_67, 0, none⟩)), (10, .pointer (some ⟨b_95, 0, none⟩)), (74, .bool z_128)]) ?_ ha
                        refine WL.nilThen ?_
                        refine WC.cond rfl (fun hc => ?_) (fun hc => ?_)
                        · replace hp := if_t hp hc
                          clear hc
                          refine WC.seq ?_
                          refine WC.region ?_
                          refine WL.val (rv_assign rfl) rfl ?_
                          refine WL.nilThen ?_
                          have ho := done_inv hp hs_66
                          replace hp := hpo_66
                          try rw [ho] at hp
                          obtain rfl := some_inv' hp
                          refine WC.ret (retK (rs := [.tmp 4]) (vs := [.bool false]) rfl ⟨rv1_tmp rfl, trivial⟩ ?_)
                          have T : TR U0 [some b_95, some b_67, some b_19, some b_12] w [] w [] := TR.pick [] rfl
                          have C' : Ctx U0 [] w0 [] _ := C.pick [] (by decide) rfl
                          clear T; replace C := C'; clear C'
                          exact ⟨_, rfl, rfl, C⟩
                        · replace hp := if_f hp hc
                          clear hc
                          refine WC.skipThen ?_
                          refine WC.draw (fun w => (Blk w b_67 26 [.int .u16 c_94.Local, .int .u16 c_94.Remote, .int .u16 c_94.PSM, .int .i64 c_94.MTU, .int .i64 c_94.MPS, .int .i64 c_94.PeerMTU, .int .i64 c_94.PeerMPS, .int .i64 c_94.TxCredits, .int .i64 c_94.RxCredits, .int .i64 c_94.Given, .slice A_79 (List.length c_94.Out) k_80, .int .i64 c_94.Sent, .slice A_84 (List.length c_94.In) k_85, .int .i64 c_94.Want, .bool c_94.Failed]) ∧ (Blk w b_95 26 [.int .u16 c_122.Local, .int .u16 c_122.Remote, .int .u16 c_122.PSM, .int .i64 c_122.MTU, .int .i64 c_122.MPS, .int .i64 c_122.PeerMTU, .int .i64 c_122.PeerMPS, .int .i64 c_122.TxCredits, .int .i64 c_122.RxCredits, .int .i64 c_122.Given, .slice A_107 (List.length c_122.Out) k_108, .int .i64 c_122.Sent, .slice A_112 (List.length c_122.In) k_113, .int .i64 c_122.Want, .bool c_122.Failed])) MO C ?_
                          rintro w C' T
                          replace f_11 := T.sl f_11
                          replace f_34 := T.sl f_34
                          replace f_39 := T.sl f_39
                          replace f_55 := T.sl f_55
                          replace f_60 := T.sl f_60
                          replace f_81 := T.sl f_81
                          replace f_86 := T.sl f_86
                          replace f_109 := T.sl f_109
                          replace f_114 := T.sl f_114
                          replace hb_12 := T.blk ne0 hb_12
                          replace hb_19 := T.blk ne0 hb_19
                          replace hb_67 := T.blk ne0 hb_67
                          replace hb_95 := T.blk ne0 hb_95
                          clear T; replace C := C'; clear C'
                          refine WA.take (i := 0) (bs' := [true, false, false, false]) rfl (by kernel_rfl) (by kernel_rfl) (by kernel_rfl) (fun w hS => by obtain ⟨hb_67, hb_95⟩ := hS; exact rv_loadN Try.isAgg26 Try.sizeOf26 rfl hb_67 rfl rfl) ⟨hb_67, hb_95⟩ rfl rfl ?_
                          refine WA.take (i := 1) (bs' := [true, true, false, false]) rfl (by kernel_rfl) (by kernel_rfl) (by kernel_rfl) (fun w hS => by obtain ⟨hb_67, hb_95⟩ := hS; exact rv_loadN Try.isAgg26 Try.sizeOf26 rfl hb_95 rfl rfl) ⟨hb_67, hb_95⟩ rfl rfl ?_
                          refine WA.all1 (i := 2) (by kernel_rfl) ?_
                          refine WS.storeK (i := 2) (bs' := [true, true, true, false]) rfl (rs_store (i := 3) (cs' := [.int .u16 c_94.Local, .int .u16 c_94.Remote, .int .u16 c_94.PSM, .int .i64 c_94.MTU, .int .i64 c_94.MPS, .int .i64 c_94.PeerMTU, .int .i64 c_94.PeerMPS, .int .i64 c_94.TxCredits, .int .i64 c_94.RxCredits, .int .i64 c_94.Given, .slice A_79 (List.length c_94.Out) k_80, .int .i64 c_94.Sent, .slice A_84 (List.length c_94.In) k_85, .int .i64 c_94.Want, .bool c_94.Failed]) Try.sizeOf26 rfl rfl rfl rfl rfl hb_12 rfl C rfl rfl) rfl ?_
                          rintro w ⟨hb_12, C', T⟩
                          replace f_11 := T.sl f_11
                          replace f_34 := T.sl f_34
                          replace f_39 := T.sl f_39
                          replace f_55 := T.sl f_55
                          replace f_60 := T.sl f_60
                          replace f_81 := T.sl f_81
                          replace f_86 := T.sl f_86
                          replace f_109 := T.sl f_109
                          replace f_114 := T.sl f_114
                          replace hb_19 := T.blk (C.ne (i := 2) rfl [3] rfl (by decide)) hb_19
                          replace hb_67 := T.blk (C.ne (i := 1) rfl [3] rfl (by decide)) hb_67
                          replace hb_95 := T.blk (C.ne (i := 0) rfl [3] rfl (by decide)) hb_95
                          clear T; replace C := C'; clear C'
                          refine ⟨⟨hb_67, hb_95⟩, ?_⟩
                          refine WA.all1 (i := 3) (by kernel_rfl) ?_
                          refine WS.storeK (i := 3) (bs' := [true, true, true, true]) rfl (rs_store (i := 2) (cs' := [.int .u16 c_122.Local, .int .u16 c_122.Remote, .int .u16 c_122.PSM, .int .i64 c_122.MTU, .int .i64 c_122.MPS, .int .i64 c_122.PeerMTU, .int .i64 c_122.PeerMPS, .int .i64 c_122.TxCredits, .int .i64 c_122.RxCredits, .int .i64 c_122.Given, .slice A_107 (List.length c_122.Out) k_108, .int .i64 c_122.Sent, .slice A_112 (List.length c_122.In) k_113, .int .i64 c_122.Want, .bool c_122.Failed]) Try.sizeOf26 rfl rfl rfl rfl rfl hb_19 rfl C rfl rfl) rfl ?_
                          rintro w ⟨hb_19, C', T⟩
                          replace f_11 := T.sl f_11
                          replace f_34 := T.sl f_34
                          replace f_39 := T.sl f_39
                          replace f_55 := T.sl f_55
                          replace f_60 := T.sl f_60
                          replace f_81 := T.sl f_81
                          replace f_86 := T.sl f_86
                          replace f_109 := T.sl f_109
                          replace f_114 := T.sl f_114
                          replace hb_12 := T.blk (C.ne (i := 3) rfl [2] rfl (by decide)) hb_12
                          replace hb_67 := T.blk (C.ne (i := 1) rfl [2] rfl (by decide)) hb_67
                          replace hb_95 := T.blk (C.ne (i := 0) rfl [2] rfl (by decide)) hb_95
                          clear T; replace C := C'; clear C'
                          refine ⟨⟨hb_67, hb_95⟩, ?_⟩
                          refine WA.doneThen (by kernel_rfl) ?_
                          refine WC.region ?_
                          refine WL.val (rv_move rfl) rfl ?_
                          refine WL.val (rv_add rfl rfl (wrap_i64 _)) rfl ?_
                          refine WL.val (rv_assign rfl) rfl ?_
                          refine WL.nil (fun a ha => ?_)
                          have ho := next_inv hp hs_66
                          have T : TR U0 [some b_95, some b_67, some b_19, some b_12] w [some b_19, some b_12] w [] := TR.pick [2, 3] rfl
                          have C' : Ctx U0 [] w0 [some b_19, some b_12] _ := C.pick [2, 3] (by decide) rfl
                          replace f_11 := T.sl f_11
                          replace f_81 := T.sl f_81
                          replace f_86 := T.sl f_86
                          replace f_109 := T.sl f_109
                          replace f_114 := T.sl f_114
                          replace hb_12 := T.blk ne0 hb_12
                          replace hb_19 := T.blk ne0 hb_19
                          clear T; replace C := C'; clear C'
                          exact ⟨n_66, Nat.lt_succ_self _, ⟨c_94, c_122, w64 (x_63 + 1), A_79, k_80, A_84, k_85, A_107, k_108, A_112, k_113, ho, ha.sub ⟨rfl, rfl, rfl, rfl, trivial⟩, C, f_11, f_81, f_86, f_109, f_114, hb_12, hb_19⟩⟩
            · replace hp := if_f hp hc
              clear hc
              refine WC.exitJ rfl (fun a ha => ?_)
              have ho := done_inv hp hs_66
              replace hp := hpo_66
              try rw [ho] at hp
              have T : TR U0 [some b_19, some b_12] w [] w [] := TR.pick [] rfl
              have C' : Ctx U0 [] w0 [] _ := C.pick [] (by decide) rfl
              clear T; replace C := C'; clear C'
              exact ⟨hp, ha.sub trivial, C⟩
        · rintro a w ⟨hp, ha, C⟩
          refine WC.ofJ (l := []) ?_ ha
          refine WC.seq ?_
          refine WC.region ?_
          replace hp := bind_inv hp
          obtain ⟨x_20, e_x_20, hp⟩ := hp
          refine WL.call (rc_func Try.call11 rfl) (ok_wirelesslaw33_exampleHolds F (Mu U0 []) _  (C.give [] [] (by decide) rfl rfl (by decide)) _ e_x_20) rfl ?_
          rintro v w ⟨rfl, D⟩
          obtain ⟨C', T⟩ := C.join D [] [] (by decide) rfl rfl (by decide)
          replace C' : Ctx U0 [] w0 [] _ := C'
          replace T : TR U0 [] _ [] _ [] := T
          clear T; replace C := C'; clear C'
          clear D
          refine WL.val (rv_assign rfl) rfl ?_
          refine WL.nilThen ?_
          obtain rfl := some_inv' hp
          refine WC.ret (retK (rs := [.tmp 4]) (vs := [.bool x_20]) rfl ⟨rv1_tmp rfl, trivial⟩ ?_)
          exact ⟨_, rfl, rfl, C⟩

theorem ok_wirelesslaw33_SduDivides (F : Nat) (U0 : Nat → Prop) (w0 : World) (b_1 : (List Int)) (mps_5 : Int) (credits_6 : Int) (A_2 : Option Addr) (k_3 : Nat) (C : Ctx U0 [] w0 [] w0) (f_4 : Sl 1 (RInt .u8) (Mu U0 []) w0 A_2 k_3 b_1) (r : Bool) (hp : wirelesslaw33_SduDivides F b_1 mps_5 credits_6 = some r) :
    Calls Try.prog 5 #[.slice A_2 (List.length b_1) k_3, .int .i64 mps_5, .int .i64 credits_6] w0 fun e w => ∃ v, e = .returned v ∧ (v = .bool r) ∧ (Ctx U0 [] w0 [] w) := by
  refine calls_enter (vs := [.slice A_2 (List.length b_1) k_3, .int .i64 mps_5, .int .i64 credits_6]) Try.func5 rfl Try.ntmps5 rfl ?_
  refine WC.prune (l' := [(0, .slice A_2 (List.length b_1) k_3), (1, .int .i64 mps_5), (2, .int .i64 credits_6)]) ⟨rfl, rfl, rfl, trivial⟩ ?_
  skip
  refine WC.seq ?_
  refine WC.region ?_
  refine WL.val (rv_assign rfl) rfl ?_
  refine WL.nilThen ?_
  refine WC.seq ?_
  refine WC.seq ?_
  refine WC.region ?_
  refine WL.val (rv_move rfl) rfl ?_
  refine WL.val (rv_len (dt := b_1) Try.underlying24 rfl) rfl ?_
  refine WL.val (rv_gtr rfl rfl) rfl ?_
  refine WL.val (rv_move rfl) rfl ?_
  refine WL.cutAt 3 (fun a w' => w0 = w' ∧ Holds 143 [(0, .slice A_2 (List.length b_1) k_3), (1, .int .i64 mps_5), (2, .int .i64 credits_6), (21, .bool ((decide ((len b_1) > 4096)) || (decide (mps_5 < 23))))] a) ?_ ?_
  · rcases Bool.eq_false_or_eq_true (decide ((len b_1) > 4096)) with hg_7 | hg_7
    · refine WL.no rfl rfl hg_7 rfl ?_
      refine WL.no rfl rfl hg_7 rfl ?_
      refine WL.val (rv_pick_t rfl hg_7 rfl) rfl ?_
      refine WL.nil (fun a ha => ?_)
      exact ⟨rfl, ha.sub ⟨rfl, rfl, rfl, or_t hg_7, trivial⟩⟩
    · refine WL.yes rfl rfl hg_7 ?_
      refine WL.val (rv_move rfl) rfl ?_
      refine WL.yes rfl rfl hg_7 ?_
      refine WL.val (rv_lss rfl rfl) rfl ?_
      refine WL.val (rv_pick_f rfl hg_7 rfl) rfl ?_
      refine WL.nil (fun a ha => ?_)
      exact ⟨rfl, ha.sub ⟨rfl, rfl, rfl, or_f hg_7, trivial⟩⟩
  · rintro a w' ⟨rfl, ha⟩
    refine WL.ofJ (l := [(0, .slice A_2 (List.length b_1) k_3), (1, .int .i64 mps_5), (2, .int .i64 credits_6), (21, .bool ((decide ((len b_1) > 4096)) || (decide (mps_5 < 23))))]) ?_ ha
    refine WL.val (rv_move rfl) rfl ?_
    refine WL.cutAt 3 (fun a w' => w0 = w' ∧ Holds 143 [(0, .slice A_2 (List.length b_1) k_3), (1, .int .i64 mps_5), (2, .int .i64 credits_6), (25, .bool (((decide ((len b_1) > 4096)) || (decide (mps_5 < 23))) || (decide (mps_5 > 4096))))] a) ?_ ?_
    · rcases Bool.eq_false_or_eq_true (((decide ((len b_1) > 4096)) || (decide (mps_5 < 23)))) with hg_8 | hg_8
      · refine WL.no rfl rfl hg_8 rfl ?_
        refine WL.no rfl rfl hg_8 rfl ?_
        refine WL.val (rv_pick_t rfl hg_8 rfl) rfl ?_
        refine WL.nil (fun a ha => ?_)
        exact ⟨rfl, ha.sub ⟨rfl, rfl, rfl, or_t hg_8, trivial⟩⟩
      · refine WL.yes rfl rfl hg_8 ?_
        refine WL.val (rv_move rfl) rfl ?_
        refine WL.yes rfl rfl hg_8 ?_
        refine WL.val (rv_gtr rfl rfl) rfl ?_
        refine WL.val (rv_pick_f rfl hg_8 rfl) rfl ?_
        refine WL.nil (fun a ha => ?_)
        exact ⟨rfl, ha.sub ⟨rfl, rfl, rfl, or_f hg_8, trivial⟩⟩
    · rintro a w' ⟨rfl, ha⟩
      refine WL.ofJ (l := [(0, .slice A_2 (List.length b_1) k_3), (1, .int .i64 mps_5), (2, .int .i64 credits_6), (25, .bool (((decide ((len b_1) > 4096)) || (decide (mps_5 < 23))) || (decide (mps_5 > 4096))))]) ?_ ha
      refine WL.val (rv_move rfl) rfl ?_
      refine WL.cutAt 3 (fun a w' => w0 = w' ∧ Holds 143 [(0, .slice A_2 (List.length b_1) k_3), (1, .int .i64 mps_5), (2, .int .i64 credits_6), (29, .bool ((((decide ((len b_1) > 4096)) || (decide (mps_5 < 23))) || (decide (mps_5 > 4096))) || (decide (credits_6 < 0))))] a) ?_ ?_
      · rcases Bool.eq_false_or_eq_true ((((decide ((len b_1) > 4096)) || (decide (mps_5 < 23))) || (decide (mps_5 > 4096)))) with hg_9 | hg_9
        · refine WL.no rfl rfl hg_9 rfl ?_
          refine WL.no rfl rfl hg_9 rfl ?_
          refine WL.val (rv_pick_t rfl hg_9 rfl) rfl ?_
          refine WL.nil (fun a ha => ?_)
          exact ⟨rfl, ha.sub ⟨rfl, rfl, rfl, or_t hg_9, trivial⟩⟩
        · refine WL.yes rfl rfl hg_9 ?_
          refine WL.val (rv_move rfl) rfl ?_
          refine WL.yes rfl rfl hg_9 ?_
          refine WL.val (rv_lss rfl rfl) rfl ?_
          refine WL.val (rv_pick_f rfl hg_9 rfl) rfl ?_
          refine WL.nil (fun a ha => ?_)
          exact ⟨rfl, ha.sub ⟨rfl, rfl, rfl, or_f hg_9, trivial⟩⟩
      · rintro a w' ⟨rfl, ha⟩
        refine WL.ofJ (l := [(0, .slice A_2 (List.length b_1) k_3), (1, .int .i64 mps_5), (2, .int .i64 credits_6), (29, .bool ((((decide ((len b_1) > 4096)) || (decide (mps_5 < 23))) || (decide (mps_5 > 4096))) || (decide (credits_6 < 0))))]) ?_ ha
        refine WL.val (rv_move rfl) rfl ?_
        refine WL.cutAt 3 (fun a w' => w0 = w' ∧ Holds 143 [(0, .slice A_2 (List.length b_1) k_3), (1, .int .i64 mps_5), (2, .int .i64 credits_6), (33, .bool (((((decide ((len b_1) > 4096)) || (decide (mps_5 < 23))) || (decide (mps_5 > 4096))) || (decide (credits_6 < 0))) || (decide (credits_6 > 65535))))] a) ?_ ?_
        · rcases Bool.eq_false_or_eq_true (((((decide ((len b_1) > 4096)) || (decide (mps_5 < 23))) || (decide (mps_5 > 4096))) || (decide (credits_6 < 0)))) with hg_10 | hg_10
          · refine WL.no rfl rfl hg_10 rfl ?_
            refine WL.no rfl rfl hg_10 rfl ?_
            refine WL.val (rv_pick_t rfl hg_10 rfl) rfl ?_
            refine WL.nil (fun a ha => ?_)
            exact ⟨rfl, ha.sub ⟨rfl, rfl, rfl, or_t hg_10, trivial⟩⟩
          · refine WL.yes rfl rfl hg_10 ?_
            refine WL.val (rv_move rfl) rfl ?_
            refine WL.yes rfl rfl hg_10 ?_
            refine WL.val (rv_gtr rfl rfl) rfl ?_
            refine WL.val (rv_pick_f rfl hg_10 rfl) rfl ?_
            refine WL.nil (fun a ha => ?_)
            exact ⟨rfl, ha.sub ⟨rfl, rfl, rfl, or_f hg_10, trivial⟩⟩
        · rintro a w' ⟨rfl, ha⟩
          refine WL.ofJ (l := [(0, .slice A_2 (List.length b_1) k_3), (1, .int .i64 mps_5), (2, .int .i64 credits_6), (33, .bool (((((decide ((len b_1) > 4096)) || (decide (mps_5 < 23))) || (decide (mps_5 > 4096))) || (decide (credits_6 < 0))) || (decide (credits_6 > 65535))))]) ?_ ha
          refine WL.nilThen ?_
          refine WC.cond rfl (fun hc => ?_) (fun hc => ?_)
          · replace hp := if_t hp hc
            clear hc
            refine WC.seq ?_
            refine WC.region ?_
            replace hp := bind_inv hp
            obtain ⟨x_11, e_x_11, hp⟩ := hp
            refine WL.call (rc_func Try.call11 rfl) (ok_wirelesslaw33_exampleHolds F (Mu U0 []) _  (C.give [] [] (by decide) rfl rfl (by decide)) _ e_x_11) rfl ?_
            rintro v w ⟨rfl, D⟩
            obtain ⟨C', T⟩ := C.join D [] [] (by decide) rfl rfl (by decide)
            replace C' : Ctx U0 [] w0 [] _ := C'
            replace T : TR U0 [] _ [] _ [] := T
            replace f_4 := T.sl f_4
            clear T; replace C := C'; clear C'
            clear D
            refine WL.val (rv_assign rfl) rfl ?_
            refine WL.nilThen ?_
            obtain rfl := some_inv' hp
            refine WC.ret (retK (rs := [.tmp 6]) (vs := [.bool x_11]) rfl ⟨rv1_tmp rfl, trivial⟩ ?_)
            exact ⟨_, rfl, rfl, C⟩
          · replace hp := if_f hp hc
            clear hc
            refine WC.skipThen ?_
            refine WC.seq ?_
            refine WC.region ?_
            refine WL.val (rv_move rfl) rfl ?_
            refine WL.val (rv_move rfl) rfl ?_
            replace hp := bind_inv hp
            obtain ⟨x_12, e_x_12, hp⟩ := hp
            refine WL.call (rc_func Try.call19 rfl) (ok_wirelesslaw33_end F (Mu U0 []) _ 4096 mps_5 credits_6 (C.give [] [] (by decide) rfl rfl (by decide)) _ e_x_12) rfl ?_
            rintro v w ⟨A_13, k_14, A_16, k_17, rfl, D, f_15, f_18⟩
            obtain ⟨C', T⟩ := C.join D [] [] (by decide) rfl rfl (by decide)
            replace C' : Ctx U0 [] w0 [] _ := C'
            replace T : TR U0 [] _ [] _ [] := T
            replace f_15 : Sl 1 (RSl 1 (RInt .u8)) (Mu U0 []) _ A_13 k_14 x_12.Out := f_15.mu (mu_join (R := []) (L2 := []) (fun b h => h))
            replace f_18 : Sl 1 (RInt .u8) (Mu U0 []) _ A_16 k_17 x_12.In := f_18.mu (mu_join (R := []) (L2 := []) (fun b h => h))
            replace f_4 := T.sl f_4
            clear T; replace C := C'; clear C'
            clear D
            refine WL.val (rv_move rfl) rfl ?_
            replace hp := bind_inv hp
            obtain ⟨x_19, e_x_19, hp⟩ := hp
            refine WL.call (rc_func Try.call18 rfl) (ok_sdu_Queue F (Mu U0 []) _ x_12 b_1 A_13 k_14 A_16 k_17 A_2 k_3 (C.give [] [] (by decide) rfl rfl (by decide)) (f_15.mu (mu_give [] [] rfl rfl)) (f_18.mu (mu_give [] [] rfl rfl)) (f_4.mu (mu_give [] [] rfl rfl)) _ e_x_19) rfl ?_
            rintro v w ⟨A_20, k_21, A_23, k_24, rfl, D, f_22, f_25⟩
            obtain ⟨C', T⟩ := C.join D [] [] (by decide) rfl rfl (by decide)
            replace C' : Ctx U0 [] w0 [] _ := C'
            replace T : TR U0 [] _ [] _ [] := T
            replace f_22 : Sl 1 (RSl 1 (RInt .u8)) (Mu U0 []) _ A_20 k_21 x_19.1.Out := f_22.mu (mu_join (R := []) (L2 := []) (fun b h => h))
            replace f_25 : Sl 1 (RInt .u8) (Mu U0 []) _ A_23 k_24 x_19.1.In := f_25.mu (mu_join (R := []) (L2 := []) (fun b h => h))
            replace f_4 := T.sl f_4
            replace f_15 := T.sl f_15
            replace f_18 := T.sl f_18
            clear T; replace C := C'; clear C'
            clear D
            refine WL.val (rv_move rfl) rfl ?_
            refine WL.val (rv_extract rfl rfl) rfl ?_
            refine WL.val (rv_extract rfl rfl) rfl ?_
            refine WL.world (rw_alloc Try.zeroValue26 rfl C) rfl ?_
            rintro v w ⟨b_26, rfl, hb_26, C', T⟩
            replace C' : Ctx U0 [] w0 [some b_26] _ := C'
            replace T : TR U0 [] _ [some b_26] _ [] := T
            replace hb_26 : Blk _ b_26 26 [.int .u16 0, .int .u16 0, .int .u16 0, .int .i64 0, .int .i64 0, .int .i64 0, .int .i64 0, .int .i64 0, .int .i64 0, .int .i64 0, .slice none 0 0, .int .i64 0, .slice none 0 0, .int .i64 0, .bool false] := hb_26
            replace f_4 := T.sl f_4
            replace f_15 := T.sl f_15
            replace f_18 := T.sl f_18
            replace f_22 := T.sl f_22
            replace f_25 := T.sl f_25
            clear T; replace C := C'; clear C'
            refine WL.storeK (rs_store (i := 0) (cs' := [.int .u16 x_19.1.Local, .int .u16 x_19.1.Remote, .int .u16 x_19.1.PSM, .int .i64 x_19.1.MTU, .int .i64 x_19.1.MPS, .int .i64 x_19.1.PeerMTU, .int .i64 x_19.1.PeerMPS, .int .i64 x_19.1.TxCredits, .int .i64 x_19.1.RxCredits, .int .i64 x_19.1.Given, .slice A_20 (List.length x_19.1.Out) k_21, .int .i64 x_19.1.Sent, .slice A_23 (List.length x_19.1.In) k_24, .int .i64 x_19.1.Want, .bool x_19.1.Failed]) Try.sizeOf26 rfl rfl rfl rfl rfl hb_26 rfl C rfl rfl) ?_
            rintro w ⟨hb_26, C', T⟩
            replace f_4 := T.sl f_4
            replace f_15 := T.sl f_15
            replace f_18 := T.sl f_18
            replace f_22 := T.sl f_22
            replace f_25 := T.sl f_25
            clear T; replace C := C'; clear C'
            refine WL.val (rv_assign rfl) rfl ?_
            refine WL.nilThen ?_
            refine WC.seq ?_
            refine WC.seq ?_
            refine WC.region ?_
            refine WL.val (rv_move rfl) rfl ?_
            refine WL.val (rv_neq rfl rfl) rfl ?_
            refine WL.nilThen ?_
            refine WC.cond rfl (fun hc => ?_) (fun hc => ?_)
            · replace hp := if_t hp hc
              clear hc
              refine WC.seq ?_
              refine WC.region ?_
              refine WL.val (rv_assign rfl) rfl ?_
              refine WL.nilThen ?_
              obtain rfl := some_inv' hp
              refine WC.ret (retK (rs := [.tmp 6]) (vs := [.bool false]) rfl ⟨rv1_tmp rfl, trivial⟩ ?_)
              have T : TR U0 [some b_26] w [] w [] := TR.pick [] rfl
              have C' : Ctx U0 [] w0 [] _ := C.pick [] (by decide) rfl
              clear T; replace C := C'; clear C'
              exact ⟨_, rfl, rfl, C⟩
            · replace hp := if_f hp hc
              clear hc
              refine WC.skipThen ?_
              refine WC.seq ?_
              refine WC.region ?_
              refine WL.val (rv_loadN Try.isAgg26 Try.sizeOf26 rfl hb_26 rfl rfl) rfl ?_
              replace hp := bind_inv hp
              obtain ⟨x_27, e_x_27, hp⟩ := hp
              refine WL.call (rc_func Try.call12 rfl) (ok_sdu_Output F (Mu U0 [some b_26]) _ x_19.1 A_20 k_21 A_23 k_24 (C.give [0] [] (by decide) rfl rfl (by decide)) (f_22.mu (mu_give [0] [] rfl rfl)) (f_25.mu (mu_give [0] [] rfl rfl)) _ e_x_27) rfl ?_
              rintro v w ⟨A_28, k_29, A_31, k_32, A_34, k_35, rfl, D, f_30, f_33, f_36⟩
              obtain ⟨C', T⟩ := C.join D [0] [] (by decide) rfl rfl (by decide)
              replace C' : Ctx U0 [] w0 [some b_26] _ := C'
              replace T : TR U0 [some b_26] _ [some b_26] _ [] := T
              replace f_30 : Sl 1 (RSl 1 (RInt .u8)) (Mu U0 [some b_26]) _ A_28 k_29 x_27.1.Out := f_30.mu (mu_join (R := []) (L2 := [some b_26]) (fun b h => h))
              replace f_33 : Sl 1 (RInt .u8) (Mu U0 [some b_26]) _ A_31 k_32 x_27.1.In := f_33.mu (mu_join (R := []) (L2 := [some b_26]) (fun b h => h))
              replace f_36 : Sl 1 (RSl 1 (RInt .u8)) (Mu U0 [some b_26]) _ A_34 k_35 x_27.2 := f_36.mu (mu_join (R := []) (L2 := [some b_26]) (fun b h => h))
              replace f_4 := T.sl f_4
              replace f_22 := T.sl f_22
              replace f_25 := T.sl f_25
              replace hb_26 := T.blk ne0 hb_26
              clear T; replace C := C'; clear C'
              clear D
              refine WL.val (rv_move rfl) rfl ?_
              refine WL.val (rv_extract rfl rfl) rfl ?_
              refine WL.val (rv_extract rfl rfl) rfl ?_
              refine WL.world (rw_alloc Try.zeroValue26 rfl C) rfl ?_
              rintro v w ⟨b_37, rfl, hb_37, C', T⟩
              replace C' : Ctx U0 [] w0 [some b_37, some b_26] _ := C'
              replace T : TR U0 [some b_26] _ [some b_37, some b_26] _ [] := T
              replace hb_37 : Blk _ b_37 26 [.int .u16 0, .int .u16 0, .int .u16 0, .int .i64 0, .int .i64 0, .int .i64 0, .int .i64 0, .int .i64 0, .int .i64 0, .int .i64 0, .slice none 0 0, .int .i64 0, .slice none 0 0, .int .i64 0, .bool false] := hb_37
              replace f_4 := T.sl f_4
              replace f_22 := T.sl f_22
              replace f_25 := T.sl f_25
              replace f_30 := T.sl f_30
              replace f_33 := T.sl f_33
              replace f_36 := T.sl f_36
              replace hb_26 := T.blk ne0 hb_26
              clear T; replace C := C'; clear C'
              refine WL.storeK (rs_store (i := 0) (cs' := [.int .u16 x_27.1.Local, .int .u16 x_27.1.Remote, .int .u16 x_27.1.PSM, .int .i64 x_27.1.MTU, .int .i64 x_27.1.MPS, .int .i64 x_27.1.PeerMTU, .int .i64 x_27.1.PeerMPS, .int .i64 x_27.1.TxCredits, .int .i64 x_27.1.RxCredits, .int .i64 x_27.1.Given, .slice A_28 (List.length x_27.1.Out) k_29, .int .i64 x_27.1.Sent, .slice A_31 (List.length x_27.1.In) k_32, .int .i64 x_27.1.Want, .bool x_27.1.Failed]) Try.sizeOf26 rfl rfl rfl rfl rfl hb_37 rfl C rfl rfl) ?_
              rintro w ⟨hb_37, C', T⟩
              replace f_4 := T.sl f_4
              replace f_22 := T.sl f_22
              replace f_25 := T.sl f_25
              replace f_30 := T.sl f_30
              replace f_33 := T.sl f_33
              replace f_36 := T.sl f_36
              replace hb_26 := T.blk (C.ne (i := 1) rfl [0] rfl (by decide)) hb_26
              clear T; replace C := C'; clear C'
              refine WL.val (rv_assign rfl) rfl ?_
              refine WL.nilThen ?_
              refine WC.seq ?_
              refine WC.prune (l' := [(0, .slice A_2 (List.length b_1) k_3), (1, .int .i64 mps_5), (2, .int .i64 credits_6), (9, .pointer (some ⟨b_37, 0, none⟩)), (10, .slice A_34 (List.length x_27.2) k_35)]) ⟨rfl, rfl, rfl, rfl, rfl, trivial⟩ ?_
              refine WC.region ?_
              refine WL.val (rv_move rfl) rfl ?_
              refine WL.val (rv_len (dt := b_1) Try.underlying24 rfl) rfl ?_
              replace hp := bind_inv hp
              obtain ⟨x_38, e_x_38, hp⟩ := hp
              refine WL.val (rv_rem rfl rfl e_x_38) rfl ?_
              refine WL.val (rv_conv Try.underlying3 Try.underlying5 rfl (wrap_u8 _)) rfl ?_
              refine WL.val (rv_move rfl) rfl ?_
              refine WL.val (rv_len (dt := b_1) Try.underlying24 rfl) rfl ?_
              replace hp := bind_inv hp
              obtain ⟨x_39, e_x_39, hp⟩ := hp
              refine WL.val (rv_quo rfl rfl e_x_39) rfl ?_
              refine WL.val (rv_conv Try.underlying3 Try.underlying5 rfl (wrap_u8 _)) rfl ?_
              refine WL.world (rw_buildSlice (sz := 1) (R := (RInt .u8)) (es := [.int .u8 (wu8 x_38), .int .u8 (wu8 x_39)]) (dt := [wu8 x_38, wu8 x_39]) Try.underlying24 Try.sizeOf5 Try.zeroValue5 rfl rfl rfl rfl rfl rfl rfl rfl ⟨_, _, rfl, rfl, rfl, ⟨_, _, rfl, rfl, rfl, rfl⟩⟩ C) rfl ?_
              rintro v w ⟨A_41, k_42, rfl, f_43, C', T⟩
              replace C' : Ctx U0 [] w0 [ob A_41, some b_37, some b_26] _ := C'
              replace T : TR U0 [some b_37, some b_26] _ [ob A_41, some b_37, some b_26] _ _ := T
              replace f_43 : Own 1 5 (RInt .u8) (Mu U0 [ob A_41, some b_37, some b_26]) _ A_41 k_42 [wu8 x_38, wu8 x_39] := f_43
              replace f_4 := T.sl f_4
              replace f_30 := T.sl f_30
              replace f_33 := T.sl f_33
              replace f_36 := T.sl f_36
              replace hb_37 := T.blk ne0 hb_37
              clear T; replace C := C'; clear C'
              refine WL.val (rv_move rfl) rfl ?_
              replace hp := bind_inv hp
              obtain ⟨l_44, e_l_44, hp⟩ := hp
              refine WL.world (rw_append (i := 0) (dt := [wu8 x_38, wu8 x_39]) Try.underlying24 I5 rfl rfl rfl rfl rfl rfl rfl rfl f_43 (f_4.src) e_l_44 rfl C) rfl ?_
              rintro v w ⟨A_45, k_46, rfl, f_47, C', T⟩
              replace C' : Ctx U0 [] w0 [ob A_45, some b_37, some b_26] _ := C'
              replace T : TR U0 [ob A_41, some b_37, some b_26] _ [ob A_45, some b_37, some b_26] _ _ := T
              replace f_47 : Own 1 5 (RInt .u8) (Mu U0 [ob A_45, some b_37, some b_26]) _ A_45 k_46 l_44 := f_47
              replace f_4 := T.sl f_4
              replace f_30 := T.sl f_30
              replace f_33 := T.sl f_33
              replace f_36 := T.sl f_36
              replace hb_37 := T.blk (C.ne (i := 1) rfl [0] rfl (by decide)) hb_37
              clear T; replace C := C'; clear C'
              refine WL.val (rv_assign rfl) rfl ?_
              refine WL.nilThen ?_
              refine WC.seq ?_
              refine WC.region ?_
              refine WL.val (rv_move rfl) rfl ?_
              refine WL.val (rv_len (dt := l_44) Try.underlying24 rfl) rfl ?_
              refine WL.val (rv_move rfl) rfl ?_
              refine WL.val (rv_add rfl rfl (wrap_i64 _)) rfl ?_
              refine WL.val (rv_sub rfl rfl (wrap_i64 _)) rfl ?_
              refine WL.val (rv_move rfl) rfl ?_
              replace hp := bind_inv hp
              obtain ⟨x_49, e_x_49, hp⟩ := hp
              refine WL.val (rv_quo rfl rfl e_x_49) rfl ?_
              refine WL.val (rv_assign rfl) rfl ?_
              refine WL.nilThen ?_
              refine WC.seq ?_
              refine WC.region ?_
              refine WL.val (rv_assign rfl) rfl ?_
              refine WL.nilThen ?_
              refine WC.seqCut (fun a w => ∃ (l_50 : (List Int)) (A_51 : Option Addr) (k_52 : Nat), (wirelesslaw33_SduDivides_j1 F credits_6 x_27 l_44 x_49 l_50 = some r) ∧ (Holds 143 [(2, .int .i64 credits_6), (9, .pointer (some ⟨b_37, 0, none⟩)), (10, .slice A_34 (List.length x_27.2) k_35), (11, .slice A_45 (List.length l_44) k_46), (12, .int .i64 x_49), (13, .slice A_51 (List.length l_50) k_52)] a) ∧ (Ctx U0 [] w0 [ob A_45, some b_37, ob A_51] w) ∧ (Sl 1 (RSl 1 (RInt .u8)) (Mu U0 [ob A_45, some b_37, ob A_51]) w A_28 k_29 x_27.1.Out) ∧ (Sl 1 (RInt .u8) (Mu U0 [ob A_45, some b_37, ob A_51]) w A_31 k_32 x_27.1.In) ∧ (Sl 1 (RSl 1 (RInt .u8)) (Mu U0 [ob A_45, some b_37, ob A_51]) w A_34 k_35 x_27.2) ∧ (Blk w b_37 26 [.int .u16 x_27.1.Local, .int .u16 x_27.1.Remote, .int .u16 x_27.1.PSM, .int .i64 x_27.1.MTU, .int .i64 x_27.1.MPS, .int .i64 x_27.1.PeerMTU, .int .i64 x_27.1.PeerMPS, .int .i64 x_27.1.TxCredits, .int .i64 x_27.1.RxCredits, .int .i64 x_27.1.Given, .slice A_28 (List.length x_27.1.Out) k_29, .int .i64 x_27.1.Sent, .slice A_31 (List.length x_27.1.In) k_32, .int .i64 x_27.1.Want, .bool x_27.1.Failed]) ∧ (Own 1 5 (RInt .u8) (Mu U0 [ob A_45, some b_37, ob A_51]) w A_45 k_46 l_44) ∧ (Own 1 5 (RInt .u8) (Mu U0 [ob A_45, some b_37, ob A_51]) w A_51 k_52 l_50)) ?_ ?_
              · refine WC.seq ?_
                refine WC.region ?_
                refine WL.val (rv_assign rfl) rfl ?_
                refine WL.nilThen ?_
                refine WC.block ?_
                obtain ⟨o_74, hi_74, hpo_74⟩ := bind_inv hp
                clear hp
                refine WC.loop (fun n a w => ∃ (l_68 : (List Int)) (x_73 : Int) (A_69 : Option Addr) (k_70 : Nat), (iter (fun s => wirelesslaw33_SduDivides_l74 F mps_5 x_27 x_49 s.1 s.2) n (l_68, x_73) = some o_74) ∧ (Holds 143 [(1, .int .i64 mps_5), (2, .int .i64 credits_6), (9, .pointer (some ⟨b_37, 0, none⟩)), (10, .slice A_34 (List.length x_27.2) k_35), (11, .slice A_45 (List.length l_44) k_46), (12, .int .i64 x_49), (13, .slice A_69 (List.length l_68) k_70), (14, .int .i64 x_73)] a) ∧ (Ctx U0 [] w0 [ob A_45, some b_37, ob A_69] w) ∧ (Sl 1 (RSl 1 (RInt .u8)) (Mu U0 [ob A_45, some b_37, ob A_69]) w A_28 k_29 x_27.1.Out) ∧ (Sl 1 (RInt .u8) (Mu U0 [ob A_45, some b_37, ob A_69]) w A_31 k_32 x_27.1.In) ∧ (Sl 1 (RSl 1 (RInt .u8)) (Mu U0 [ob A_45, some b_37, ob A_69]) w A_34 k_35 x_27.2) ∧ (Blk w b_37 26 [.int .u16 x_27.1.Local, .int .u16 x_27.1.Remote, .int .u16 x_27.1.PSM, .int .i64 x_27.1.MTU, .int .i64 x_27.1.MPS, .int .i64 x_27.1.PeerMTU, .int .i64 x_27.1.PeerMPS, .int .i64 x_27.1.TxCredits, .int .i64 x_27.1.RxCredits, .int .i64 x_27.1.Given, .slice A_28 (List.length x_27.1.Out) k_29, .int .i64 x_27.1.Sent, .slice A_31 (List.length x_27.1.In) k_32, .int .i64 x_27.1.Want, .bool x_27.1.Failed]) ∧ (Own 1 5 (RInt .u8) (Mu U0 [ob A_45, some b_37, ob A_69]) w A_45 k_46 l_44) ∧ (Own 1 5 (RInt .u8) (Mu U0 [ob A_45, some b_37, ob A_69]) w A_69 k_70 l_68)) F ?_ ?_
                · intro a ha
                  obtain ⟨C', T⟩ := C.addNone
                  replace f_30 := T.sl f_30
                  replace f_33 := T.sl f_33
                  replace f_36 := T.sl f_36
                  replace hb_37 := T.blk ne0 hb_37
                  replace f_47 := T.own ne0 f_47
                  clear T; replace C := C'; clear C'
                  have T : TR U0 [ob none, ob A_45, some b_37, some b_26] w [ob A_45, some b_37, ob none] w [] := TR.pick [1, 2, 0] rfl
                  have C' : Ctx U0 [] w0 [ob A_45, some b_37, ob none] _ := C.pick [1, 2, 0] (by decide) rfl
                  replace f_30 := T.sl f_30
                  replace f_33 := T.sl f_33
                  replace f_36 := T.sl f_36
                  replace hb_37 := T.blk ne0 hb_37
                  replace f_47 := T.own ne0 f_47
                  clear T; replace C := C'; clear C'
                  exact ⟨[], 0, none, 0, hi_74, ha.sub ⟨rfl, rfl, rfl, rfl, rfl, rfl, rfl, rfl, trivial⟩, C, f_30, f_33, f_36, hb_37, f_47, Own.nil⟩
                · rintro n_74 a w ⟨l_68, x_73, A_69, k_70, hi_74, ha, C, f_30, f_33, f_36, hb_37, f_47, f_71⟩
                  obtain ⟨n_74, q_74, rfl, hp, hs_74⟩ := iter_inv hi_74
                  replace hp : wirelesslaw33_SduDivides_l74 F mps_5 x_27 x_49 l_68 x_73 = some q_74 := hp
                  clear hi_74
                  refine WC.ofJ (l := [(1, .int .i64 mps_5), (2, .int .i64 credits_6), (9, .pointer (some ⟨b_37, 0, none⟩)), (10, .slice A_34 (List.length x_27.2) k_35), (11, .slice A_45 (List.length l_44) k_46), (12, .int .i64 x_49), (13, .slice A_69 (List.length l_68) k_70), (14, .int .i64 x_73)]) ?_ ha
                  refine WC.seq ?_
                  refine WC.seq ?_
                  refine WC.region ?_
                  refine WL.val (rv_move rfl) rfl ?_
                  refine WL.val (rv_move rfl) rfl ?_
                  refine WL.val (rv_len (dt := x_27.2) Try.underlying23 rfl) rfl ?_
                  refine WL.val (rv_lss rfl rfl) rfl ?_
                  refine WL.nilThen ?_
                  refine WC.cond rfl (fun hc => ?_) (fun hc => ?_)
                  · replace hp := if_t hp hc
                    clear hc
                    refine WC.skipThen ?_
                    refine WC.seq ?_
                    refine WC.block ?_
                    refine WC.seq ?_
                    refine WC.seq ?_
                    refine WC.prune (l' := [(1, .int .i64 mps_5), (2, .int .i64 credits_6), (9, .pointer (some ⟨b_37, 0, none⟩)), (10, .slice A_34 (List.length x_27.2) k_35), (11, .slice A_45 (List.length l_44) k_46), (12, .int .i64 x_49), (13, .slice A_69 (List.length l_68) k_70), (14, .int .i64 x_73)]) ⟨rfl, rfl, rfl, rfl, rfl, rfl, rfl, rfl, trivial⟩ ?_
                    refine WC.region ?_
                    refine WL.val (rv_move rfl) rfl ?_
                    refine WL.val (rv_move rfl) rfl ?_
                    replace hp := bind_inv hp
                    obtain ⟨x_75, e_x_75, hp⟩ := hp
                    refine WL.ixSl (dt := x_27.2) Try.underlying23 Try.sizeOf24 rfl rfl rfl f_36 e_x_75 rfl ?_
                    intro d_76 es_77 f_78 hl hr
                    obtain ⟨A_79, k_80, rfl, f_81⟩ := hr
                    clear hl
                    refine WL.val (rv_loadA1 (ad := d_76) (o := 0) Try.isAgg24 rfl f_78 rfl) rfl ?_
                    refine WL.val (rv_len (dt := x_75) Try.underlying24 rfl) rfl ?_
                    refine WL.val (rv_move rfl) rfl ?_
                    refine WL.val (rv_neq rfl rfl) rfl ?_
                    refine WL.val (rv_move rfl) rfl ?_
                    refine WL.cutAt 5 (fun a w' => w = w' ∧ Holds 143 [(1, .int .i64 mps_5), (2, .int .i64 credits_6), (9, .pointer (some ⟨b_37, 0, none⟩)), (10, .slice A_34 (List.length x_27.2) k_35), (11, .slice A_45 (List.length l_44) k_46), (12, .int .i64 x_49), (13, .slice A_69 (List.length l_68) k_70), (14, .int .i64 x_73), (86, .bool (((len x_75) != mps_5) && (decide ((w64 (x_73 + 1)) < x_49))))] a) ?_ ?_
                    · rcases Bool.eq_false_or_eq_true (((len x_75) != mps_5)) with hg_82 | hg_82
                      · refine WL.yes rfl rfl hg_82 ?_
                        refine WL.val (rv_move rfl) rfl ?_
                        refine WL.yes rfl rfl hg_82 ?_
                        refine WL.val (rv_add rfl rfl (wrap_i64 _)) rfl ?_
                        refine WL.yes rfl rfl hg_82 ?_
                        refine WL.val (rv_move rfl) rfl ?_
                        refine WL.yes rfl rfl hg_82 ?_
                        refine WL.val (rv_lss rfl rfl) rfl ?_
                        refine WL.val (rv_pick_t rfl hg_82 rfl) rfl ?_
                        refine WL.nil (fun a ha => ?_)
                        exact ⟨rfl, ha.sub ⟨rfl, rfl, rfl, rfl, rfl, rfl, rfl, rfl, and_t hg_82, trivial⟩⟩
                      · refine WL.no rfl rfl hg_82 rfl ?_
                        refine WL.no rfl rfl hg_82 rfl ?_
                        refine WL.no rfl rfl hg_82 rfl ?_
                        refine WL.no rfl rfl hg_82 rfl ?_
                        refine WL.val (rv_pick_f rfl hg_82 rfl) rfl ?_
                        refine WL.nil (fun a ha => ?_)
                        exact ⟨rfl, ha.sub ⟨rfl, rfl, rfl, rfl, rfl, rfl, rfl, rfl, and_f hg_82, trivial⟩⟩
                    · rintro a w' ⟨rfl, ha⟩
                      refine WL.ofJ (l := [(1, .int .i64 mps_5), (2, .int .i64 credits_6), (9, .pointer (some ⟨b_37, 0, none⟩)), (10, .slice A_34 (List.length x_27.2) k_35), (11, .slice A_45 (List.length l_44) k_46), (12, .int .i64 x_49), (13, .slice A_69 (List.length l_68) k_70), (14, .int .i64 x_73), (86, .bool (((len x_75) != mps_5) && (decide ((w64 (x_73 + 1)) < x_49))))]) ?_ ha
                      refine WL.val (rv_move rfl) rfl ?_
                      obtain ⟨z_84, hz, hpr⟩ := bind_inv hp
                      clear hp
                      refine WL.cutAt 7 (fun a w => (True) ∧ (Holds 143 [(1, .int .i64 mps_5), (2, .int .i64 credits_6), (9, .pointer (some ⟨b_37, 0, none⟩)), (10, .slice A_34 (List.length x_27.2) k_35), (11, .slice A_45 (List.length l_44) k_46), (12, .int .i64 x_49), (13, .slice A_69 (List.length l_68) k_70), (14, .int .i64 x_73), (94, .bool z_84)] a) ∧ (Ctx U0 [] w0 [ob A_45, some b_37, ob A_69] w) ∧ (Sl 1 (RSl 1 (RInt .u8)) (Mu U0 [ob A_45, some b_37, ob A_69]) w A_28 k_29 x_27.1.Out) ∧ (Sl 1 (RInt .u8) (Mu U0 [ob A_45, some b_37, ob A_69]) w A_31 k_32 x_27.1.In) ∧ (Sl 1 (RSl 1 (RInt .u8)) (Mu U0 [ob A_45, some b_37, ob A_69]) w A_34 k_35 x_27.2) ∧ (Blk w b_37 26 [.int .u16 x_27.1.Local, .int .u16 x_27.1.Remote, .int .u16 x_27.1.PSM, .int .i64 x_27.1.MTU, .int .i64 x_27.1.MPS, .int .i64 x_27.1.PeerMTU, .int .i64 x_27.1.PeerMPS, .int .i64 x_27.1.TxCredits, .int .i64 x_27.1.RxCredits, .int .i64 x_27.1.Given, .slice A_28 (List.length x_27.1.Out) k_29, .int .i64 x_27.1.Sent, .slice A_31 (List.length x_27.1.In) k_32, .int .i64 x_27.1.Want, .bool x_27.1.Failed]) ∧ (Own 1 5 (RInt .u8) (Mu U0 [ob A_45, some b_37, ob A_69]) w A_45 k_46 l_44) ∧ (Own 1 5 (RInt .u8) (Mu U0 [ob A_45, some b_37, ob A_69]) w A_69 k_70 l_68)) ?_ ?_
                      · have hp := hz
                        rcases Bool.eq_false_or_eq_true ((((len x_75) != mps_5) && (decide ((w64 (x_73 + 1)) < x_49)))) with hg_83 | hg_83
                        · replace hp := if_t hp hg_83
                          refine WL.no rfl rfl hg_83 rfl ?_
                          refine WL.no rfl rfl hg_83 rfl ?_
                          refine WL.no rfl rfl hg_83 rfl ?_
                          refine WL.no rfl rfl hg_83 rfl ?_
                          refine WL.no rfl rfl hg_83 rfl ?_
                          refine WL.no rfl rfl hg_83 rfl ?_
                          refine WL.val (rv_pick_t rfl hg_83 rfl) rfl ?_
                          refine WL.nil (fun a ha => ?_)
                          obtain rfl := some_inv' hp
                          exact ⟨trivial, ha.sub ⟨rfl, rfl, rfl, rfl, rfl, rfl, rfl, rfl, rfl, trivial⟩, C, f_30, f_33, f_36, hb_37, f_47, f_71⟩
                        · replace hp := if_f hp hg_83
                          refine WL.yes rfl rfl hg_83 ?_
                          refine WL.val (rv_move rfl) rfl ?_
                          refine WL.yes rfl rfl hg_83 ?_
                          refine WL.val (rv_move rfl) rfl ?_
                          replace hp := bind_inv hp
                          obtain ⟨x_98, e_x_98, hp⟩ := hp
                          refine WL.yes rfl rfl hg_83 ?_
                          refine WL.ixSl (dt := x_27.2) Try.underlying23 Try.sizeOf24 rfl rfl rfl f_36 e_x_98 rfl ?_
                          intro d_99 es_100 f_101 hl hr
                          obtain ⟨A_102, k_103, rfl, f_104⟩ := hr
                          clear hl
                          refine WL.yes rfl rfl hg_83 ?_
                          refine WL.val (rv_loadA1 (ad := d_99) (o := 0) Try.isAgg24 rfl f_101 rfl) rfl ?_
                          refine WL.yes rfl rfl hg_83 ?_
                          refine WL.val (rv_len (dt := x_98) Try.underlying24 rfl) rfl ?_
                          refine WL.yes rfl rfl hg_83 ?_
                          refine WL.val (rv_eql rfl rfl) rfl ?_
                          refine WL.val (rv_pick_f rfl hg_83 rfl) rfl ?_
                          refine WL.nil (fun a ha => ?_)
                          obtain rfl := some_inv' hp
                          exact ⟨trivial, ha.sub ⟨rfl, rfl, rfl, rfl, rfl, rfl, rfl, rfl, rfl, trivial⟩, C, f_30, f_33, f_36, hb_37, f_47, f_71⟩
                      · rintro a w ⟨hp, ha, C, f_30, f_33, f_36, hb_37, f_47, f_71⟩
                        have hp := hpr; clear hpr hz
                        refine WL.ofJ (l := [(1, .int .i64 mps_5), (2, .int .i64 credits_6), (9, .pointer (some ⟨b_37, 0, none⟩)), (10, .slice A_34 (List.length x_27.2) k_35), (11, .slice A_45 (List.length l_44) k_46), (12, .int .i64 x_49), (13, .slice A_69 (List.length l_68) k_70), (14, .int .i64 x_73), (94, .bool z_84)]) ?_ ha
                        refine WL.nilThen ?_
                        refine WC.cond rfl (fun hc => ?_) (fun hc => ?_)
                        · replace hp := if_t hp hc
                          clear hc
                          refine WC.seq ?_
                          refine WC.region ?_
                          refine WL.val (rv_assign rfl) rfl ?_
                          refine WL.nilThen ?_
                          have ho := done_inv hp hs_74
                          replace hp := hpo_74
                          try rw [ho] at hp
                          obtain rfl := some_inv' hp
                          refine WC.ret (retK (rs := [.tmp 6]) (vs := [.bool false]) rfl ⟨rv1_tmp rfl, trivial⟩ ?_)
                          have T : TR U0 [ob A_45, some b_37, ob A_69] w [] w [] := TR.pick [] rfl
                          have C' : Ctx U0 [] w0 [] _ := C.pick [] (by decide) rfl
                          clear T; replace C := C'; clear C'
                          exact ⟨_, rfl, rfl, C⟩
                        · replace hp := if_f hp hc
                          clear hc
                          refine WC.skipThen ?_
                          refine WC.region ?_
                          refine WL.val (rv_move rfl) rfl ?_
                          refine WL.val (rv_move rfl) rfl ?_
                          refine WL.val (rv_move rfl) rfl ?_
                          replace hp := bind_inv hp
                          obtain ⟨x_85, e_x_85, hp⟩ := hp
                          refine WL.ixSl (dt := x_27.2) Try.underlying23 Try.sizeOf24 rfl rfl rfl f_36 e_x_85 rfl ?_
                          intro d_86 es_87 f_88 hl hr
                          obtain ⟨A_89, k_90, rfl, f_91⟩ := hr
                          clear hl
                          refine WL.val (rv_loadA1 (ad := d_86) (o := 0) Try.isAgg24 rfl f_88 rfl) rfl ?_
                          replace hp := bind_inv hp
                          obtain ⟨l_92, e_l_92, hp⟩ := hp
                          refine WL.world (rw_append (i := 2) (dt := l_68) Try.underlying24 I5 rfl rfl rfl rfl rfl rfl rfl rfl f_71 (f_91.src) e_l_92 rfl C) rfl ?_
                          rintro v w ⟨A_93, k_94, rfl, f_95, C', T⟩
                          replace C' : Ctx U0 [] w0 [ob A_45, some b_37, ob A_93] _ := C'
                          replace T : TR U0 [ob A_45, some b_37, ob A_69] _ [ob A_45, some b_37, ob A_93] _ _ := T
                          replace f_95 : Own 1 5 (RInt .u8) (Mu U0 [ob A_45, some b_37, ob A_93]) _ A_93 k_94 l_92 := f_95
                          replace f_30 := T.sl f_30
                          replace f_33 := T.sl f_33
                          replace f_36 := T.sl f_36
                          replace f_91 := T.sl f_91
                          replace f_88 := T.at_ f_88 (by simp)
                          replace hb_37 := T.blk (C.ne (i := 1) rfl [2] rfl (by decide)) hb_37
                          replace f_47 := T.own (C.ne (i := 0) rfl [2] rfl (by decide)) f_47
                          clear T; replace C := C'; clear C'
                          refine WL.val (rv_assign rfl) rfl ?_
                          refine WL.nilThen ?_
                          refine WC.region ?_
                          refine WL.val (rv_move rfl) rfl ?_
                          refine WL.val (rv_add rfl rfl (wrap_i64 _)) rfl ?_
                          refine WL.val (rv_assign rfl) rfl ?_
                          refine WL.nil (fun a ha => ?_)
                          have ho := next_inv hp hs_74
                          exact ⟨n_74, Nat.lt_succ_self _, ⟨l_92, w64 (x_73 + 1), A_93, k_94, ho, ha.sub ⟨rfl, rfl, rfl, rfl, rfl, rfl, rfl, rfl, trivial⟩, C, f_30, f_33, f_36, hb_37, f_47, f_95⟩⟩
                  · replace hp := if_f hp hc
                    clear hc
                    refine WC.exitJ rfl (fun a ha => ?_)
                    have ho := done_inv hp hs_74
                    replace hp := hpo_74
                    try rw [ho] at hp
                    exact ⟨l_68, A_69, k_70, hp, ha.sub ⟨rfl, rfl, rfl, rfl, rfl, rfl, trivial⟩, C, f_30, f_33, f_36, hb_37, f_47, f_71⟩
              · rintro a w ⟨l_50, A_51, k_52, hp, ha, C, f_30, f_33, f_36, hb_37, f_47, f_53⟩
                refine WC.ofJ (l := [(2, .int .i64 credits_6), (9, .pointer (some ⟨b_37, 0, none⟩)), (10, .slice A_34 (List.length x_27.2) k_35), (11, .slice A_45 (List.length l_44) k_46), (12, .int .i64 x_49), (13, .slice A_51 (List.length l_50) k_52)]) ?_ ha
                refine WC.seq ?_
                refine WC.seq ?_
                refine WC.region ?_
                refine WL.val (rv_move rfl) rfl ?_
                refine WL.val (rv_len (dt := x_27.2) Try.underlying23 rfl) rfl ?_
                refine WL.val (rv_move rfl) rfl ?_
                refine WL.val (rv_move rfl) rfl ?_
                refine WL.val (rv_min rfl rfl) rfl ?_
                refine WL.val (rv_neq rfl rfl) rfl ?_
                refine WL.val (rv_move rfl) rfl ?_
                refine WL.cutAt 8 (fun a w' => w = w' ∧ Holds 143 [(9, .pointer (some ⟨b_37, 0, none⟩)), (10, .slice A_34 (List.length x_27.2) k_35), (11, .slice A_45 (List.length l_44) k_46), (12, .int .i64 x_49), (13, .slice A_51 (List.length l_50) k_52), (115, .bool (((len x_27.2) != (imin x_49 credits_6)) || (x_27.1.TxCredits != (w64 (credits_6 - (len x_27.2))))))] a) ?_ ?_
                · rcases Bool.eq_false_or_eq_true (((len x_27.2) != (imin x_49 credits_6))) with hg_55 | hg_55
                  · refine WL.no rfl rfl hg_55 rfl ?_
                    refine WL.no rfl rfl hg_55 rfl ?_
                    refine WL.no rfl rfl hg_55 rfl ?_
                    refine WL.no rfl rfl hg_55 rfl ?_
                    refine WL.no rfl rfl hg_55 rfl ?_
                    refine WL.no rfl rfl hg_55 rfl ?_
                    refine WL.no rfl rfl hg_55 rfl ?_
                    refine WL.val (rv_pick_t rfl hg_55 rfl) rfl ?_
                    refine WL.nil (fun a ha => ?_)
                    exact ⟨rfl, ha.sub ⟨rfl, rfl, rfl, rfl, rfl, or_t hg_55, trivial⟩⟩
                  · refine WL.yes rfl rfl hg_55 ?_
                    refine WL.val (rv_fieldAddr FA26_7 rfl rfl) rfl ?_
                    refine WL.yes rfl rfl hg_55 ?_
                    refine WL.val (rv_load1 Try.isAgg3 rfl hb_37 rfl) rfl ?_
                    refine WL.yes rfl rfl hg_55 ?_
                    refine WL.val (rv_move rfl) rfl ?_
                    refine WL.yes rfl rfl hg_55 ?_
                    refine WL.val (rv_move rfl) rfl ?_
                    refine WL.yes rfl rfl hg_55 ?_
                    refine WL.val (rv_len (dt := x_27.2) Try.underlying23 rfl) rfl ?_
                    refine WL.yes rfl rfl hg_55 ?_
                    refine WL.val (rv_sub rfl rfl (wrap_i64 _)) rfl ?_
                    refine WL.yes rfl rfl hg_55 ?_
                    refine WL.val (rv_neq rfl rfl) rfl ?_
                    refine WL.val (rv_pick_f rfl hg_55 rfl) rfl ?_
                    refine WL.nil (fun a ha => ?_)
                    exact ⟨rfl, ha.sub ⟨rfl, rfl, rfl, rfl, rfl, or_f hg_55, trivial⟩⟩
                · rintro a w' ⟨rfl, ha⟩
                  refine WL.ofJ (l := [(9, .pointer (some ⟨b_37, 0, none⟩)), (10, .slice A_34 (List.length x_27.2) k_35), (11, .slice A_45 (List.length l_44) k_46), (12, .int .i64 x_49), (13, .slice A_51 (List.length l_50) k_52), (115, .bool (((len x_27.2) != (imin x_49 credits_6)) || (x_27.1.TxCredits != (w64 (credits_6 - (len x_27.2))))))]) ?_ ha
                  refine WL.val (rv_move rfl) rfl ?_
                  refine WL.cutAt 6 (fun a w' => w = w' ∧ Holds 143 [(9, .pointer (some ⟨b_37, 0, none⟩)), (10, .slice A_34 (List.length x_27.2) k_35), (11, .slice A_45 (List.length l_44) k_46), (12, .int .i64 x_49), (13, .slice A_51 (List.length l_50) k_52), (122, .bool ((((len x_27.2) != (imin x_49 credits_6)) || (x_27.1.TxCredits != (w64 (credits_6 - (len x_27.2))))) || (decide ((len l_50) > (len l_44)))))] a) ?_ ?_
                  · rcases Bool.eq_false_or_eq_true ((((len x_27.2) != (imin x_49 credits_6)) || (x_27.1.TxCredits != (w64 (credits_6 - (len x_27.2)))))) with hg_56 | hg_56
                    · refine WL.no rfl rfl hg_56 rfl ?_
                      refine WL.no rfl rfl hg_56 rfl ?_
                      refine WL.no rfl rfl hg_56 rfl ?_
                      refine WL.no rfl rfl hg_56 rfl ?_
                      refine WL.no rfl rfl hg_56 rfl ?_
                      refine WL.val (rv_pick_t rfl hg_56 rfl) rfl ?_
                      refine WL.nil (fun a ha => ?_)
                      exact ⟨rfl, ha.sub ⟨rfl, rfl, rfl, rfl, rfl, or_t hg_56, trivial⟩⟩
                    · refine WL.yes rfl rfl hg_56 ?_
                      refine WL.val (rv_move rfl) rfl ?_
                      refine WL.yes rfl rfl hg_56 ?_
                      refine WL.val (rv_len (dt := l_50) Try.underlying24 rfl) rfl ?_
                      refine WL.yes rfl rfl hg_56 ?_
                      refine WL.val (rv_move rfl) rfl ?_
                      refine WL.yes rfl rfl hg_56 ?_
                      refine WL.val (rv_len (dt := l_44) Try.underlying24 rfl) rfl ?_
                      refine WL.yes rfl rfl hg_56 ?_
                      refine WL.val (rv_gtr rfl rfl) rfl ?_
                      refine WL.val (rv_pick_f rfl hg_56 rfl) rfl ?_
                      refine WL.nil (fun a ha => ?_)
                      exact ⟨rfl, ha.sub ⟨rfl, rfl, rfl, rfl, rfl, or_f hg_56, trivial⟩⟩
                  · rintro a w' ⟨rfl, ha⟩
                    refine WL.ofJ (l := [(9, .pointer (some ⟨b_37, 0, none⟩)), (10, .slice A_34 (List.length x_27.2) k_35), (11, .slice A_45 (List.length l_44) k_46), (12, .int .i64 x_49), (13, .slice A_51 (List.length l_50) k_52), (122, .bool ((((len x_27.2) != (imin x_49 credits_6)) || (x_27.1.TxCredits != (w64 (credits_6 - (len x_27.2))))) || (decide ((len l_50) > (len l_44)))))]) ?_ ha
                    refine WL.nilThen ?_
                    refine WC.cond rfl (fun hc => ?_) (fun hc => ?_)
                    · replace hp := if_t hp hc
                      clear hc
                      refine WC.seq ?_
                      refine WC.region ?_
                      refine WL.val (rv_assign rfl) rfl ?_
                      refine WL.nilThen ?_
                      obtain rfl := some_inv' hp
                      refine WC.ret (retK (rs := [.tmp 6]) (vs := [.bool false]) rfl ⟨rv1_tmp rfl, trivial⟩ ?_)
                      have T : TR U0 [ob A_45, some b_37, ob A_51] w [] w [] := TR.pick [] rfl
                      have C' : Ctx U0 [] w0 [] _ := C.pick [] (by decide) rfl
                      clear T; replace C := C'; clear C'
                      exact ⟨_, rfl, rfl, C⟩
                    · replace hp := if_f hp hc
                      clear hc
                      refine WC.skipThen ?_
                      refine WC.seq ?_
                      refine WC.region ?_
                      refine WL.val (rv_move rfl) rfl ?_
                      refine WL.val (rv_move rfl) rfl ?_
                      refine WL.val (rv_move rfl) rfl ?_
                      refine WL.val (rv_len (dt := l_50) Try.underlying24 rfl) rfl ?_
                      have f_57 : Sl 1 (RInt .u8) (Mu U0 [some b_37, ob A_51]) _ A_45 k_46 l_44 := f_47.toSl (C.off (i := 0) rfl [1, 2] rfl (by decide)) (Mu.weaken (mem_pick [1, 2] rfl))
                      have T : TR U0 [ob A_45, some b_37, ob A_51] w [some b_37, ob A_51] w [] := TR.pick [1, 2] rfl
                      have C' : Ctx U0 [] w0 [some b_37, ob A_51] _ := C.pick [1, 2] (by decide) rfl
                      replace f_30 := T.sl f_30
                      replace f_33 := T.sl f_33
                      replace f_36 := T.sl f_36
                      replace hb_37 := T.blk ne0 hb_37
                      replace f_53 := T.own ne0 f_53
                      clear T; replace C := C'; clear C'
                      replace hp := bind_inv hp
                      obtain ⟨l_58, e_l_58, hp⟩ := hp
                      refine WL.subSl Try.underlying24 Try.sizeOf5 rfl rfl rfl (.inl ⟨rfl, rfl⟩) (.inr ⟨_, rfl⟩) f_57 e_l_58 rfl ?_
                      intro A_59 k_60 f_61
                      replace hp := bind_inv hp
                      obtain ⟨x_62, e_x_62, hp⟩ := hp
                      refine WL.call (rc_func Try.call20 rfl) (ok_wirelessref23_Same F (Mu U0 [some b_37]) _ l_50 l_58 A_51 k_52 A_59 k_60 (C.give [0] [] (by decide) rfl rfl (by decide)) (f_53.toSl (fun b h1 h2 => C.off (i := 1) rfl [0] rfl (by decide) b h1 (mu_split h2)) (mu_give [0] [] rfl rfl)) (f_61.mu (mu_give [0] [] rfl rfl)) _ e_x_62) rfl ?_
                      rintro v w ⟨rfl, D⟩
                      obtain ⟨C', T⟩ := C.join D [0, 1] [] (by decide) rfl rfl (by decide)
                      replace C' : Ctx U0 [] w0 [some b_37, ob A_51] _ := C'
                      replace T : TR U0 [some b_37, ob A_51] _ [some b_37, ob A_51] _ [] := T
                      replace f_30 := T.sl f_30
                      replace f_33 := T.sl f_33
                      replace f_36 := T.sl f_36
                      replace f_57 := T.sl f_57
                      replace f_61 := T.sl f_61
                      replace hb_37 := T.blk ne0 hb_37
                      replace f_53 := T.own ne0 f_53
                      clear T; replace C := C'; clear C'
                      clear D
                      refine WL.val (rv_move rfl) rfl ?_
                      refine WL.cutAt 10 (fun a w' => w = w' ∧ Holds 143 [(139, .bool (x_62 && (((len x_27.1.Out) == 0) == ((len x_27.2) == x_49))))] a) ?_ ?_
                      · rcases Bool.eq_false_or_eq_true (x_62) with hg_63 | hg_63
                        · refine WL.yes rfl rfl hg_63 ?_
                          refine WL.val (rv_fieldAddr FA26_10 rfl rfl) rfl ?_
                          refine WL.yes rfl rfl hg_63 ?_
                          refine WL.val (rv_load1 Try.isAgg23 rfl hb_37 rfl) rfl ?_
                          refine WL.yes rfl rfl hg_63 ?_
                          refine WL.val (rv_len (dt := x_27.1.Out) Try.underlying23 rfl) rfl ?_
                          refine WL.yes rfl rfl hg_63 ?_
                          refine WL.val (rv_eql rfl rfl) rfl ?_
                          refine WL.yes rfl rfl hg_63 ?_
                          refine WL.val (rv_move rfl) rfl ?_
                          refine WL.yes rfl rfl hg_63 ?_
                          refine WL.val (rv_len (dt := x_27.2) Try.underlying23 rfl) rfl ?_
                          refine WL.yes rfl rfl hg_63 ?_
                          refine WL.val (rv_move rfl) rfl ?_
                          refine WL.yes rfl rfl hg_63 ?_
                          refine WL.val (rv_eql rfl rfl) rfl ?_
                          refine WL.yes rfl rfl hg_63 ?_
                          refine WL.val (rv_eqlb Try.underlying4 rfl rfl) rfl ?_
                          refine WL.val (rv_pick_t rfl hg_63 rfl) rfl ?_
                          refine WL.nil (fun a ha => ?_)
                          exact ⟨rfl, ha.sub ⟨and_t hg_63, trivial⟩⟩
                        · refine WL.no rfl rfl hg_63 rfl ?_
                          refine WL.no rfl rfl hg_63 rfl ?_
                          refine WL.no rfl rfl hg_63 rfl ?_
                          refine WL.no rfl rfl hg_63 rfl ?_
                          refine WL.no rfl rfl hg_63 rfl ?_
                          refine WL.no rfl rfl hg_63 rfl ?_
                          refine WL.no rfl rfl hg_63 rfl ?_
                          refine WL.no rfl rfl hg_63 rfl ?_
                          refine WL.no rfl rfl hg_63 rfl ?_
                          refine WL.val (rv_pick_f rfl hg_63 rfl) rfl ?_
                          refine WL.nil (fun a ha => ?_)
                          exact ⟨rfl, ha.sub ⟨and_f hg_63, trivial⟩⟩
                      · rintro a w' ⟨rfl, ha⟩
                        refine WL.ofJ (l := [(139, .bool (x_62 && (((len x_27.1.Out) == 0) == ((len x_27.2) == x_49))))]) ?_ ha
                        refine WL.val (rv_move rfl) rfl ?_
                        obtain ⟨z_65, hz, hpr⟩ := bind_inv hp
                        clear hp
                        refine WL.cutAt 2 (fun a w => (True) ∧ (Holds 143 [(142, .bool z_65)] a) ∧ (Ctx U0 [] w0 [] w)) ?_ ?_
                        · have hp := hz
                          rcases Bool.eq_false_or_eq_true ((x_62 && (((len x_27.1.Out) == 0) == ((len x_27.2) == x_49)))) with hg_64 | hg_64
                          · replace hp := if_t hp hg_64
                            replace hp := bind_inv hp
                            obtain ⟨x_67, e_x_67, hp⟩ := hp
                            refine WL.yes rfl rfl hg_64 ?_
                            refine WL.call (rc_func Try.call11 rfl) (ok_wirelesslaw33_exampleHolds F (Mu U0 [some b_37, ob A_51]) _  (C.give [0, 1] [] (by decide) rfl rfl (by decide)) _ e_x_67) rfl ?_
                            rintro v w ⟨rfl, D⟩
                            obtain ⟨C', T⟩ := C.join D [0, 1] [] (by decide) rfl rfl (by decide)
                            replace C' : Ctx U0 [] w0 [some b_37, ob A_51] _ := C'
                            replace T : TR U0 [some b_37, ob A_51] _ [some b_37, ob A_51] _ [] := T
                            clear T; replace C := C'; clear C'
                            clear D
                            refine WL.val (rv_pick_t rfl hg_64 rfl) rfl ?_
                            refine WL.nil (fun a ha => ?_)
                            obtain rfl := some_inv' hp
                            have T : TR U0 [some b_37, ob A_51] w [] w [] := TR.pick [] rfl
                            have C' : Ctx U0 [] w0 [] _ := C.pick [] (by decide) rfl
                            clear T; replace C := C'; clear C'
                            exact ⟨trivial, ha.sub ⟨rfl, trivial⟩, C⟩
                          · replace hp := if_f hp hg_64
                            refine WL.no rfl rfl hg_64 rfl ?_
                            refine WL.val (rv_pick_f rfl hg_64 rfl) rfl ?_
                            refine WL.nil (fun a ha => ?_)
                            obtain rfl := some_inv' hp
                            have T : TR U0 [some b_37, ob A_51] w [] w [] := TR.pick [] rfl
                            have C' : Ctx U0 [] w0 [] _ := C.pick [] (by decide) rfl
                            clear T; replace C := C'; clear C'
                            exact ⟨trivial, ha.sub ⟨rfl, trivial⟩, C⟩
                        · rintro a w ⟨hp, ha, C⟩
                          have hp := hpr; clear hpr hz
                          refine WL.ofJ (l := [(142, .bool z_65)]) ?_ ha
                          refine WL.val (rv_assign rfl) rfl ?_
                          refine WL.nilThen ?_
                          obtain rfl := some_inv' hp
                          refine WC.ret (retK (rs := [.tmp 6]) (vs := [.bool z_65]) rfl ⟨rv1_tmp rfl, trivial⟩ ?_)
                          exact ⟨_, rfl, rfl, C⟩

theorem ok_wirelesslaw33_SduQueues (F : Nat) (U0 : Nat → Prop) (w0 : World) (c_1 : T_api_Channel) (b_8 : (List Int)) (n_12 : Int) (A_2 : Option Addr) (k_3 : Nat) (A_5 : Option Addr) (k_6 : Nat) (A_9 : Option Addr) (k_10 : Nat) (C : Ctx U0 [] w0 [] w0) (f_4 : Sl 1 (RSl 1 (RInt .u8)) (Mu U0 []) w0 A_2 k_3 c_1.Out) (f_7 : Sl 1 (RInt .u8) (Mu U0 []) w0 A_5 k_6 c_1.In) (f_11 : Sl 1 (RInt .u8) (Mu U0 []) w0 A_9 k_10 b_8) (r : Bool) (hp : wirelesslaw33_SduQueues F c_1 b_8 n_12 = some r) :
    Calls Try.prog 6 #[.agg #[.int .u16 c_1.Local, .int .u16 c_1.Remote, .int .u16 c_1.PSM, .int .i64 c_1.MTU, .int .i64 c_1.MPS, .int .i64 c_1.PeerMTU, .int .i64 c_1.PeerMPS, .int .i64 c_1.TxCredits, .int .i64 c_1.RxCredits, .int .i64 c_1.Given, .slice A_2 (List.length c_1.Out) k_3, .int .i64 c_1.Sent, .slice A_5 (List.length c_1.In) k_6, .int .i64 c_1.Want, .bool c_1.Failed], .slice A_9 (List.length b_8) k_10, .int .i64 n_12] w0 fun e w => ∃ v, e = .returned v ∧ (v = .bool r) ∧ (Ctx U0 [] w0 [] w) := by
  refine calls_enter (vs := [.agg #[.int .u16 c_1.Local, .int .u16 c_1.Remote, .int .u16 c_1.PSM, .int .i64 c_1.MTU, .int .i64 c_1.MPS, .int .i64 c_1.PeerMTU, .int .i64 c_1.PeerMPS, .int .i64 c_1.TxCredits, .int .i64 c_1.RxCredits, .int .i64 c_1.Given, .slice A_2 (List.length c_1.Out) k_3, .int .i64 c_1.Sent, .slice A_5 (List.length c_1.In) k_6, .int .i64 c_1.Want, .bool c_1.Failed], .slice A_9 (List.length b_8) k_10, .int .i64 n_12]) Try.func6 rfl Try.ntmps6 rfl ?_
  refine WC.prune (l' := [(0, .agg #[.int .u16 c_1.Local, .int .u16 c_1.Remote, .int .u16 c_1.PSM, .int .i64 c_1.MTU, .int .i64 c_1.MPS, .int .i64 c_1.PeerMTU, .int .i64 c_1.PeerMPS, .int .i64 c_1.TxCredits, .int .i64 c_1.RxCredits, .int .i64 c_1.Given, .slice A_2 (List.length c_1.Out) k_3, .int .i64 c_1.Sent, .slice A_5 (List.length c_1.In) k_6, .int .i64 c_1.Want, .bool c_1.Failed]), (1, .slice A_9 (List.length b_8) k_10), (2, .int .i64 n_12)]) ⟨rfl, rfl, rfl, trivial⟩ ?_
  skip
  refine WC.seq ?_
  refine WC.region ?_
  refine WL.world (rw_box rfl rfl C) rfl ?_
  rintro v w ⟨b_13, rfl, hb_13, C', T⟩
  replace C' : Ctx U0 [] w0 [some b_13] _ := C'
  replace T : TR U0 [] _ [some b_13] _ [] := T
  replace hb_13 : Blk _ b_13 26 [.int .u16 c_1.Local, .int .u16 c_1.Remote, .int .u16 c_1.PSM, .int .i64 c_1.MTU, .int .i64 c_1.MPS, .int .i64 c_1.PeerMTU, .int .i64 c_1.PeerMPS, .int .i64 c_1.TxCredits, .int .i64 c_1.RxCredits, .int .i64 c_1.Given, .slice A_2 (List.length c_1.Out) k_3, .int .i64 c_1.Sent, .slice A_5 (List.length c_1.In) k_6, .int .i64 c_1.Want, .bool c_1.Failed] := hb_13
  replace f_4 := T.sl f_4
  replace f_7 := T.sl f_7
  replace f_11 := T.sl f_11
  clear T; replace C := C'; clear C'
  refine WL.val (rv_assign rfl) rfl ?_
  refine WL.nilThen ?_
  refine WC.seq ?_
  refine WC.seq ?_
  refine WC.region ?_
  refine WL.val (rv_loadN Try.isAgg26 Try.sizeOf26 rfl hb_13 rfl rfl) rfl ?_
  replace hp := bind_inv hp
  obtain ⟨x_14, e_x_14, hp⟩ := hp
  refine WL.call (rc_func Try.call9 rfl) (ok_wirelesslaw33_light F (Mu U0 [some b_13]) _ c_1 A_2 k_3 A_5 k_6 (C.give [0] [] (by decide) rfl rfl (by decide)) (f_4.mu (mu_give [0] [] rfl rfl)) (f_7.mu (mu_give [0] [] rfl rfl)) _ e_x_14) rfl ?_
  rintro v w ⟨rfl, D⟩
  obtain ⟨C', T⟩ := C.join D [0] [] (by decide) rfl rfl (by decide)
  replace C' : Ctx U0 [] w0 [some b_13] _ := C'
  replace T : TR U0 [some b_13] _ [some b_13] _ [] := T
  replace f_4 := T.sl f_4
  replace f_7 := T.sl f_7
  replace f_11 := T.sl f_11
  replace hb_13 := T.blk ne0 hb_13
  clear T; replace C := C'; clear C'
  clear D
  refine WL.val (rv_not rfl) rfl ?_
  refine WL.val (rv_move rfl) rfl ?_
  refine WL.cutAt 4 (fun a w' => w = w' ∧ Holds 105 [(1, .slice A_9 (List.length b_8) k_10), (2, .int .i64 n_12), (3, .pointer (some ⟨b_13, 0, none⟩)), (18, .bool ((!x_14) || (decide ((len b_8) > 16384))))] a) ?_ ?_
  · rcases Bool.eq_false_or_eq_true ((!x_14)) with hg_15 | hg_15
    · refine WL.no rfl rfl hg_15 rfl ?_
      refine WL.no rfl rfl hg_15 rfl ?_
      refine WL.no rfl rfl hg_15 rfl ?_
      refine WL.val (rv_pick_t rfl hg_15 rfl) rfl ?_
      refine WL.nil (fun a ha => ?_)
      exact ⟨rfl, ha.sub ⟨rfl, rfl, rfl, or_t hg_15, trivial⟩⟩
    · refine WL.yes rfl rfl hg_15 ?_
      refine WL.val (rv_move rfl) rfl ?_
      refine WL.yes rfl rfl hg_15 ?_
      refine WL.val (rv_len (dt := b_8) Try.underlying24 rfl) rfl ?_
      refine WL.yes rfl rfl hg_15 ?_
      refine WL.val (rv_gtr rfl rfl) rfl ?_
      refine WL.val (rv_pick_f rfl hg_15 rfl) rfl ?_
      refine WL.nil (fun a ha => ?_)
      exact ⟨rfl, ha.sub ⟨rfl, rfl, rfl, or_f hg_15, trivial⟩⟩
  · rintro a w' ⟨rfl, ha⟩
    refine WL.ofJ (l := [(1, .slice A_9 (List.length b_8) k_10), (2, .int .i64 n_12), (3, .pointer (some ⟨b_13, 0, none⟩)), (18, .bool ((!x_14) || (decide ((len b_8) > 16384))))]) ?_ ha
    refine WL.val (rv_move rfl) rfl ?_
    obtain ⟨z_17, hz, hpr⟩ := bind_inv hp
    clear hp
    refine WL.cutAt 4 (fun a w => (True) ∧ (Holds 105 [(1, .slice A_9 (List.length b_8) k_10), (2, .int .i64 n_12), (3, .pointer (some ⟨b_13, 0, none⟩)), (23, .bool z_17)] a) ∧ (Ctx U0 [] w0 [some b_13] w) ∧ (Sl 1 (RInt .u8) (Mu U0 [some b_13]) w A_9 k_10 b_8) ∧ (Sl 1 (RSl 1 (RInt .u8)) (Mu U0 [some b_13]) w A_2 k_3 c_1.Out) ∧ (Sl 1 (RInt .u8) (Mu U0 [some b_13]) w A_5 k_6 c_1.In) ∧ (Blk w b_13 26 [.int .u16 c_1.Local, .int .u16 c_1.Remote, .int .u16 c_1.PSM, .int .i64 c_1.MTU, .int .i64 c_1.MPS, .int .i64 c_1.PeerMTU, .int .i64 c_1.PeerMPS, .int .i64 c_1.TxCredits, .int .i64 c_1.RxCredits, .int .i64 c_1.Given, .slice A_2 (List.length c_1.Out) k_3, .int .i64 c_1.Sent, .slice A_5 (List.length c_1.In) k_6, .int .i64 c_1.Want, .bool c_1.Failed])) ?_ ?_
    · have hp := hz
      rcases Bool.eq_false_or_eq_true (((!x_14) || (decide ((len b_8) > 16384)))) with hg_16 | hg_16
      · replace hp := if_t hp hg_16
        refine WL.no rfl rfl hg_16 rfl ?_
        refine WL.no rfl rfl hg_16 rfl ?_
        refine WL.no rfl rfl hg_16 rfl ?_
        refine WL.val (rv_pick_t rfl hg_16 rfl) rfl ?_
        refine WL.nil (fun a ha => ?_)
        obtain rfl := some_inv' hp
        exact ⟨trivial, ha.sub ⟨rfl, rfl, rfl, rfl, trivial⟩, C, f_11, f_4, f_7, hb_13⟩
      · replace hp := if_f hp hg_16
        refine WL.yes rfl rfl hg_16 ?_
        refine WL.val (rv_loadN Try.isAgg26 Try.sizeOf26 rfl hb_13 rfl rfl) rfl ?_
        replace hp := bind_inv hp
        obtain ⟨x_92, e_x_92, hp⟩ := hp
        refine WL.yes rfl rfl hg_16 ?_
        refine WL.call (rc_func Try.call10 rfl) (ok_wirelessref33_Check F (Mu U0 [some b_13]) _ c_1 A_2 k_3 A_5 k_6 (C.give [0] [] (by decide) rfl rfl (by decide)) (f_4.mu (mu_give [0] [] rfl rfl)) (f_7.mu (mu_give [0] [] rfl rfl)) _ e_x_92) rfl ?_
        rintro v w ⟨rfl, D⟩
        obtain ⟨C', T⟩ := C.join D [0] [] (by decide) rfl rfl (by decide)
        replace C' : Ctx U0 [] w0 [some b_13] _ := C'
        replace T : TR U0 [some b_13] _ [some b_13] _ [] := T
        replace f_4 := T.sl f_4
        replace f_7 := T.sl f_7
        replace f_11 := T.sl f_11
        replace hb_13 := T.blk ne0 hb_13
        clear T; replace C := C'; clear C'
        clear D
        refine WL.yes rfl rfl hg_16 ?_
        refine WL.val (rv_neq rfl rfl) rfl ?_
        refine WL.val (rv_pick_f rfl hg_16 rfl) rfl ?_
        refine WL.nil (fun a ha => ?_)
        obtain rfl := some_inv' hp
        exact ⟨trivial, ha.sub ⟨rfl, rfl, rfl, rfl, trivial⟩, C, f_11, f_4, f_7, hb_13⟩
    · rintro a w ⟨hp, ha, C, f_11, f_4, f_7, hb_13⟩
      have hp := hpr; clear hpr hz
      refine WL.ofJ (l := [(1, .slice A_9 (List.length b_8) k_10), (2, .int .i64 n_12), (3, .pointer (some ⟨b_13, 0, none⟩)), (23, .bool z_17)]) ?_ ha
      refine WL.nilThen ?_
      refine WC.cond rfl (fun hc => ?_) (fun hc => ?_)
      · replace hp := if_t hp hc
        clear hc
        refine WC.seq ?_
        refine WC.region ?_
        replace hp := bind_inv hp
        obtain ⟨x_18, e_x_18, hp⟩ := hp
        refine WL.call (rc_func Try.call11 rfl) (ok_wirelesslaw33_exampleHolds F (Mu U0 [some b_13]) _  (C.give [0] [] (by decide) rfl rfl (by decide)) _ e_x_18) rfl ?_
        rintro v w ⟨rfl, D⟩
        obtain ⟨C', T⟩ := C.join D [0] [] (by decide) rfl rfl (by decide)
        replace C' : Ctx U0 [] w0 [some b_13] _ := C'
        replace T : TR U0 [some b_13] _ [some b_13] _ [] := T
        replace f_11 := T.sl f_11
        replace f_4 := T.sl f_4
        replace f_7 := T.sl f_7
        replace hb_13 := T.blk ne0 hb_13
        clear T; replace C := C'; clear C'
        clear D
        refine WL.val (rv_assign rfl) rfl ?_
        refine WL.nilThen ?_
        obtain rfl := some_inv' hp
        refine WC.ret (retK (rs := [.tmp 6]) (vs := [.bool x_18]) rfl ⟨rv1_tmp rfl, trivial⟩ ?_)
        have T : TR U0 [some b_13] w [] w [] := TR.pick [] rfl
        have C' : Ctx U0 [] w0 [] _ := C.pick [] (by decide) rfl
        clear T; replace C := C'; clear C'
        exact ⟨_, rfl, rfl, C⟩
      · replace hp := if_f hp hc
        clear hc
        refine WC.skipThen ?_
        refine WC.seq ?_
        refine WC.region ?_
        refine WL.val (rv_loadN Try.isAgg26 Try.sizeOf26 rfl hb_13 rfl rfl) rfl ?_
        refine WL.val (rv_move rfl) rfl ?_
        replace hp := bind_inv hp
        obtain ⟨x_19, e_x_19, hp⟩ := hp
        refine WL.call (rc_func Try.call18 rfl) (ok_sdu_Queue F (Mu U0 [some b_13]) _ c_1 b_8 A_2 k_3 A_5 k_6 A_9 k_10 (C.give [0] [] (by decide) rfl rfl (by decide)) (f_4.mu (mu_give [0] [] rfl rfl)) (f_7.mu (mu_give [0] [] rfl rfl)) (f_11.mu (mu_give [0] [] rfl rfl)) _ e_x_19) rfl ?_
        rintro v w ⟨A_20, k_21, A_23, k_24, rfl, D, f_22, f_25⟩
        obtain ⟨C', T⟩ := C.join D [0] [] (by decide) rfl rfl (by decide)
        replace C' : Ctx U0 [] w0 [some b_13] _ := C'
        replace T : TR U0 [some b_13] _ [some b_13] _ [] := T
        replace f_22 : Sl 1 (RSl 1 (RInt .u8)) (Mu U0 [some b_13]) _ A_20 k_21 x_19.1.Out := f_22.mu (mu_join (R := []) (L2 := [some b_13]) (fun b h => h))
        replace f_25 : Sl 1 (RInt .u8) (Mu U0 [some b_13]) _ A_23 k_24 x_19.1.In := f_25.mu (mu_join (R := []) (L2 := [some b_13]) (fun b h => h))
        replace f_11 := T.sl f_11
        replace f_4 := T.sl f_4
        replace f_7 := T.sl f_7
        replace hb_13 := T.blk ne0 hb_13
        clear T; replace C := C'; clear C'
        clear D
        refine WL.val (rv_move rfl) rfl ?_
        refine WL.val (rv_extract rfl rfl) rfl ?_
        refine WL.val (rv_extract rfl rfl) rfl ?_
        refine WL.world (rw_alloc Try.zeroValue26 rfl C) rfl ?_
        rintro v w ⟨b_26, rfl, hb_26, C', T⟩
        replace C' : Ctx U0 [] w0 [some b_26, some b_13] _ := C'
        replace T : TR U0 [some b_13] _ [some b_26, some b_13] _ [] := T
        replace hb_26 : Blk _ b_26 26 [.int .u16 0, .int .u16 0, .int .u16 0, .int .i64 0, .int .i64 0, .int .i64 0, .int .i64 0, .int .i64 0, .int .i64 0, .int .i64 0, .slice none 0 0, .int .i64 0, .slice none 0 0, .int .i64 0, .bool false] := hb_26
        replace f_11 := T.sl f_11
        replace f_4 := T.sl f_4
        replace f_7 := T.sl f_7
        replace f_22 := T.sl f_22
        replace f_25 := T.sl f_25
        replace hb_13 := T.blk ne0 hb_13
        clear T; replace C := C'; clear C'
        refine WL.storeK (rs_store (i := 0) (cs' := [.int .u16 x_19.1.Local, .int .u16 x_19.1.Remote, .int .u16 x_19.1.PSM, .int .i64 x_19.1.MTU, .int .i64 x_19.1.MPS, .int .i64 x_19.1.PeerMTU, .int .i64 x_19.1.PeerMPS, .int .i64 x_19.1.TxCredits, .int .i64 x_19.1.RxCredits, .int .i64 x_19.1.Given, .slice A_20 (List.length x_19.1.Out) k_21, .int .i64 x_19.1.Sent, .slice A_23 (List.length x_19.1.In) k_24, .int .i64 x_19.1.Want, .bool x_19.1.Failed]) Try.sizeOf26 rfl rfl rfl rfl rfl hb_26 rfl C rfl rfl) ?_
        rintro w ⟨hb_26, C', T⟩
        replace f_11 := T.sl f_11
        replace f_4 := T.sl f_4
        replace f_7 := T.sl f_7
        replace f_22 := T.sl f_22
        replace f_25 := T.sl f_25
        replace hb_13 := T.blk (C.ne (i := 1) rfl [0] rfl (by decide)) hb_13
        clear T; replace C := C'; clear C'
        refine WL.val (rv_assign rfl) rfl ?_
        refine WL.nilThen ?_
        refine WC.seq ?_
        refine WC.region ?_
        refine WL.val (rv_loadN Try.isAgg26 Try.sizeOf26 rfl hb_13 rfl rfl) rfl ?_
        refine WL.val (rv_move rfl) rfl ?_
        replace hp := bind_inv hp
        obtain ⟨x_27, e_x_27, hp⟩ := hp
        refine WL.call (rc_func Try.call21 rfl) (ok_wirelessref33_Queue F (Mu U0 [some b_26, some b_13]) _ c_1 b_8 A_2 k_3 A_5 k_6 A_9 k_10 (C.give [0, 1] [] (by decide) rfl rfl (by decide)) (f_4.mu (mu_give [0, 1] [] rfl rfl)) (f_7.mu (mu_give [0, 1] [] rfl rfl)) (f_11.mu (mu_give [0, 1] [] rfl rfl)) _ e_x_27) rfl ?_
        rintro v w ⟨A_28, k_29, A_31, k_32, rfl, D, f_30, f_33⟩
        obtain ⟨C', T⟩ := C.join D [0, 1] [] (by decide) rfl rfl (by decide)
        replace C' : Ctx U0 [] w0 [some b_26, some b_13] _ := C'
        replace T : TR U0 [some b_26, some b_13] _ [some b_26, some b_13] _ [] := T
        replace f_30 : Sl 1 (RSl 1 (RInt .u8)) (Mu U0 [some b_26, some b_13]) _ A_28 k_29 x_27.1.Out := f_30.mu (mu_join (R := []) (L2 := [some b_26, some b_13]) (fun b h => h))
        replace f_33 : Sl 1 (RInt .u8) (Mu U0 [some b_26, some b_13]) _ A_31 k_32 x_27.1.In := f_33.mu (mu_join (R := []) (L2 := [some b_26, some b_13]) (fun b h => h))
        replace f_11 := T.sl f_11
        replace f_4 := T.sl f_4
        replace f_7 := T.sl f_7
        replace f_22 := T.sl f_22
        replace f_25 := T.sl f_25
        replace hb_13 := T.blk ne0 hb_13
        replace hb_26 := T.blk ne0 hb_26
        clear T; replace C := C'; clear C'
        clear D
        refine WL.val (rv_move rfl) rfl ?_
        refine WL.val (rv_extract rfl rfl) rfl ?_
        refine WL.val (rv_extract rfl rfl) rfl ?_
        refine WL.world (rw_alloc Try.zeroValue26 rfl C) rfl ?_
        rintro v w ⟨b_34, rfl, hb_34, C', T⟩
        replace C' : Ctx U0 [] w0 [some b_34, some b_26, some b_13] _ := C'
        replace T : TR U0 [some b_26, some b_13] _ [some b_34, some b_26, some b_13] _ [] := T
        replace hb_34 : Blk _ b_34 26 [.int .u16 0, .int .u16 0, .int .u16 0, .int .i64 0, .int .i64 0, .int .i64 0, .int .i64 0, .int .i64 0, .int .i64 0, .int .i64 0, .slice none 0 0, .int .i64 0, .slice none 0 0, .int .i64 0, .bool false] := hb_34
        replace f_11 := T.sl f_11
        replace f_4 := T.sl f_4
        replace f_7 := T.sl f_7
        replace f_22 := T.sl f_22
        replace f_25 := T.sl f_25
        replace f_30 := T.sl f_30
        replace f_33 := T.sl f_33
        replace hb_13 := T.blk ne0 hb_13
        replace hb_26 := T.blk ne0 hb_26
        clear T; replace C := C'; clear C'
        refine WL.storeK (rs_store (i := 0) (cs' := [.int .u16 x_27.1.Local, .int .u16 x_27.1.Remote, .int .u16 x_27.1.PSM, .int .i64 x_27.1.MTU, .int .i64 x_27.1.MPS, .int .i64 x_27.1.PeerMTU, .int .i64 x_27.1.PeerMPS, .int .i64 x_27.1.TxCredits, .int .i64 x_27.1.RxCredits, .int .i64 x_27.1.Given, .slice A_28 (List.length x_27.1.Out) k_29, .int .i64 x_27.1.Sent, .slice A_31 (List.length x_27.1.In) k_32, .int .i64 x_27.1.Want, .bool x_27.1.Failed]) Try.sizeOf26 rfl rfl rfl rfl rfl hb_34 rfl C rfl rfl) ?_
        rintro w ⟨hb_34, C', T⟩
        replace f_11 := T.sl f_11
        replace f_4 := T.sl f_4
        replace f_7 := T.sl f_7
        replace f_22 := T.sl f_22
        replace f_25 := T.sl f_25
        replace f_30 := T.sl f_30
        replace f_33 := T.sl f_33
        replace hb_13 := T.blk (C.ne (i := 2) rfl [0] rfl (by decide)) hb_13
        replace hb_26 := T.blk (C.ne (i := 1) rfl [0] rfl (by decide)) hb_26
        clear T; replace C := C'; clear C'
        refine WL.val (rv_assign rfl) rfl ?_
        refine WL.nilThen ?_
        refine WC.seq ?_
        refine WC.seq ?_
        refine WC.region ?_
        refine WL.val (rv_move rfl) rfl ?_
        refine WL.val (rv_move rfl) rfl ?_
        refine WL.val (rv_neq rfl rfl) rfl ?_
        refine WL.val (rv_move rfl) rfl ?_
        obtain ⟨z_36, hz, hpr⟩ := bind_inv hp
        clear hp
        refine WL.cutAt 5 (fun a w => (True) ∧ (Holds 105 [(2, .int .i64 n_12), (3, .pointer (some ⟨b_13, 0, none⟩)), (7, .pointer (some ⟨b_26, 0, none⟩)), (9, .pointer (some ⟨b_34, 0, none⟩)), (45, .bool z_36)] a) ∧ (Ctx U0 [] w0 [some b_34, some b_26, some b_13] w) ∧ (Sl 1 (RSl 1 (RInt .u8)) (Mu U0 [some b_34, some b_26, some b_13]) w A_2 k_3 c_1.Out) ∧ (Sl 1 (RInt .u8) (Mu U0 [some b_34, some b_26, some b_13]) w A_5 k_6 c_1.In) ∧ (Sl 1 (RSl 1 (RInt .u8)) (Mu U0 [some b_34, some b_26, some b_13]) w A_20 k_21 x_19.1.Out) ∧ (Sl 1 (RInt .u8) (Mu U0 [some b_34, some b_26, some b_13]) w A_23 k_24 x_19.1.In) ∧ (Sl 1 (RSl 1 (RInt .u8)) (Mu U0 [some b_34, some b_26, some b_13]) w A_28 k_29 x_27.1.Out) ∧ (Sl 1 (RInt .u8) (Mu U0 [some b_34, some b_26, some b_13]) w A_31 k_32 x_27.1.In) ∧ (Blk w b_13 26 [.int .u16 c_1.Local, .int .u16 c_1.Remote, .int .u16 c_1.PSM, .int .i64 c_1.MTU, .int .i64 c_1.MPS, .int .i64 c_1.PeerMTU, .int .i64 c_1.PeerMPS, .int .i64 c_1.TxCredits, .int .i64 c_1.RxCredits, .int .i64 c_1.Given, .slice A_2 (List.length c_1.Out) k_3, .int .i64 c_1.Sent, .slice A_5 (List.length c_1.In) k_6, .int .i64 c_1.Want, .bool c_1.Failed]) ∧ (Blk w b_26 26 [.int .u16 x_19.1.Local, .int .u16 x_19.1.Remote, .int .u16 x_19.1.PSM, .int .i64 x_19.1.MTU, .int .i64 x_19.1.MPS, .int .i64 x_19.1.PeerMTU, .int .i64 x_19.1.PeerMPS, .int .i64 x_19.1.TxCredits, .int .i64 x_19.1.RxCredits, .int .i64 x_19.1.Given, .slice A_20 (List.length x_19.1.Out) k_21, .int .i64 x_19.1.Sent, .slice A_23 (List.length x_19.1.In) k_24, .int .i64 x_19.1.Want, .bool x_19.1.Failed]) ∧ (Blk w b_34 26 [.int .u16 x_27.1.Local, .int .u16 x_27.1.Remote, .int .u16 x_27.1.PSM, .int .i64 x_27.1.MTU, .int .i64 x_27.1.MPS, .int .i64 x_27.1.PeerMTU, .int .i64 x_27.1.PeerMPS, .int .i64 x_27.1.TxCredits, .int .i64 x_27.1.RxCredits, .int .i64 x_27.1.Given, .slice A_28 (List.length x_27.1.Out) k_29, .int .i64 x_27.1.Sent, .slice A_31 (List.length x_27.1.In) k_32, .int .i64 x_27.1.Want, .bool x_27.1.Failed])) ?_ ?_
        · have hp := hz
          rcases Bool.eq_false_or_eq_true ((x_19.2 != x_27.2)) with hg_35 | hg_35
          · replace hp := if_t hp hg_35
            refine WL.no rfl rfl hg_35 rfl ?_
            refine WL.no rfl rfl hg_35 rfl ?_
            refine WL.no rfl rfl hg_35 rfl ?_
            refine WL.no rfl rfl hg_35 rfl ?_
            refine WL.val (rv_pick_t rfl hg_35 rfl) rfl ?_
            refine WL.nil (fun a ha => ?_)
            obtain rfl := some_inv' hp
            exact ⟨trivial, ha.sub ⟨rfl, rfl, rfl, rfl, rfl, trivial⟩, C, f_4, f_7, f_22, f_25, f_30, f_33, hb_13, hb_26, hb_34⟩
          · replace hp := if_f hp hg_35
            refine WL.yes rfl rfl hg_35 ?_
            refine WL.val (rv_loadN Try.isAgg26 Try.sizeOf26 rfl hb_26 rfl rfl) rfl ?_
            refine WL.yes rfl rfl hg_35 ?_
            refine WL.val (rv_loadN Try.isAgg26 Try.sizeOf26 rfl hb_34 rfl rfl) rfl ?_
            replace hp := bind_inv hp
            obtain ⟨x_90, e_x_90, hp⟩ := hp
            refine WL.yes rfl rfl hg_35 ?_
            refine WL.call (rc_func Try.call14 rfl) (ok_wirelessref33_SameChannel F (Mu U0 [some b_34, some b_26, some b_13]) _ x_19.1 x_27.1 A_20 k_21 A_23 k_24 A_28 k_29 A_31 k_32 (C.give [0, 1, 2] [] (by decide) rfl rfl (by decide)) (f_22.mu (mu_give [0, 1, 2] [] rfl rfl)) (f_25.mu (mu_give [0, 1, 2] [] rfl rfl)) (f_30.mu (mu_give [0, 1, 2] [] rfl rfl)) (f_33.mu (mu_give [0, 1, 2] [] rfl rfl)) _ e_x_90) rfl ?_
            rintro v w ⟨rfl, D⟩
            obtain ⟨C', T⟩ := C.join D [0, 1, 2] [] (by decide) rfl rfl (by decide)
            replace C' : Ctx U0 [] w0 [some b_34, some b_26, some b_13] _ := C'
            replace T : TR U0 [some b_34, some b_26, some b_13] _ [some b_34, some b_26, some b_13] _ [] := T
            replace f_4 := T.sl f_4
            replace f_7 := T.sl f_7
            replace f_22 := T.sl f_22
            replace f_25 := T.sl f_25
            replace f_30 := T.sl f_30
            replace f_33 := T.sl f_33
            replace hb_13 := T.blk ne0 hb_13
            replace hb_26 := T.blk ne0 hb_26
            replace hb_34 := T.blk ne0 hb_34
            clear T; replace C := C'; clear C'
            clear D
            refine WL.yes rfl rfl hg_35 ?_
            refine WL.val (rv_not rfl) rfl ?_
            refine WL.val (rv_pick_f rfl hg_35 rfl) rfl ?_
            refine WL.nil (fun a ha => ?_)
            obtain rfl := some_inv' hp
            exact ⟨trivial, ha.sub ⟨rfl, rfl, rfl, rfl, rfl, trivial⟩, C, f_4, f_7, f_22, f_25, f_30, f_33, hb_13, hb_26, hb_34⟩
        · rintro a w ⟨hp, ha, C, f_4, f_7, f_22, f_25, f_30, f_33, hb_13, hb_26, hb_34⟩
          have hp := hpr; clear hpr hz
          refine WL.ofJ (l := [(2, .int .i64 n_12), (3, .pointer (some ⟨b_13, 0, none⟩)), (7, .pointer (some ⟨b_26, 0, none⟩)), (9, .pointer (some ⟨b_34, 0, none⟩)), (45, .bool z_36)]) ?_ ha
          refine WL.val (rv_move rfl) rfl ?_
          obtain ⟨z_38, hz, hpr⟩ := bind_inv hp
          clear hp
          refine WL.cutAt 4 (fun a w => (True) ∧ (Holds 105 [(2, .int .i64 n_12), (3, .pointer (some ⟨b_13, 0, none⟩)), (7, .pointer (some ⟨b_26, 0, none⟩)), (9, .pointer (some ⟨b_34, 0, none⟩)), (50, .bool z_38)] a) ∧ (Ctx U0 [] w0 [some b_34, some b_26, some b_13] w) ∧ (Sl 1 (RSl 1 (RInt .u8)) (Mu U0 [some b_34, some b_26, some b_13]) w A_2 k_3 c_1.Out) ∧ (Sl 1 (RInt .u8) (Mu U0 [some b_34, some b_26, some b_13]) w A_5 k_6 c_1.In) ∧ (Sl 1 (RSl 1 (RInt .u8)) (Mu U0 [some b_34, some b_26, some b_13]) w A_20 k_21 x_19.1.Out) ∧ (Sl 1 (RInt .u8) (Mu U0 [some b_34, some b_26, some b_13]) w A_23 k_24 x_19.1.In) ∧ (Sl 1 (RSl 1 (RInt .u8)) (Mu U0 [some b_34, some b_26, some b_13]) w A_28 k_29 x_27.1.Out) ∧ (Sl 1 (RInt .u8) (Mu U0 [some b_34, some b_26, some b_13]) w A_31 k_32 x_27.1.In) ∧ (Blk w b_13 26 [.int .u16 c_1.Local, .int .u16 c_1.Remote, .int .u16 c_1.PSM, .int .i64 c_1.MTU, .int .i64 c_1.MPS, .int .i64 c_1.PeerMTU, .int .i64 c_1.PeerMPS, .int .i64 c_1.TxCredits, .int .i64 c_1.RxCredits, .int .i64 c_1.Given, .slice A_2 (List.length c_1.Out) k_3, .int .i64 c_1.Sent, .slice A_5 (List.length c_1.In) k_6, .int .i64 c_1.Want, .bool c_1.Failed]) ∧ (Blk w b_26 26 [.int .u16 x_19.1.Local, .int .u16 x_19.1.Remote, .int .u16 x_19.1.PSM, .int .i64 x_19.1.MTU, .int .i64 x_19.1.MPS, .int .i64 x_19.1.PeerMTU, .int .i64 x_19.1.PeerMPS, .int .i64 x_19.1.TxCredits, .int .i64 x_19.1.RxCredits, .int .i64 x_19.1.Given, .slice A_20 (List.length x_19.1.Out) k_21, .int .i64 x_19.1.Sent, .slice A_23 (List.length x_19.1.In) k_24, .int .i64 x_19.1.Want, .bool x_19.1.Failed]) ∧ (Blk w b_34 26 [.int .u16 x_27.1.Local, .int .u16 x_27.1.Remote, .int .u16 x_27.1.PSM, .int .i64 x_27.1.MTU, .int .i64 x_27.1.MPS, .int .i64 x_27.1.PeerMTU, .int .i64 x_27.1.PeerMPS, .int .i64 x_27.1.TxCredits, .int .i64 x_27.1.RxCredits, .int .i64 x_27.1.Given, .slice A_28 (List.length x_27.1.Out) k_29, .int .i64 x_27.1.Sent, .slice A_31 (List.length x_27.1.In) k_32, .int .i64 x_27.1.Want, .bool x_27.1.Failed])) ?_ ?_
          · have hp := hz
            rcases Bool.eq_false_or_eq_true (z_36) with hg_37 | hg_37
            · replace hp := if_t hp hg_37
              refine WL.no rfl rfl hg_37 rfl ?_
              refine WL.no rfl rfl hg_37 rfl ?_
              refine WL.no rfl rfl hg_37 rfl ?_
              refine WL.val (rv_pick_t rfl hg_37 rfl) rfl ?_
              refine WL.nil (fun a ha => ?_)
              obtain rfl := some_inv' hp
              exact ⟨trivial, ha.sub ⟨rfl, rfl, rfl, rfl, rfl, trivial⟩, C, f_4, f_7, f_22, f_25, f_30, f_33, hb_13, hb_26, hb_34⟩
            · replace hp := if_f hp hg_37
              refine WL.yes rfl rfl hg_37 ?_
              refine WL.val (rv_loadN Try.isAgg26 Try.sizeOf26 rfl hb_26 rfl rfl) rfl ?_
              replace hp := bind_inv hp
              obtain ⟨x_88, e_x_88, hp⟩ := hp
              refine WL.yes rfl rfl hg_37 ?_
              refine WL.call (rc_func Try.call10 rfl) (ok_wirelessref33_Check F (Mu U0 [some b_34, some b_26, some b_13]) _ x_19.1 A_20 k_21 A_23 k_24 (C.give [0, 1, 2] [] (by decide) rfl rfl (by decide)) (f_22.mu (mu_give [0, 1, 2] [] rfl rfl)) (f_25.mu (mu_give [0, 1, 2] [] rfl rfl)) _ e_x_88) rfl ?_
              rintro v w ⟨rfl, D⟩
              obtain ⟨C', T⟩ := C.join D [0, 1, 2] [] (by decide) rfl rfl (by decide)
              replace C' : Ctx U0 [] w0 [some b_34, some b_26, some b_13] _ := C'
              replace T : TR U0 [some b_34, some b_26, some b_13] _ [some b_34, some b_26, some b_13] _ [] := T
              replace f_4 := T.sl f_4
              replace f_7 := T.sl f_7
              replace f_22 := T.sl f_22
              replace f_25 := T.sl f_25
              replace f_30 := T.sl f_30
              replace f_33 := T.sl f_33
              replace hb_13 := T.blk ne0 hb_13
              replace hb_26 := T.blk ne0 hb_26
              replace hb_34 := T.blk ne0 hb_34
              clear T; replace C := C'; clear C'
              clear D
              refine WL.yes rfl rfl hg_37 ?_
              refine WL.val (rv_neq rfl rfl) rfl ?_
              refine WL.val (rv_pick_f rfl hg_37 rfl) rfl ?_
              refine WL.nil (fun a ha => ?_)
              obtain rfl := some_inv' hp
              exact ⟨trivial, ha.sub ⟨rfl, rfl, rfl, rfl, rfl, trivial⟩, C, f_4, f_7, f_22, f_25, f_30, f_33, hb_13, hb_26, hb_34⟩
          · rintro a w ⟨hp, ha, C, f_4, f_7, f_22, f_25, f_30, f_33, hb_13, hb_26, hb_34⟩
            have hp := hpr; clear hpr hz
            refine WL.ofJ (l := [(2, .int .i64 n_12), (3, .pointer (some ⟨b_13, 0, none⟩)), (7, .pointer (some ⟨b_26, 0, none⟩)), (9, .pointer (some ⟨b_34, 0, none⟩)), (50, .bool z_38)]) ?_ ha
            refine WL.nilThen ?_
            refine WC.cond rfl (fun hc => ?_) (fun hc => ?_)
            · replace hp := if_t hp hc
              clear hc
              refine WC.seq ?_
              refine WC.region ?_
              refine WL.val (rv_assign rfl) rfl ?_
              refine WL.nilThen ?_
              obtain rfl := some_inv' hp
              refine WC.ret (retK (rs := [.tmp 6]) (vs := [.bool false]) rfl ⟨rv1_tmp rfl, trivial⟩ ?_)
              have T : TR U0 [some b_34, some b_26, some b_13] w [] w [] := TR.pick [] rfl
              have C' : Ctx U0 [] w0 [] _ := C.pick [] (by decide) rfl
              clear T; replace C := C'; clear C'
              exact ⟨_, rfl, rfl, C⟩
            · replace hp := if_f hp hc
              clear hc
              refine WC.skipThen ?_
              refine WC.seq ?_
              refine WC.region ?_
              refine WL.val (rv_loadN Try.isAgg26 Try.sizeOf26 rfl hb_13 rfl rfl) rfl ?_
              refine WL.val (rv_move rfl) rfl ?_
              replace hp := bind_inv hp
              obtain ⟨x_39, e_x_39, hp⟩ := hp
              refine WL.call (rc_func Try.call22 rfl) (ok_sdu_Grant F (Mu U0 [some b_34, some b_26, some b_13]) _ c_1 n_12 A_2 k_3 A_5 k_6 (C.give [0, 1, 2] [] (by decide) rfl rfl (by decide)) (f_4.mu (mu_give [0, 1, 2] [] rfl rfl)) (f_7.mu (mu_give [0, 1, 2] [] rfl rfl)) _ e_x_39) rfl ?_
              rintro v w ⟨A_40, k_41, A_43, k_44, rfl, D, f_42, f_45⟩
              obtain ⟨C', T⟩ := C.join D [0, 1, 2] [] (by decide) rfl rfl (by decide)
              replace C' : Ctx U0 [] w0 [some b_34, some b_26, some b_13] _ := C'
              replace T : TR U0 [some b_34, some b_26, some b_13] _ [some b_34, some b_26, some b_13] _ [] := T
              replace f_42 : Sl 1 (RSl 1 (RInt .u8)) (Mu U0 [some b_34, some b_26, some b_13]) _ A_40 k_41 x_39.1.Out := f_42.mu (mu_join (R := []) (L2 := [some b_34, some b_26, some b_13]) (fun b h => h))
              replace f_45 : Sl 1 (RInt .u8) (Mu U0 [some b_34, some b_26, some b_13]) _ A_43 k_44 x_39.1.In := f_45.mu (mu_join (R := []) (L2 := [some b_34, some b_26, some b_13]) (fun b h => h))
              replace f_4 := T.sl f_4
              replace f_7 := T.sl f_7
              replace f_22 := T.sl f_22
              replace f_25 := T.sl f_25
              replace f_30 := T.sl f_30
              replace f_33 := T.sl f_33
              replace hb_13 := T.blk ne0 hb_13
              replace hb_26 := T.blk ne0 hb_26
              replace hb_34 := T.blk ne0 hb_34
              clear T; replace C := C'; clear C'
              clear D
              refine WL.val (rv_move rfl) rfl ?_
              refine WL.val (rv_extract rfl rfl) rfl ?_
              refine WL.val (rv_extract rfl rfl) rfl ?_
              refine WL.storeK (rs_store (i := 1) (cs' := [.int .u16 x_39.1.Local, .int .u16 x_39.1.Remote, .int .u16 x_39.1.PSM, .int .i64 x_39.1.MTU, .int .i64 x_39.1.MPS, .int .i64 x_39.1.PeerMTU, .int .i64 x_39.1.PeerMPS, .int .i64 x_39.1.TxCredits, .int .i64 x_39.1.RxCredits, .int .i64 x_39.1.Given, .slice A_40 (List.length x_39.1.Out) k_41, .int .i64 x_39.1.Sent, .slice A_43 (List.length x_39.1.In) k_44, .int .i64 x_39.1.Want, .bool x_39.1.Failed]) Try.sizeOf26 rfl rfl rfl rfl rfl hb_26 rfl C rfl rfl) ?_
              rintro w ⟨hb_26, C', T⟩
              replace f_4 := T.sl f_4
              replace f_7 := T.sl f_7
              replace f_22 := T.sl f_22
              replace f_25 := T.sl f_25
              replace f_30 := T.sl f_30
              replace f_33 := T.sl f_33
              replace f_42 := T.sl f_42
              replace f_45 := T.sl f_45
              replace hb_13 := T.blk (C.ne (i := 2) rfl [1] rfl (by decide)) hb_13
              replace hb_34 := T.blk (C.ne (i := 0) rfl [1] rfl (by decide)) hb_34
              clear T; replace C := C'; clear C'
              refine WL.val (rv_assign rfl) rfl ?_
              refine WL.nilThen ?_
              refine WC.seq ?_
              refine WC.region ?_
              refine WL.val (rv_loadN Try.isAgg26 Try.sizeOf26 rfl hb_13 rfl rfl) rfl ?_
              refine WL.val (rv_move rfl) rfl ?_
              replace hp := bind_inv hp
              obtain ⟨x_46, e_x_46, hp⟩ := hp
              refine WL.call (rc_func Try.call23 rfl) (ok_wirelessref33_Grant F (Mu U0 [some b_34, some b_26, some b_13]) _ c_1 n_12 A_2 k_3 A_5 k_6 (C.give [0, 1, 2] [] (by decide) rfl rfl (by decide)) (f_4.mu (mu_give [0, 1, 2] [] rfl rfl)) (f_7.mu (mu_give [0, 1, 2] [] rfl rfl)) _ e_x_46) rfl ?_
              rintro v w ⟨A_47, k_48, A_50, k_51, rfl, D, f_49, f_52⟩
              obtain ⟨C', T⟩ := C.join D [0, 1, 2] [] (by decide) rfl rfl (by decide)
              replace C' : Ctx U0 [] w0 [some b_34, some b_26, some b_13] _ := C'
              replace T : TR U0 [some b_34, some b_26, some b_13] _ [some b_34, some b_26, some b_13] _ [] := T
              replace f_49 : Sl 1 (RSl 1 (RInt .u8)) (Mu U0 [some b_34, some b_26, some b_13]) _ A_47 k_48 x_46.1.Out := f_49.mu (mu_join (R := []) (L2 := [some b_34, some b_26, some b_13]) (fun b h => h))
              replace f_52 : Sl 1 (RInt .u8) (Mu U0 [some b_34, some b_26, some b_13]) _ A_50 k_51 x_46.1.In := f_52.mu (mu_join (R := []) (L2 := [some b_34, some b_26, some b_13]) (fun b h => h))
              replace f_4 := T.sl f_4
              replace f_7 := T.sl f_7
              replace f_30 := T.sl f_30
              replace f_33 := T.sl f_33
              replace f_42 := T.sl f_42
              replace f_45 := T.sl f_45
              replace hb_13 := T.blk ne0 hb_13
              replace hb_26 := T.blk ne0 hb_26
              replace hb_34 := T.blk ne0 hb_34
              clear T; replace C := C'; clear C'
              clear D
              refine WL.val (rv_move rfl) rfl ?_
              refine WL.val (rv_extract rfl rfl) rfl ?_
              refine WL.val (rv_extract rfl rfl) rfl ?_
              refine WL.storeK (rs_store (i := 0) (cs' := [.int .u16 x_46.1.Local, .int .u16 x_46.1.Remote, .int .u16 x_46.1.PSM, .int .i64 x_46.1.MTU, .int .i64 x_46.1.MPS, .int .i64 x_46.1.PeerMTU, .int .i64 x_46.1.PeerMPS, .int .i64 x_46.1.TxCredits, .int .i64 x_46.1.RxCredits, .int .i64 x_46.1.Given, .slice A_47 (List.length x_46.1.Out) k_48, .int .i64 x_46.1.Sent, .slice A_50 (List.length x_46.1.In) k_51, .int .i64 x_46.1.Want, .bool x_46.1.Failed]) Try.sizeOf26 rfl rfl rfl rfl rfl hb_34 rfl C rfl rfl) ?_
              rintro w ⟨hb_34, C', T⟩
              replace f_4 := T.sl f_4
              replace f_7 := T.sl f_7
              replace f_30 := T.sl f_30
              replace f_33 := T.sl f_33
              replace f_42 := T.sl f_42
              replace f_45 := T.sl f_45
              replace f_49 := T.sl f_49
              replace f_52 := T.sl f_52
              replace hb_13 := T.blk (C.ne (i := 2) rfl [0] rfl (by decide)) hb_13
              replace hb_26 := T.blk (C.ne (i := 1) rfl [0] rfl (by decide)) hb_26
              clear T; replace C := C'; clear C'
              refine WL.val (rv_assign rfl) rfl ?_
              refine WL.nilThen ?_
              refine WC.seq ?_
              refine WC.seq ?_
              refine WC.region ?_
              refine WL.val (rv_move rfl) rfl ?_
              refine WL.val (rv_move rfl) rfl ?_
              refine WL.val (rv_neq rfl rfl) rfl ?_
              refine WL.val (rv_move rfl) rfl ?_
              obtain ⟨z_54, hz, hpr⟩ := bind_inv hp
              clear hp
              refine WL.cutAt 5 (fun a w => (True) ∧ (Holds 105 [(2, .int .i64 n_12), (3, .pointer (some ⟨b_13, 0, none⟩)), (7, .pointer (some ⟨b_26, 0, none⟩)), (9, .pointer (some ⟨b_34, 0, none⟩)), (71, .bool z_54)] a) ∧ (Ctx U0 [] w0 [some b_34, some b_26, some b_13] w) ∧ (Sl 1 (RSl 1 (RInt .u8)) (Mu U0 [some b_34, some b_26, some b_13]) w A_2 k_3 c_1.Out) ∧ (Sl 1 (RInt .u8) (Mu U0 [some b_34, some b_26, some b_13]) w A_5 k_6 c_1.In) ∧ (Sl 1 (RSl 1 (RInt .u8)) (Mu U0 [some b_34, some b_26, some b_13]) w A_40 k_41 x_39.1.Out) ∧ (Sl 1 (RInt .u8) (Mu U0 [some b_34, some b_26, some b_13]) w A_43 k_44 x_39.1.In) ∧ (Sl 1 (RSl 1 (RInt .u8)) (Mu U0 [some b_34, some b_26, some b_13]) w A_47 k_48 x_46.1.Out) ∧ (Sl 1 (RInt .u8) (Mu U0 [some b_34, some b_26, some b_13]) w A_50 k_51 x_46.1.In) ∧ (Blk w b_13 26 [.int .u16 c_1.Local, .int .u16 c_1.Remote, .int .u16 c_1.PSM, .int .i64 c_1.MTU, .int .i64 c_1.MPS, .int .i64 c_1.PeerMTU, .int .i64 c_1.PeerMPS, .int .i64 c_1.TxCredits, .int .i64 c_1.RxCredits, .int .i64 c_1.Given, .slice A_2 (List.length c_1.Out) k_3, .int .i64 c_1.Sent, .slice A_5 (List.length c_1.In) k_6, .int .i64 c_1.Want, .bool c_1.Failed]) ∧ (Blk w b_26 26 [.int .u16 x_39.1.Local, .int .u16 x_39.1.Remote, .int .u16 x_39.1.PSM, .int .i64 x_39.1.MTU, .int .i64 x_39.1.MPS, .int .i64 x_39.1.PeerMTU, .int .i64 x_39.1.PeerMPS, .int .i64 x_39.1.TxCredits, .int .i64 x_39.1.RxCredits, .int .i64 x_39.1.Given, .slice A_40 (List.length x_39.1.Out) k_41, .int .i64 x_39.1.Sent, .slice A_43 (List.length x_39.1.In) k_44, .int .i64 x_39.1.Want, .bool x_39.1.Failed]) ∧ (Blk w b_34 26 [.int .u16 x_46.1.Local, .int .u16 x_46.1.Remote, .int .u16 x_46.1.PSM, .int .i64 x_46.1.MTU, .int .i64 x_46.1.MPS, .int .i64 x_46.1.PeerMTU, .int .i64 x_46.1.PeerMPS, .int .i64 x_46.1.TxCredits, .int .i64 x_46.1.RxCredits, .int .i64 x_46.1.Given, .slice A_47 (List.length x_46.1.Out) k_48, .int .i64 x_46.1.Sent, .slice A_50 (List.length x_46.1.In) k_51, .int .i64 x_46.1.Want, .bool x_46.1.Failed])) ?_ ?_
              · have hp := hz
                rcases Bool.eq_false_or_eq_true ((x_39.2 != x_46.2)) with hg_53 | hg_53
                · replace hp := if_t hp hg_53
                  refine WL.no rfl rfl hg_53 rfl ?_
                  refine WL.no rfl rfl hg_53 rfl ?_
                  refine WL.no rfl rfl hg_53 rfl ?_
                  refine WL.no rfl rfl hg_53 rfl ?_
                  refine WL.val (rv_pick_t rfl hg_53 rfl) rfl ?_
                  refine WL.nil (fun a ha => ?_)
                  obtain rfl := some_inv' hp
                  exact ⟨trivial, ha.sub ⟨rfl, rfl, rfl, rfl, rfl, trivial⟩, C, f_4, f_7, f_42, f_45, f_49, f_52, hb_13, hb_26, hb_34⟩
                · replace hp := if_f hp hg_53
                  refine WL.yes rfl rfl hg_53 ?_
                  refine WL.val (rv_loadN Try.isAgg26 Try.sizeOf26 rfl hb_26 rfl rfl) rfl ?_
                  refine WL.yes rfl rfl hg_53 ?_
                  refine WL.val (rv_loadN Try.isAgg26 Try.sizeOf26 rfl hb_34 rfl rfl) rfl ?_
                  replace hp := bind_inv hp
                  obtain ⟨x_86, e_x_86, hp⟩ := hp
                  refine WL.yes rfl rfl hg_53 ?_
                  refine WL.call (rc_func Try.call14 rfl) (ok_wirelessref33_SameChannel F (Mu U0 [some b_34, some b_26, some b_13]) _ x_39.1 x_46.1 A_40 k_41 A_43 k_44 A_47 k_48 A_50 k_51 (C.give [0, 1, 2] [] (by decide) rfl rfl (by decide)) (f_42.mu (mu_give [0, 1, 2] [] rfl rfl)) (f_45.mu (mu_give [0, 1, 2] [] rfl rfl)) (f_49.mu (mu_give [0, 1, 2] [] rfl rfl)) (f_52.mu (mu_give [0, 1, 2] [] rfl rfl)) _ e_x_86) rfl ?_
                  rintro v w ⟨rfl, D⟩
                  obtain ⟨C', T⟩ := C.join D [0, 1, 2] [] (by decide) rfl rfl (by decide)
                  replace C' : Ctx U0 [] w0 [some b_34, some b_26, some b_13] _ := C'
                  replace T : TR U0 [some b_34, some b_26, some b_13] _ [some b_34, some b_26, some b_13] _ [] := T
                  replace f_4 := T.sl f_4
                  replace f_7 := T.sl f_7
                  replace f_42 := T.sl f_42
                  replace f_45 := T.sl f_45
                  replace f_49 := T.sl f_49
                  replace f_52 := T.sl f_52
                  replace hb_13 := T.blk ne0 hb_13
                  replace hb_26 := T.blk ne0 hb_26
                  replace hb_34 := T.blk ne0 hb_34
                  clear T; replace C := C'; clear C'
                  clear D
                  refine WL.yes rfl rfl hg_53 ?_
                  refine WL.val (rv_not rfl) rfl ?_
                  refine WL.val (rv_pick_f rfl hg_53 rfl) rfl ?_
                  refine WL.nil (fun a ha => ?_)
                  obtain rfl := some_inv' hp
                  exact ⟨trivial, ha.sub ⟨rfl, rfl, rfl, rfl, rfl, trivial⟩, C, f_4, f_7, f_42, f_45, f_49, f_52, hb_13, hb_26, hb_34⟩
              · rintro a w ⟨hp, ha, C, f_4, f_7, f_42, f_45, f_49, f_52, hb_13, hb_26, hb_34⟩
                have hp := hpr; clear hpr hz
                refine WL.ofJ (l := [(2, .int .i64 n_12), (3, .pointer (some ⟨b_13, 0, none⟩)), (7, .pointer (some ⟨b_26, 0, none⟩)), (9, .pointer (some ⟨b_34, 0, none⟩)), (71, .bool z_54)]) ?_ ha
                refine WL.val (rv_move rfl) rfl ?_
                obtain ⟨z_56, hz, hpr⟩ := bind_inv hp
                clear hp
                refine WL.cutAt 4 (fun a w => (True) ∧ (Holds 105 [(2, .int .i64 n_12), (3, .pointer (some ⟨b_13, 0, none⟩)), (7, .pointer (some ⟨b_26, 0, none⟩)), (9, .pointer (some ⟨b_34, 0, none⟩)), (76, .bool z_56)] a) ∧ (Ctx U0 [] w0 [some b_34, some b_26, some b_13] w) ∧ (Sl 1 (RSl 1 (RInt .u8)) (Mu U0 [some b_34, some b_26, some b_13]) w A_2 k_3 c_1.Out) ∧ (Sl 1 (RInt .u8) (Mu U0 [some b_34, some b_26, some b_13]) w A_5 k_6 c_1.In) ∧ (Sl 1 (RSl 1 (RInt .u8)) (Mu U0 [some b_34, some b_26, some b_13]) w A_40 k_41 x_39.1.Out) ∧ (Sl 1 (RInt .u8) (Mu U0 [some b_34, some b_26, some b_13]) w A_43 k_44 x_39.1.In) ∧ (Sl 1 (RSl 1 (RInt .u8)) (Mu U0 [some b_34, some b_26, some b_13]) w A_47 k_48 x_46.1.Out) ∧ (Sl 1 (RInt .u8) (Mu U0 [some b_34, some b_26, some b_13]) w A_50 k_51 x_46.1.In) ∧ (Blk w b_13 26 [.int .u16 c_1.Local, .int .u16 c_1.Remote, .int .u16 c_1.PSM, .int .i64 c_1.MTU, .int .i64 c_1.MPS, .int .i64 c_1.PeerMTU, .int .i64 c_1.PeerMPS, .int .i64 c_1.TxCredits, .int .i64 c_1.RxCredits, .int .i64 c_1.Given, .slice A_2 (List.length c_1.Out) k_3, .int .i64 c_1.Sent, .slice A_5 (List.length c_1.In) k_6, .int .i64 c_1.Want, .bool c_1.Failed]) ∧ (Blk w b_26 26 [.int .u16 x_39.1.Local, .int .u16 x_39.1.Remote, .int .u16 x_39.1.PSM, .int .i64 x_39.1.MTU, .int .i64 x_39.1.MPS, .int .i64 x_39.1.PeerMTU, .int .i64 x_39.1.PeerMPS, .int .i64 x_39.1.TxCredits, .int .i64 x_39.1.RxCredits, .int .i64 x_39.1.Given, .slice A_40 (List.length x_39.1.Out) k_41, .int .i64 x_39.1.Sent, .slice A_43 (List.length x_39.1.In) k_44, .int .i64 x_39.1.Want, .bool x_39.1.Failed]) ∧ (Blk w b_34 26 [.int .u16 x_46.1.Local, .int .u16 x_46.1.Remote, .int .u16 x_46.1.PSM, .int .i64 x_46.1.MTU, .int .i64 x_46.1.MPS, .int .i64 x_46.1.PeerMTU, .int .i64 x_46.1.PeerMPS, .int .i64 x_46.1.TxCredits, .int .i64 x_46.1.RxCredits, .int .i64 x_46.1.Given, .slice A_47 (List.length x_46.1.Out) k_48, .int .i64 x_46.1.Sent, .slice A_50 (List.length x_46.1.In) k_51, .int .i64 x_46.1.Want, .bool x_46.1.Failed])) ?_ ?_
                · have hp := hz
                  rcases Bool.eq_false_or_eq_true (z_54) with hg_55 | hg_55
                  · replace hp := if_t hp hg_55
                    refine WL.no rfl rfl hg_55 rfl ?_
                    refine WL.no rfl rfl hg_55 rfl ?_
                    refine WL.no rfl rfl hg_55 rfl ?_
                    refine WL.val (rv_pick_t rfl hg_55 rfl) rfl ?_
                    refine WL.nil (fun a ha => ?_)
                    obtain rfl := some_inv' hp
                    exact ⟨trivial, ha.sub ⟨rfl, rfl, rfl, rfl, rfl, trivial⟩, C, f_4, f_7, f_42, f_45, f_49, f_52, hb_13, hb_26, hb_34⟩
                  · replace hp := if_f hp hg_55
                    refine WL.yes rfl rfl hg_55 ?_
                    refine WL.val (rv_loadN Try.isAgg26 Try.sizeOf26 rfl hb_26 rfl rfl) rfl ?_
                    replace hp := bind_inv hp
                    obtain ⟨x_84, e_x_84, hp⟩ := hp
                    refine WL.yes rfl rfl hg_55 ?_
                    refine WL.call (rc_func Try.call10 rfl) (ok_wirelessref33_Check F (Mu U0 [some b_34, some b_26, some b_13]) _ x_39.1 A_40 k_41 A_43 k_44 (C.give [0, 1, 2] [] (by decide) rfl rfl (by decide)) (f_42.mu (mu_give [0, 1, 2] [] rfl rfl)) (f_45.mu (mu_give [0, 1, 2] [] rfl rfl)) _ e_x_84) rfl ?_
                    rintro v w ⟨rfl, D⟩
                    obtain ⟨C', T⟩ := C.join D [0, 1, 2] [] (by decide) rfl rfl (by decide)
                    replace C' : Ctx U0 [] w0 [some b_34, some b_26, some b_13] _ := C'
                    replace T : TR U0 [some b_34, some b_26, some b_13] _ [some b_34, some b_26, some b_13] _ [] := T
                    replace f_4 := T.sl f_4
                    replace f_7 := T.sl f_7
                    replace f_42 := T.sl f_42
                    replace f_45 := T.sl f_45
                    replace f_49 := T.sl f_49
                    replace f_52 := T.sl f_52
                    replace hb_13 := T.blk ne0 hb_13
                    replace hb_26 := T.blk ne0 hb_26
                    replace hb_34 := T.blk ne0 hb_34
                    clear T; replace C := C'; clear C'
                    clear D
                    refine WL.yes rfl rfl hg_55 ?_
                    refine WL.val (rv_neq rfl rfl) rfl ?_
                    refine WL.val (rv_pick_f rfl hg_55 rfl) rfl ?_
                    refine WL.nil (fun a ha => ?_)
                    obtain rfl := some_inv' hp
                    exact ⟨trivial, ha.sub ⟨rfl, rfl, rfl, rfl, rfl, trivial⟩, C, f_4, f_7, f_42, f_45, f_49, f_52, hb_13, hb_26, hb_34⟩
                · rintro a w ⟨hp, ha, C, f_4, f_7, f_42, f_45, f_49, f_52, hb_13, hb_26, hb_34⟩
                  have hp := hpr; clear hpr hz
                  refine WL.ofJ (l := [(2, .int .i64 n_12), (3, .pointer (some ⟨b_13, 0, none⟩)), (7, .pointer (some ⟨b_26, 0, none⟩)), (9, .pointer (some ⟨b_34, 0, none⟩)), (76, .bool z_56)]) ?_ ha
                  refine WL.nilThen ?_
                  refine WC.cond rfl (fun hc => ?_) (fun hc => ?_)
                  · replace hp := if_t hp hc
                    clear hc
                    refine WC.seq ?_
                    refine WC.region ?_
                    refine WL.val (rv_assign rfl) rfl ?_
                    refine WL.nilThen ?_
                    obtain rfl := some_inv' hp
                    refine WC.ret (retK (rs := [.tmp 6]) (vs := [.bool false]) rfl ⟨rv1_tmp rfl, trivial⟩ ?_)
                    have T : TR U0 [some b_34, some b_26, some b_13] w [] w [] := TR.pick [] rfl
                    have C' : Ctx U0 [] w0 [] _ := C.pick [] (by decide) rfl
                    clear T; replace C := C'; clear C'
                    exact ⟨_, rfl, rfl, C⟩
                  · replace hp := if_f hp hc
                    clear hc
                    refine WC.skipThen ?_
                    refine WC.seq ?_
                    refine WC.region ?_
                    refine WL.val (rv_loadN Try.isAgg26 Try.sizeOf26 rfl hb_13 rfl rfl) rfl ?_
                    refine WL.val (rv_move rfl) rfl ?_
                    replace hp := bind_inv hp
                    obtain ⟨x_57, e_x_57, hp⟩ := hp
                    refine WL.call (rc_func Try.call24 rfl) (ok_sdu_Credit F (Mu U0 [some b_34, some b_26, some b_13]) _ c_1 n_12 A_2 k_3 A_5 k_6 (C.give [0, 1, 2] [] (by decide) rfl rfl (by decide)) (f_4.mu (mu_give [0, 1, 2] [] rfl rfl)) (f_7.mu (mu_give [0, 1, 2] [] rfl rfl)) _ e_x_57) rfl ?_
                    rintro v w ⟨A_58, k_59, A_61, k_62, rfl, D, f_60, f_63⟩
                    obtain ⟨C', T⟩ := C.join D [0, 1, 2] [] (by decide) rfl rfl (by decide)
                    replace C' : Ctx U0 [] w0 [some b_34, some b_26, some b_13] _ := C'
                    replace T : TR U0 [some b_34, some b_26, some b_13] _ [some b_34, some b_26, some b_13] _ [] := T
                    replace f_60 : Sl 1 (RSl 1 (RInt .u8)) (Mu U0 [some b_34, some b_26, some b_13]) _ A_58 k_59 x_57.1.Out := f_60.mu (mu_join (R := []) (L2 := [some b_34, some b_26, some b_13]) (fun b h => h))
                    replace f_63 : Sl 1 (RInt .u8) (Mu U0 [some b_34, some b_26, some b_13]) _ A_61 k_62 x_57.1.In := f_63.mu (mu_join (R := []) (L2 := [some b_34, some b_26, some b_13]) (fun b h => h))
                    replace f_4 := T.sl f_4
                    replace f_7 := T.sl f_7
                    replace f_42 := T.sl f_42
                    replace f_45 := T.sl f_45
                    replace f_49 := T.sl f_49
                    replace f_52 := T.sl f_52
                    replace hb_13 := T.blk ne0 hb_13
                    replace hb_26 := T.blk ne0 hb_26
                    replace hb_34 := T.blk ne0 hb_34
                    clear T; replace C := C'; clear C'
                    clear D
                    refine WL.val (rv_move rfl) rfl ?_
                    refine WL.val (rv_extract rfl rfl) rfl ?_
                    refine WL.val (rv_extract rfl rfl) rfl ?_
                    refine WL.storeK (rs_store (i := 1) (cs' := [.int .u16 x_57.1.Local, .int .u16 x_57.1.Remote, .int .u16 x_57.1.PSM, .int .i64 x_57.1.MTU, .int .i64 x_57.1.MPS, .int .i64 x_57.1.PeerMTU, .int .i64 x_57.1.PeerMPS, .int .i64 x_57.1.TxCredits, .int .i64 x_57.1.RxCredits, .int .i64 x_57.1.Given, .slice A_58 (List.length x_57.1.Out) k_59, .int .i64 x_57.1.Sent, .slice A_61 (List.length x_57.1.In) k_62, .int .i64 x_57.1.Want, .bool x_57.1.Failed]) Try.sizeOf26 rfl rfl rfl rfl rfl hb_26 rfl C rfl rfl) ?_
                    rintro w ⟨hb_26, C', T⟩
                    replace f_4 := T.sl f_4
                    replace f_7 := T.sl f_7
                    replace f_42 := T.sl f_42
                    replace f_45 := T.sl f_45
                    replace f_49 := T.sl f_49
                    replace f_52 := T.sl f_52
                    replace f_60 := T.sl f_60
                    replace f_63 := T.sl f_63
                    replace hb_13 := T.blk (C.ne (i := 2) rfl [1] rfl (by decide)) hb_13
                    replace hb_34 := T.blk (C.ne (i := 0) rfl [1] rfl (by decide)) hb_34
                    clear T; replace C := C'; clear C'
                    refine WL.val (rv_assign rfl) rfl ?_
                    refine WL.nilThen ?_
                    refine WC.seq ?_
                    refine WC.region ?_
                    refine WL.val (rv_loadN Try.isAgg26 Try.sizeOf26 rfl hb_13 rfl rfl) rfl ?_
                    refine WL.val (rv_move rfl) rfl ?_
                    replace hp := bind_inv hp
                    obtain ⟨x_64, e_x_64, hp⟩ := hp
                    refine WL.call (rc_func Try.call25 rfl) (ok_wirelessref33_Credit F (Mu U0 [some b_34, some b_26, some b_13]) _ c_1 n_12 A_2 k_3 A_5 k_6 (C.give [0, 1, 2] [] (by decide) rfl rfl (by decide)) (f_4.mu (mu_give [0, 1, 2] [] rfl rfl)) (f_7.mu (mu_give [0, 1, 2] [] rfl rfl)) _ e_x_64) rfl ?_
                    rintro v w ⟨A_65, k_66, A_68, k_69, rfl, D, f_67, f_70⟩
                    obtain ⟨C', T⟩ := C.join D [0, 1, 2] [] (by decide) rfl rfl (by decide)
                    replace C' : Ctx U0 [] w0 [some b_34, some b_26, some b_13] _ := C'
                    replace T : TR U0 [some b_34, some b_26, some b_13] _ [some b_34, some b_26, some b_13] _ [] := T
                    replace f_67 : Sl 1 (RSl 1 (RInt .u8)) (Mu U0 [some b_34, some b_26, some b_13]) _ A_65 k_66 x_64.1.Out := f_67.mu (mu_join (R := []) (L2 := [some b_34, some b_26, some b_13]) (fun b h => h))
                    replace f_70 : Sl 1 (RInt .u8) (Mu U0 [some b_34, some b_26, some b_13]) _ A_68 k_69 x_64.1.In := f_70.mu (mu_join (R := []) (L2 := [some b_34, some b_26, some b_13]) (fun b h => h))
                    replace f_4 := T.sl f_4
                    replace f_7 := T.sl f_7
                    replace f_49 := T.sl f_49
                    replace f_52 := T.sl f_52
                    replace f_60 := T.sl f_60
                    replace f_63 := T.sl f_63
                    replace hb_13 := T.blk ne0 hb_13
                    replace hb_26 := T.blk ne0 hb_26
                    replace hb_34 := T.blk ne0 hb_34
                    clear T; replace C := C'; clear C'
                    clear D
                    refine WL.val (rv_move rfl) rfl ?_
                    refine WL.val (rv_extract rfl rfl) rfl ?_
                    refine WL.val (rv_extract rfl rfl) rfl ?_
                    refine WL.storeK (rs_store (i := 0) (cs' := [.int .u16 x_64.1.Local, .int .u16 x_64.1.Remote, .int .u16 x_64.1.PSM, .int .i64 x_64.1.MTU, .int .i64 x_64.1.MPS, .int .i64 x_64.1.PeerMTU, .int .i64 x_64.1.PeerMPS, .int .i64 x_64.1.TxCredits, .int .i64 x_64.1.RxCredits, .int .i64 x_64.1.Given, .slice A_65 (List.length x_64.1.Out) k_66, .int .i64 x_64.1.Sent, .slice A_68 (List.length x_64.1.In) k_69, .int .i64 x_64.1.Want, .bool x_64.1.Failed]) Try.sizeOf26 rfl rfl rfl rfl rfl hb_34 rfl C rfl rfl) ?_
                    rintro w ⟨hb_34, C', T⟩
                    replace f_4 := T.sl f_4
                    replace f_7 := T.sl f_7
                    replace f_49 := T.sl f_49
                    replace f_52 := T.sl f_52
                    replace f_60 := T.sl f_60
                    replace f_63 := T.sl f_63
                    replace f_67 := T.sl f_67
                    replace f_70 := T.sl f_70
                    replace hb_13 := T.blk (C.ne (i := 2) rfl [0] rfl (by decide)) hb_13
                    replace hb_26 := T.blk (C.ne (i := 1) rfl [0] rfl (by decide)) hb_26
                    clear T; replace C := C'; clear C'
                    refine WL.val (rv_assign rfl) rfl ?_
                    refine WL.nilThen ?_
                    refine WC.seq ?_
                    refine WC.region ?_
                    refine WL.val (rv_move rfl) rfl ?_
                    refine WL.val (rv_move rfl) rfl ?_
                    refine WL.val (rv_eql rfl rfl) rfl ?_
                    refine WL.val (rv_move rfl) rfl ?_
                    obtain ⟨z_72, hz, hpr⟩ := bind_inv hp
                    clear hp
                    refine WL.cutAt 4 (fun a w => (True) ∧ (Holds 105 [(7, .pointer (some ⟨b_26, 0, none⟩)), (96, .bool z_72)] a) ∧ (Ctx U0 [] w0 [some b_26] w) ∧ (Sl 1 (RSl 1 (RInt .u8)) (Mu U0 [some b_26]) w A_58 k_59 x_57.1.Out) ∧ (Sl 1 (RInt .u8) (Mu U0 [some b_26]) w A_61 k_62 x_57.1.In) ∧ (Blk w b_26 26 [.int .u16 x_57.1.Local, .int .u16 x_57.1.Remote, .int .u16 x_57.1.PSM, .int .i64 x_57.1.MTU, .int .i64 x_57.1.MPS, .int .i64 x_57.1.PeerMTU, .int .i64 x_57.1.PeerMPS, .int .i64 x_57.1.TxCredits, .int .i64 x_57.1.RxCredits, .int .i64 x_57.1.Given, .slice A_58 (List.length x_57.1.Out) k_59, .int .i64 x_57.1.Sent, .slice A_61 (List.length x_57.1.In) k_62, .int .i64 x_57.1.Want, .bool x_57.1.Failed])) ?_ ?_
                    · have hp := hz
                      rcases Bool.eq_false_or_eq_true ((x_57.2 == x_64.2)) with hg_71 | hg_71
                      · replace hp := if_t hp hg_71
                        refine WL.yes rfl rfl hg_71 ?_
                        refine WL.val (rv_loadN Try.isAgg26 Try.sizeOf26 rfl hb_26 rfl rfl) rfl ?_
                        refine WL.yes rfl rfl hg_71 ?_
                        refine WL.val (rv_loadN Try.isAgg26 Try.sizeOf26 rfl hb_34 rfl rfl) rfl ?_
                        replace hp := bind_inv hp
                        obtain ⟨x_82, e_x_82, hp⟩ := hp
                        refine WL.yes rfl rfl hg_71 ?_
                        refine WL.call (rc_func Try.call14 rfl) (ok_wirelessref33_SameChannel F (Mu U0 [some b_34, some b_26, some b_13]) _ x_57.1 x_64.1 A_58 k_59 A_61 k_62 A_65 k_66 A_68 k_69 (C.give [0, 1, 2] [] (by decide) rfl rfl (by decide)) (f_60.mu (mu_give [0, 1, 2] [] rfl rfl)) (f_63.mu (mu_give [0, 1, 2] [] rfl rfl)) (f_67.mu (mu_give [0, 1, 2] [] rfl rfl)) (f_70.mu (mu_give [0, 1, 2] [] rfl rfl)) _ e_x_82) rfl ?_
                        rintro v w ⟨rfl, D⟩
                        obtain ⟨C', T⟩ := C.join D [0, 1, 2] [] (by decide) rfl rfl (by decide)
                        replace C' : Ctx U0 [] w0 [some b_34, some b_26, some b_13] _ := C'
                        replace T : TR U0 [some b_34, some b_26, some b_13] _ [some b_34, some b_26, some b_13] _ [] := T
                        replace f_60 := T.sl f_60
                        replace f_63 := T.sl f_63
                        replace f_67 := T.sl f_67
                        replace f_70 := T.sl f_70
                        replace hb_26 := T.blk ne0 hb_26
                        replace hb_34 := T.blk ne0 hb_34
                        clear T; replace C := C'; clear C'
                        clear D
                        refine WL.val (rv_pick_t rfl hg_71 rfl) rfl ?_
                        refine WL.nil (fun a ha => ?_)
                        obtain rfl := some_inv' hp
                        have T : TR U0 [some b_34, some b_26, some b_13] w [some b_26] w [] := TR.pick [1] rfl
                        have C' : Ctx U0 [] w0 [some b_26] _ := C.pick [1] (by decide) rfl
                        replace f_60 := T.sl f_60
                        replace f_63 := T.sl f_63
                        replace hb_26 := T.blk ne0 hb_26
                        clear T; replace C := C'; clear C'
                        exact ⟨trivial, ha.sub ⟨rfl, rfl, trivial⟩, C, f_60, f_63, hb_26⟩
                      · replace hp := if_f hp hg_71
                        refine WL.no rfl rfl hg_71 rfl ?_
                        refine WL.no rfl rfl hg_71 rfl ?_
                        refine WL.no rfl rfl hg_71 rfl ?_
                        refine WL.val (rv_pick_f rfl hg_71 rfl) rfl ?_
                        refine WL.nil (fun a ha => ?_)
                        obtain rfl := some_inv' hp
                        have T : TR U0 [some b_34, some b_26, some b_13] w [some b_26] w [] := TR.pick [1] rfl
                        have C' : Ctx U0 [] w0 [some b_26] _ := C.pick [1] (by decide) rfl
                        replace f_60 := T.sl f_60
                        replace f_63 := T.sl f_63
                        replace hb_26 := T.blk ne0 hb_26
                        clear T; replace C := C'; clear C'
                        exact ⟨trivial, ha.sub ⟨rfl, rfl, trivial⟩, C, f_60, f_63, hb_26⟩
                    · rintro a w ⟨hp, ha, C, f_60, f_63, hb_26⟩
                      have hp := hpr; clear hpr hz
                      refine WL.ofJ (l := [(7, .pointer (some ⟨b_26, 0, none⟩)), (96, .bool z_72)]) ?_ ha
                      refine WL.val (rv_move rfl) rfl ?_
                      obtain ⟨z_74, hz, hpr⟩ := bind_inv hp
                      clear hp
                      refine WL.cutAt 4 (fun a w => (True) ∧ (Holds 105 [(101, .bool z_74)] a) ∧ (Ctx U0 [] w0 [] w)) ?_ ?_
                      · have hp := hz
                        rcases Bool.eq_false_or_eq_true (z_72) with hg_73 | hg_73
                        · replace hp := if_t hp hg_73
                          refine WL.yes rfl rfl hg_73 ?_
                          refine WL.val (rv_loadN Try.isAgg26 Try.sizeOf26 rfl hb_26 rfl rfl) rfl ?_
                          replace hp := bind_inv hp
                          obtain ⟨x_80, e_x_80, hp⟩ := hp
                          refine WL.yes rfl rfl hg_73 ?_
                          refine WL.call (rc_func Try.call10 rfl) (ok_wirelessref33_Check F (Mu U0 [some b_26]) _ x_57.1 A_58 k_59 A_61 k_62 (C.give [0] [] (by decide) rfl rfl (by decide)) (f_60.mu (mu_give [0] [] rfl rfl)) (f_63.mu (mu_give [0] [] rfl rfl)) _ e_x_80) rfl ?_
                          rintro v w ⟨rfl, D⟩
                          obtain ⟨C', T⟩ := C.join D [0] [] (by decide) rfl rfl (by decide)
                          replace C' : Ctx U0 [] w0 [some b_26] _ := C'
                          replace T : TR U0 [some b_26] _ [some b_26] _ [] := T
                          replace f_60 := T.sl f_60
                          replace f_63 := T.sl f_63
                          replace hb_26 := T.blk ne0 hb_26
                          clear T; replace C := C'; clear C'
                          clear D
                          refine WL.yes rfl rfl hg_73 ?_
                          refine WL.val (rv_eql rfl rfl) rfl ?_
                          refine WL.val (rv_pick_t rfl hg_73 rfl) rfl ?_
                          refine WL.nil (fun a ha => ?_)
                          obtain rfl := some_inv' hp
                          have T : TR U0 [some b_26] w [] w [] := TR.pick [] rfl
                          have C' : Ctx U0 [] w0 [] _ := C.pick [] (by decide) rfl
                          clear T; replace C := C'; clear C'
                          exact ⟨trivial, ha.sub ⟨rfl, trivial⟩, C⟩
                        · replace hp := if_f hp hg_73
                          refine WL.no rfl rfl hg_73 rfl ?_
                          refine WL.no rfl rfl hg_73 rfl ?_
                          refine WL.no rfl rfl hg_73 rfl ?_
                          refine WL.val (rv_pick_f rfl hg_73 rfl) rfl ?_
                          refine WL.nil (fun a ha => ?_)
                          obtain rfl := some_inv' hp
                          have T : TR U0 [some b_26] w [] w [] := TR.pick [] rfl
                          have C' : Ctx U0 [] w0 [] _ := C.pick [] (by decide) rfl
                          clear T; replace C := C'; clear C'
                          exact ⟨trivial, ha.sub ⟨rfl, trivial⟩, C⟩
                      · rintro a w ⟨hp, ha, C⟩
                        have hp := hpr; clear hpr hz
                        refine WL.ofJ (l := [(101, .bool z_74)]) ?_ ha
                        refine WL.val (rv_move rfl) rfl ?_
                        obtain ⟨z_76, hz, hpr⟩ := bind_inv hp
                        clear hp
                        refine WL.cutAt 2 (fun a w => (True) ∧ (Holds 105 [(104, .bool z_76)] a) ∧ (Ctx U0 [] w0 [] w)) ?_ ?_
                        · have hp := hz
                          rcases Bool.eq_false_or_eq_true (z_74) with hg_75 | hg_75
                          · replace hp := if_t hp hg_75
                            replace hp := bind_inv hp
                            obtain ⟨x_78, e_x_78, hp⟩ := hp
                            refine WL.yes rfl rfl hg_75 ?_
                            refine WL.call (rc_func Try.call11 rfl) (ok_wirelesslaw33_exampleHolds F (Mu U0 []) _  (C.give [] [] (by decide) rfl rfl (by decide)) _ e_x_78) rfl ?_
                            rintro v w ⟨rfl, D⟩
                            obtain ⟨C', T⟩ := C.join D [] [] (by decide) rfl rfl (by decide)
                            replace C' : Ctx U0 [] w0 [] _ := C'
                            replace T : TR U0 [] _ [] _ [] := T
                            clear T; replace C := C'; clear C'
                            clear D
                            refine WL.val (rv_pick_t rfl hg_75 rfl) rfl ?_
                            refine WL.nil (fun a ha => ?_)
                            obtain rfl := some_inv' hp
                            exact ⟨trivial, ha.sub ⟨rfl, trivial⟩, C⟩
                          · replace hp := if_f hp hg_75
                            refine WL.no rfl rfl hg_75 rfl ?_
                            refine WL.val (rv_pick_f rfl hg_75 rfl) rfl ?_
                            refine WL.nil (fun a ha => ?_)
                            obtain rfl := some_inv' hp
                            exact ⟨trivial, ha.sub ⟨rfl, trivial⟩, C⟩
                        · rintro a w ⟨hp, ha, C⟩
                          have hp := hpr; clear hpr hz
                          refine WL.ofJ (l := [(104, .bool z_76)]) ?_ ha
                          refine WL.val (rv_assign rfl) rfl ?_
                          refine WL.nilThen ?_
                          obtain rfl := some_inv' hp
                          refine WC.ret (retK (rs := [.tmp 6]) (vs := [.bool z_76]) rfl ⟨rv1_tmp rfl, trivial⟩ ?_)
                          exact ⟨_, rfl, rfl, C⟩
end V
end Go.Proofs.Ytfdiabglpgkbeaa
