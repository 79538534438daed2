/-
  Walks, written by program: each Go function returns what its pure twin says.
-/
import Derived.Test.YtfdiabglpgkbeaaW1
namespace Go.Proofs.Ytfdiabglpgkbeaa
namespace V
theorem ok_wirelessref33_Output (F : Nat) (U0 : Nat → Prop) (w0 : World) (c_1 : T_api_Channel) (A_2 : Option Addr) (k_3 : Nat) (A_5 : Option Addr) (k_6 : Nat) (C : Ctx U0 [] w0 [] w0) (f_4 : Sl 1 (RSl 1 (RInt .u8)) (Mu U0 []) w0 A_2 k_3 c_1.Out) (f_7 : Sl 1 (RInt .u8) (Mu U0 []) w0 A_5 k_6 c_1.In) (r : T_api_Channel × (List (List Int))) (hp : wirelessref33_Output F c_1 = some r) :
    Calls Try.prog 13 #[.agg #[.int .u16 c_1.Local, .int .u16 c_1.Remote, .int .u16 c_1.PSM, .int .i64 c_1.MTU, .int .i64 c_1.MPS, .int .i64 c_1.PeerMTU, .int .i64 c_1.PeerMPS, .int .i64 c_1.TxCredits, .int .i64 c_1.RxCredits, .int .i64 c_1.Given, .slice A_2 (List.length c_1.Out) k_3, .int .i64 c_1.Sent, .slice A_5 (List.length c_1.In) k_6, .int .i64 c_1.Want, .bool c_1.Failed]] w0 fun e w => ∃ v, e = .returned v ∧ ∃ (A_83 : Option Addr) (k_84 : Nat) (A_86 : Option Addr) (k_87 : Nat) (A_89 : Option Addr) (k_90 : Nat), (v = .tuple #[.agg #[.int .u16 r.1.Local, .int .u16 r.1.Remote, .int .u16 r.1.PSM, .int .i64 r.1.MTU, .int .i64 r.1.MPS, .int .i64 r.1.PeerMTU, .int .i64 r.1.PeerMPS, .int .i64 r.1.TxCredits, .int .i64 r.1.RxCredits, .int .i64 r.1.Given, .slice A_83 (List.length r.1.Out) k_84, .int .i64 r.1.Sent, .slice A_86 (List.length r.1.In) k_87, .int .i64 r.1.Want, .bool r.1.Failed], .slice A_89 (List.length r.2) k_90]) ∧ (Ctx U0 [] w0 [] w) ∧ (Sl 1 (RSl 1 (RInt .u8)) (Mu U0 []) w A_83 k_84 r.1.Out) ∧ (Sl 1 (RInt .u8) (Mu U0 []) w A_86 k_87 r.1.In) ∧ (Sl 1 (RSl 1 (RInt .u8)) (Mu U0 []) w A_89 k_90 r.2) := by
  refine calls_enter (vs := [.agg #[.int .u16 c_1.Local, .int .u16 c_1.Remote, .int .u16 c_1.PSM, .int .i64 c_1.MTU, .int .i64 c_1.MPS, .int .i64 c_1.PeerMTU, .int .i64 c_1.PeerMPS, .int .i64 c_1.TxCredits, .int .i64 c_1.RxCredits, .int .i64 c_1.Given, .slice A_2 (List.length c_1.Out) k_3, .int .i64 c_1.Sent, .slice A_5 (List.length c_1.In) k_6, .int .i64 c_1.Want, .bool c_1.Failed]]) Try.func13 rfl Try.ntmps13 rfl ?_
  refine WC.prune (l' := [(0, .agg #[.int .u16 c_1.Local, .int .u16 c_1.Remote, .int .u16 c_1.PSM, .int .i64 c_1.MTU, .int .i64 c_1.MPS, .int .i64 c_1.PeerMTU, .int .i64 c_1.PeerMPS, .int .i64 c_1.TxCredits, .int .i64 c_1.RxCredits, .int .i64 c_1.Given, .slice A_2 (List.length c_1.Out) k_3, .int .i64 c_1.Sent, .slice A_5 (List.length c_1.In) k_6, .int .i64 c_1.Want, .bool c_1.Failed])]) ⟨rfl, trivial⟩ ?_
  skip
  refine WC.seq ?_
  refine WC.region ?_
  refine WL.world (rw_box rfl rfl C) rfl ?_
  rintro v w ⟨b_8, rfl, hb_8, C', T⟩
  replace C' : Ctx U0 [] w0 [some b_8] _ := C'
  replace T : TR U0 [] _ [some b_8] _ [] := T
  replace hb_8 : Blk _ b_8 26 [.int .u16 c_1.Local, .int .u16 c_1.Remote, .int .u16 c_1.PSM, .int .i64 c_1.MTU, .int .i64 c_1.MPS, .int .i64 c_1.PeerMTU, .int .i64 c_1.PeerMPS, .int .i64 c_1.TxCredits, .int .i64 c_1.RxCredits, .int .i64 c_1.Given, .slice A_2 (List.length c_1.Out) k_3, .int .i64 c_1.Sent, .slice A_5 (List.length c_1.In) k_6, .int .i64 c_1.Want, .bool c_1.Failed] := hb_8
  replace f_4 := T.sl f_4
  replace f_7 := T.sl f_7
  clear T; replace C := C'; clear C'
  refine WL.world (rw_alloc Try.zeroValue26 rfl C) rfl ?_
  rintro v w ⟨b_9, rfl, hb_9, C', T⟩
  replace C' : Ctx U0 [] w0 [some b_9, some b_8] _ := C'
  replace T : TR U0 [some b_8] _ [some b_9, some b_8] _ [] := T
  replace hb_9 : Blk _ b_9 26 [.int .u16 0, .int .u16 0, .int .u16 0, .int .i64 0, .int .i64 0, .int .i64 0, .int .i64 0, .int .i64 0, .int .i64 0, .int .i64 0, .slice none 0 0, .int .i64 0, .slice none 0 0, .int .i64 0, .bool false] := hb_9
  replace f_4 := T.sl f_4
  replace f_7 := T.sl f_7
  replace hb_8 := T.blk ne0 hb_8
  clear T; replace C := C'; clear C'
  refine WL.val (rv_assign rfl) rfl ?_
  refine WL.nilThen ?_
  refine WC.seq ?_
  refine WC.region ?_
  refine WL.val (rv_assign rfl) rfl ?_
  refine WL.nilThen ?_
  refine WC.seqCut (fun a w => ∃ (x_10 : Int) (l_11 : (List (List Int))) (x_15 : Int) (l_16 : (List (List Int))) (A_12 : Option Addr) (k_13 : Nat) (A_17 : Option Addr) (k_18 : Nat), (wirelessref33_Output_j1 F c_1 x_10 l_11 x_15 l_16 = some r) ∧ (Holds 63 [(1, .pointer (some ⟨b_8, 0, none⟩)), (2, .pointer (some ⟨b_9, 0, none⟩)), (4, .slice A_17 (List.length l_16) k_18)] a) ∧ (Ctx U0 [] w0 [some b_9, some b_8, ob A_17] w) ∧ (Sl 1 (RSl 1 (RInt .u8)) (Mu U0 [some b_9, some b_8, ob A_17]) w A_12 k_13 l_11) ∧ (Sl 1 (RInt .u8) (Mu U0 [some b_9, some b_8, ob A_17]) w A_5 k_6 c_1.In) ∧ (Blk w b_8 26 [.int .u16 c_1.Local, .int .u16 c_1.Remote, .int .u16 c_1.PSM, .int .i64 c_1.MTU, .int .i64 c_1.MPS, .int .i64 c_1.PeerMTU, .int .i64 c_1.PeerMPS, .int .i64 x_10, .int .i64 c_1.RxCredits, .int .i64 c_1.Given, .slice A_12 (List.length l_11) k_13, .int .i64 x_15, .slice A_5 (List.length c_1.In) k_6, .int .i64 c_1.Want, .bool c_1.Failed]) ∧ (Blk w b_9 26 [.int .u16 0, .int .u16 0, .int .u16 0, .int .i64 0, .int .i64 0, .int .i64 0, .int .i64 0, .int .i64 0, .int .i64 0, .int .i64 0, .slice none 0 0, .int .i64 0, .slice none 0 0, .int .i64 0, .bool false]) ∧ (Own 1 24 (RSl 1 (RInt .u8)) (Mu U0 [some b_9, some b_8, ob A_17]) w A_17 k_18 l_16)) ?_ ?_
  · refine WC.block ?_
    obtain ⟨o_32, hi_32, hpo_32⟩ := bind_inv hp
    clear hp
    refine WC.loop (fun n a w => ∃ (x_21 : Int) (l_22 : (List (List Int))) (x_26 : Int) (l_27 : (List (List Int))) (A_23 : Option Addr) (k_24 : Nat) (A_28 : Option Addr) (k_29 : Nat), (iter (fun s => wirelessref33_Output_l32 F c_1 s.1 s.2.1 s.2.2.1 s.2.2.2) n (x_21, l_22, x_26, l_27) = some o_32) ∧ (Holds 63 [(1, .pointer (some ⟨b_8, 0, none⟩)), (2, .pointer (some ⟨b_9, 0, none⟩)), (4, .slice A_28 (List.length l_27) k_29)] a) ∧ (Ctx U0 [] w0 [some b_9, some b_8, ob A_28] w) ∧ (Sl 1 (RSl 1 (RInt .u8)) (Mu U0 [some b_9, some b_8, ob A_28]) w A_23 k_24 l_22) ∧ (Sl 1 (RInt .u8) (Mu U0 [some b_9, some b_8, ob A_28]) w A_5 k_6 c_1.In) ∧ (Blk w b_8 26 [.int .u16 c_1.Local, .int .u16 c_1.Remote, .int .u16 c_1.PSM, .int .i64 c_1.MTU, .int .i64 c_1.MPS, .int .i64 c_1.PeerMTU, .int .i64 c_1.PeerMPS, .int .i64 x_21, .int .i64 c_1.RxCredits, .int .i64 c_1.Given, .slice A_23 (List.length l_22) k_24, .int .i64 x_26, .slice A_5 (List.length c_1.In) k_6, .int .i64 c_1.Want, .bool c_1.Failed]) ∧ (Blk w b_9 26 [.int .u16 0, .int .u16 0, .int .u16 0, .int .i64 0, .int .i64 0, .int .i64 0, .int .i64 0, .int .i64 0, .int .i64 0, .int .i64 0, .slice none 0 0, .int .i64 0, .slice none 0 0, .int .i64 0, .bool false]) ∧ (Own 1 24 (RSl 1 (RInt .u8)) (Mu U0 [some b_9, some b_8, ob A_28]) w A_28 k_29 l_27)) F ?_ ?_
    · intro a ha
      obtain ⟨C', T⟩ := C.addNone
      replace f_4 := T.sl f_4
      replace f_7 := T.sl f_7
      replace hb_8 := T.blk ne0 hb_8
      replace hb_9 := T.blk ne0 hb_9
      clear T; replace C := C'; clear C'
      have T : TR U0 [ob none, some b_9, some b_8] w [some b_9, some b_8, ob none] w [] := TR.pick [1, 2, 0] rfl
      have C' : Ctx U0 [] w0 [some b_9, some b_8, ob none] _ := C.pick [1, 2, 0] (by decide) rfl
      replace f_4 := T.sl f_4
      replace f_7 := T.sl f_7
      replace hb_8 := T.blk ne0 hb_8
      replace hb_9 := T.blk ne0 hb_9
      clear T; replace C := C'; clear C'
      exact ⟨c_1.TxCredits, c_1.Out, c_1.Sent, [], A_2, k_3, none, 0, hi_32, ha.sub ⟨rfl, rfl, rfl, trivial⟩, C, f_4, f_7, hb_8, hb_9, Own.nil⟩
    · rintro n_32 a w ⟨x_21, l_22, x_26, l_27, A_23, k_24, A_28, k_29, hi_32, ha, C, f_25, f_7, hb_8, hb_9, f_30⟩
      obtain ⟨n_32, q_32, rfl, hp, hs_32⟩ := iter_inv hi_32
      replace hp : wirelessref33_Output_l32 F c_1 x_21 l_22 x_26 l_27 = some q_32 := hp
      clear hi_32
      refine WC.ofJ (l := [(1, .pointer (some ⟨b_8, 0, none⟩)), (2, .pointer (some ⟨b_9, 0, none⟩)), (4, .slice A_28 (List.length l_27) k_29)]) ?_ ha
      refine WC.seq ?_
      refine WC.seq ?_
      refine WC.region ?_
      refine WL.val (rv_fieldAddr FA26_14 rfl rfl) rfl ?_
      refine WL.val (rv_load1 Try.isAgg4 rfl hb_8 rfl) rfl ?_
      refine WL.val (rv_not rfl) rfl ?_
      refine WL.val (rv_move rfl) rfl ?_
      refine WL.cutAt 5 (fun a w' => w = w' ∧ Holds 63 [(1, .pointer (some ⟨b_8, 0, none⟩)), (2, .pointer (some ⟨b_9, 0, none⟩)), (4, .slice A_28 (List.length l_27) k_29), (15, .bool ((!c_1.Failed) && (decide ((len l_22) > 0))))] a) ?_ ?_
      · rcases Bool.eq_false_or_eq_true ((!c_1.Failed)) with hg_33 | hg_33
        · refine WL.yes rfl rfl hg_33 ?_
          refine WL.val (rv_fieldAddr FA26_10 rfl rfl) rfl ?_
          refine WL.yes rfl rfl hg_33 ?_
          refine WL.val (rv_load1 Try.isAgg23 rfl hb_8 rfl) rfl ?_
          refine WL.yes rfl rfl hg_33 ?_
          refine WL.val (rv_len (dt := l_22) Try.underlying23 rfl) rfl ?_
          refine WL.yes rfl rfl hg_33 ?_
          refine WL.val (rv_gtr rfl rfl) rfl ?_
          refine WL.val (rv_pick_t rfl hg_33 rfl) rfl ?_
          refine WL.nil (fun a ha => ?_)
          exact ⟨rfl, ha.sub ⟨rfl, rfl, rfl, and_t hg_33, trivial⟩⟩
        · refine WL.no rfl rfl hg_33 rfl ?_
          refine WL.no rfl rfl hg_33 rfl ?_
          refine WL.no rfl rfl hg_33 rfl ?_
          refine WL.no rfl rfl hg_33 rfl ?_
          refine WL.val (rv_pick_f rfl hg_33 rfl) rfl ?_
          refine WL.nil (fun a ha => ?_)
          exact ⟨rfl, ha.sub ⟨rfl, rfl, rfl, and_f hg_33, trivial⟩⟩
      · rintro a w' ⟨rfl, ha⟩
        refine WL.ofJ (l := [(1, .pointer (some ⟨b_8, 0, none⟩)), (2, .pointer (some ⟨b_9, 0, none⟩)), (4, .slice A_28 (List.length l_27) k_29), (15, .bool ((!c_1.Failed) && (decide ((len l_22) > 0))))]) ?_ ha
        refine WL.val (rv_move rfl) rfl ?_
        refine WL.cutAt 4 (fun a w' => w = w' ∧ Holds 63 [(1, .pointer (some ⟨b_8, 0, none⟩)), (2, .pointer (some ⟨b_9, 0, none⟩)), (4, .slice A_28 (List.length l_27) k_29), (20, .bool (((!c_1.Failed) && (decide ((len l_22) > 0))) && (decide (x_21 > 0))))] a) ?_ ?_
        · rcases Bool.eq_false_or_eq_true (((!c_1.Failed) && (decide ((len l_22) > 0)))) with hg_34 | hg_34
          · refine WL.yes rfl rfl hg_34 ?_
            refine WL.val (rv_fieldAddr FA26_7 rfl rfl) rfl ?_
            refine WL.yes rfl rfl hg_34 ?_
            refine WL.val (rv_load1 Try.isAgg3 rfl hb_8 rfl) rfl ?_
            refine WL.yes rfl rfl hg_34 ?_
            refine WL.val (rv_gtr rfl rfl) rfl ?_
            refine WL.val (rv_pick_t rfl hg_34 rfl) rfl ?_
            refine WL.nil (fun a ha => ?_)
            exact ⟨rfl, ha.sub ⟨rfl, rfl, rfl, and_t hg_34, trivial⟩⟩
          · refine WL.no rfl rfl hg_34 rfl ?_
            refine WL.no rfl rfl hg_34 rfl ?_
            refine WL.no rfl rfl hg_34 rfl ?_
            refine WL.val (rv_pick_f rfl hg_34 rfl) rfl ?_
            refine WL.nil (fun a ha => ?_)
            exact ⟨rfl, ha.sub ⟨rfl, rfl, rfl, and_f hg_34, trivial⟩⟩
        · rintro a w' ⟨rfl, ha⟩
          refine WL.ofJ (l := [(1, .pointer (some ⟨b_8, 0, none⟩)), (2, .pointer (some ⟨b_9, 0, none⟩)), (4, .slice A_28 (List.length l_27) k_29), (20, .bool (((!c_1.Failed) && (decide ((len l_22) > 0))) && (decide (x_21 > 0))))]) ?_ ha
          refine WL.nilThen ?_
          refine WC.cond rfl (fun hc => ?_) (fun hc => ?_)
          · replace hp := if_t hp hc
            clear hc
            refine WC.skipThen ?_
            refine WC.block ?_
            refine WC.seq ?_
            refine WC.region ?_
            refine WL.val (rv_fieldAddr FA26_10 rfl rfl) rfl ?_
            refine WL.val (rv_load1 Try.isAgg23 rfl hb_8 rfl) rfl ?_
            replace hp := bind_inv hp
            obtain ⟨x_35, e_x_35, hp⟩ := hp
            refine WL.ixSl (dt := l_22) Try.underlying23 Try.sizeOf24 rfl rfl rfl f_25 e_x_35 rfl ?_
            intro d_36 es_37 f_38 hl hr
            obtain ⟨A_39, k_40, rfl, f_41⟩ := hr
            clear hl
            refine WL.val (rv_loadA1 (ad := d_36) (o := 0) Try.isAgg24 rfl f_38 rfl) rfl ?_
            replace hp := bind_inv hp
            obtain ⟨x_42, e_x_42, hp⟩ := hp
            refine WL.call (rc_func Try.call35 rfl) (ok_wirelessref33_Form F (Mu U0 [some b_9, some b_8, ob A_28]) _ x_35 A_39 k_40 (C.give [0, 1, 2] [] (by decide) rfl rfl (by decide)) (f_41.mu (mu_give [0, 1, 2] [] rfl rfl)) _ e_x_42) rfl ?_
            rintro v w ⟨A_43, k_44, rfl, D, f_45⟩
            obtain ⟨C', T⟩ := C.join D [0, 1, 2] [] (by decide) rfl rfl (by decide)
            replace C' : Ctx U0 [] w0 [some b_9, some b_8, ob A_28] _ := C'
            replace T : TR U0 [some b_9, some b_8, ob A_28] _ [some b_9, some b_8, ob A_28] _ [] := T
            replace f_45 : Sl 1 (RInt .u8) (Mu U0 [some b_9, some b_8, ob A_28]) _ A_43 k_44 x_42 := f_45.mu (mu_join (R := []) (L2 := [some b_9, some b_8, ob A_28]) (fun b h => h))
            replace f_25 := T.sl f_25
            replace f_7 := T.sl f_7
            replace f_41 := T.sl f_41
            replace f_38 := T.at_ f_38 (by simp)
            replace hb_8 := T.blk ne0 hb_8
            replace hb_9 := T.blk ne0 hb_9
            replace f_30 := T.own ne0 f_30
            clear T; replace C := C'; clear C'
            clear D
            refine WL.val (rv_assign rfl) rfl ?_
            refine WL.nilThen ?_
            refine WC.seq ?_
            refine WC.region ?_
            refine WL.val (rv_move rfl) rfl ?_
            refine WL.val (rv_len (dt := x_42) Try.underlying24 rfl) rfl ?_
            refine WL.val (rv_fieldAddr FA26_11 rfl rfl) rfl ?_
            refine WL.val (rv_load1 Try.isAgg3 rfl hb_8 rfl) rfl ?_
            refine WL.val (rv_fieldAddr FA26_6 rfl rfl) rfl ?_
            refine WL.val (rv_load1 Try.isAgg3 rfl hb_8 rfl) rfl ?_
            refine WL.val (rv_add rfl rfl (wrap_i64 _)) rfl ?_
            refine WL.val (rv_min rfl rfl) rfl ?_
            refine WL.val (rv_assign rfl) rfl ?_
            refine WL.nilThen ?_
            refine WC.seq ?_
            refine WC.region ?_
            refine WL.val (rv_move rfl) rfl ?_
            refine WL.world (rw_buildSlice (sz := 1) (R := (RInt .u8)) (es := []) (dt := ([] : (List Int))) Try.underlying24 Try.sizeOf5 Try.zeroValue5 rfl rfl rfl rfl rfl rfl rfl rfl rfl C) rfl ?_
            rintro v w ⟨A_47, k_48, rfl, f_49, C', T⟩
            replace C' : Ctx U0 [] w0 [ob A_47, some b_9, some b_8, ob A_28] _ := C'
            replace T : TR U0 [some b_9, some b_8, ob A_28] _ [ob A_47, some b_9, some b_8, ob A_28] _ _ := T
            replace f_49 : Own 1 5 (RInt .u8) (Mu U0 [ob A_47, some b_9, some b_8, ob A_28]) _ A_47 k_48 ([] : (List Int)) := f_49
            replace f_25 := T.sl f_25
            replace f_7 := T.sl f_7
            replace f_45 := T.sl f_45
            replace hb_8 := T.blk ne0 hb_8
            replace hb_9 := T.blk ne0 hb_9
            replace f_30 := T.own ne0 f_30
            clear T; replace C := C'; clear C'
            refine WL.val (rv_move rfl) rfl ?_
            refine WL.val (rv_fieldAddr FA26_11 rfl rfl) rfl ?_
            refine WL.val (rv_load1 Try.isAgg3 rfl hb_8 rfl) rfl ?_
            refine WL.val (rv_move rfl) rfl ?_
            replace hp := bind_inv hp
            obtain ⟨l_50, e_l_50, hp⟩ := hp
            refine WL.subSl Try.underlying24 Try.sizeOf5 rfl rfl rfl (.inr ⟨_, rfl⟩) (.inr ⟨_, rfl⟩) f_45 e_l_50 rfl ?_
            intro A_51 k_52 f_53
            replace hp := bind_inv hp
            obtain ⟨l_54, e_l_54, hp⟩ := hp
            refine WL.world (rw_append (i := 0) (dt := ([] : (List Int))) Try.underlying24 I5 rfl rfl rfl rfl rfl rfl rfl rfl f_49 (f_53.src) e_l_54 rfl C) rfl ?_
            rintro v w ⟨A_55, k_56, rfl, f_57, C', T⟩
            replace C' : Ctx U0 [] w0 [ob A_55, some b_9, some b_8, ob A_28] _ := C'
            replace T : TR U0 [ob A_47, some b_9, some b_8, ob A_28] _ [ob A_55, some b_9, some b_8, ob A_28] _ _ := T
            replace f_57 : Own 1 5 (RInt .u8) (Mu U0 [ob A_55, some b_9, some b_8, ob A_28]) _ A_55 k_56 l_54 := f_57
            replace f_25 := T.sl f_25
            replace f_7 := T.sl f_7
            replace f_45 := T.sl f_45
            replace f_53 := T.sl f_53
            replace hb_8 := T.blk (C.ne (i := 2) rfl [0] rfl (by decide)) hb_8
            replace hb_9 := T.blk (C.ne (i := 1) rfl [0] rfl (by decide)) hb_9
            replace f_30 := T.own (C.ne (i := 3) rfl [0] rfl (by decide)) f_30
            clear T; replace C := C'; clear C'
            have f_59 : Sl 1 (RInt .u8) (Mu U0 [some b_9, some b_8, ob A_28]) _ A_55 k_56 l_54 := f_57.toSl (C.off (i := 0) rfl [1, 2, 3] rfl (by decide)) (Mu.weaken (mem_pick [1, 2, 3] rfl))
            have T : TR U0 [ob A_55, some b_9, some b_8, ob A_28] w [some b_9, some b_8, ob A_28] w [] := TR.pick [1, 2, 3] rfl
            have C' : Ctx U0 [] w0 [some b_9, some b_8, ob A_28] _ := C.pick [1, 2, 3] (by decide) rfl
            replace f_25 := T.sl f_25
            replace f_7 := T.sl f_7
            replace f_45 := T.sl f_45
            replace f_53 := T.sl f_53
            replace hb_8 := T.blk ne0 hb_8
            replace hb_9 := T.blk ne0 hb_9
            replace f_30 := T.own ne0 f_30
            clear T; replace C := C'; clear C'
            refine WL.world (rw_buildSlice (sz := 1) (R := (RSl 1 (RInt .u8))) (es := [.slice A_55 (List.length l_54) k_56]) (dt := [l_54]) Try.underlying23 Try.sizeOf24 Try.zeroValue24 rfl rfl rfl rfl rfl rfl rfl rfl ⟨_, _, rfl, rfl, ⟨_, _, rfl, f_59⟩, rfl⟩ C) rfl ?_
            rintro v w ⟨A_61, k_62, rfl, f_63, C', T⟩
            replace C' : Ctx U0 [] w0 [ob A_61, some b_9, some b_8, ob A_28] _ := C'
            replace T : TR U0 [some b_9, some b_8, ob A_28] _ [ob A_61, some b_9, some b_8, ob A_28] _ _ := T
            replace f_63 : Own 1 24 (RSl 1 (RInt .u8)) (Mu U0 [ob A_61, some b_9, some b_8, ob A_28]) _ A_61 k_62 [l_54] := f_63
            replace f_25 := T.sl f_25
            replace f_7 := T.sl f_7
            replace f_45 := T.sl f_45
            replace f_53 := T.sl f_53
            replace f_59 := T.sl f_59
            replace hb_8 := T.blk ne0 hb_8
            replace hb_9 := T.blk ne0 hb_9
            replace f_30 := T.own ne0 f_30
            clear T; replace C := C'; clear C'
            replace hp := bind_inv hp
            obtain ⟨l_64, e_l_64, hp⟩ := hp
            refine WL.world (rw_append (i := 3) (dt := l_27) Try.underlying23 I24 rfl rfl rfl rfl rfl rfl rfl rfl f_30 (f_63.src) e_l_64 rfl C) rfl ?_
            rintro v w ⟨A_65, k_66, rfl, f_67, C', T⟩
            replace C' : Ctx U0 [] w0 [ob A_61, some b_9, some b_8, ob A_65] _ := C'
            replace T : TR U0 [ob A_61, some b_9, some b_8, ob A_28] _ [ob A_61, some b_9, some b_8, ob A_65] _ _ := T
            replace f_67 : Own 1 24 (RSl 1 (RInt .u8)) (Mu U0 [ob A_61, some b_9, some b_8, ob A_65]) _ A_65 k_66 l_64 := f_67
            replace f_25 := T.sl f_25
            replace f_7 := T.sl f_7
            replace f_45 := T.sl f_45
            replace f_53 := T.sl f_53
            replace f_59 := T.sl f_59
            replace hb_8 := T.blk (C.ne (i := 2) rfl [3] rfl (by decide)) hb_8
            replace hb_9 := T.blk (C.ne (i := 1) rfl [3] rfl (by decide)) hb_9
            replace f_63 := T.own (C.ne (i := 0) rfl [3] rfl (by decide)) f_63
            clear T; replace C := C'; clear C'
            refine WL.val (rv_assign rfl) rfl ?_
            refine WL.nilThen ?_
            refine WC.seq ?_
            refine WC.region ?_
            refine WL.val (rv_fieldAddr FA26_7 rfl rfl) rfl ?_
            refine WL.val (rv_load1 Try.isAgg3 rfl hb_8 rfl) rfl ?_
            refine WL.val (rv_sub rfl rfl (wrap_i64 _)) rfl ?_
            refine WL.val (rv_fieldAddr FA26_7 rfl rfl) rfl ?_
            refine WL.storeK (rs_store (i := 2) (cs' := [.int .u16 c_1.Local, .int .u16 c_1.Remote, .int .u16 c_1.PSM, .int .i64 c_1.MTU, .int .i64 c_1.MPS, .int .i64 c_1.PeerMTU, .int .i64 c_1.PeerMPS, .int .i64 (w64 (x_21 - 1)), .int .i64 c_1.RxCredits, .int .i64 c_1.Given, .slice A_23 (List.length l_22) k_24, .int .i64 x_26, .slice A_5 (List.length c_1.In) k_6, .int .i64 c_1.Want, .bool c_1.Failed]) Try.sizeOf3 rfl rfl rfl rfl rfl hb_8 rfl C rfl rfl) ?_
            rintro w ⟨hb_8, C', T⟩
            replace f_25 := T.sl f_25
            replace f_7 := T.sl f_7
            replace f_45 := T.sl f_45
            replace hb_9 := T.blk (C.ne (i := 1) rfl [2] rfl (by decide)) hb_9
            replace f_67 := T.own (C.ne (i := 3) rfl [2] rfl (by decide)) f_67
            clear T; replace C := C'; clear C'
            refine WL.nilThen ?_
            refine WC.seq ?_
            refine WC.prune (l' := [(1, .pointer (some ⟨b_8, 0, none⟩)), (2, .pointer (some ⟨b_9, 0, none⟩)), (4, .slice A_65 (List.length l_64) k_66), (5, .slice A_43 (List.length x_42) k_44), (6, .int .i64 (imin (len x_42) (w64 (x_26 + c_1.PeerMPS))))]) ⟨rfl, rfl, rfl, rfl, rfl, trivial⟩ ?_
            refine WC.region ?_
            refine WL.val (rv_move rfl) rfl ?_
            refine WL.val (rv_fieldAddr FA26_11 rfl rfl) rfl ?_
            refine WL.storeK (rs_store (i := 2) (cs' := [.int .u16 c_1.Local, .int .u16 c_1.Remote, .int .u16 c_1.PSM, .int .i64 c_1.MTU, .int .i64 c_1.MPS, .int .i64 c_1.PeerMTU, .int .i64 c_1.PeerMPS, .int .i64 (w64 (x_21 - 1)), .int .i64 c_1.RxCredits, .int .i64 c_1.Given, .slice A_23 (List.length l_22) k_24, .int .i64 (imin (len x_42) (w64 (x_26 + c_1.PeerMPS))), .slice A_5 (List.length c_1.In) k_6, .int .i64 c_1.Want, .bool c_1.Failed]) Try.sizeOf3 rfl rfl rfl rfl rfl hb_8 rfl C rfl rfl) ?_
            rintro w ⟨hb_8, C', T⟩
            replace f_25 := T.sl f_25
            replace f_7 := T.sl f_7
            replace f_45 := T.sl f_45
            replace hb_9 := T.blk (C.ne (i := 1) rfl [2] rfl (by decide)) hb_9
            replace f_67 := T.own (C.ne (i := 3) rfl [2] rfl (by decide)) f_67
            clear T; replace C := C'; clear C'
            refine WL.nilThen ?_
            refine WC.seq ?_
            refine WC.region ?_
            refine WL.val (rv_move rfl) rfl ?_
            refine WL.val (rv_move rfl) rfl ?_
            refine WL.val (rv_len (dt := x_42) Try.underlying24 rfl) rfl ?_
            refine WL.val (rv_eql rfl rfl) rfl ?_
            refine WL.nilThen ?_
            refine WC.cond rfl (fun hc => ?_) (fun hc => ?_)
            · replace hp := if_t hp hc
              clear hc
              refine WC.seq ?_
              refine WC.region ?_
              refine WL.world (rw_buildSlice (sz := 1) (R := (RSl 1 (RInt .u8))) (es := []) (dt := ([] : (List (List Int)))) Try.underlying23 Try.sizeOf24 Try.zeroValue24 rfl rfl rfl rfl rfl rfl rfl rfl rfl C) rfl ?_
              rintro v w ⟨A_70, k_71, rfl, f_72, C', T⟩
              replace C' : Ctx U0 [] w0 [ob A_70, ob A_61, some b_9, some b_8, ob A_65] _ := C'
              replace T : TR U0 [ob A_61, some b_9, some b_8, ob A_65] _ [ob A_70, ob A_61, some b_9, some b_8, ob A_65] _ _ := T
              replace f_72 : Own 1 24 (RSl 1 (RInt .u8)) (Mu U0 [ob A_70, ob A_61, some b_9, some b_8, ob A_65]) _ A_70 k_71 ([] : (List (List Int))) := f_72
              replace f_25 := T.sl f_25
              replace f_7 := T.sl f_7
              replace hb_8 := T.blk ne0 hb_8
              replace hb_9 := T.blk ne0 hb_9
              replace f_67 := T.own ne0 f_67
              clear T; replace C := C'; clear C'
              refine WL.val (rv_fieldAddr FA26_10 rfl rfl) rfl ?_
              refine WL.val (rv_load1 Try.isAgg23 rfl hb_8 rfl) rfl ?_
              replace hp := bind_inv hp
              obtain ⟨l_73, e_l_73, hp⟩ := hp
              refine WL.subSl Try.underlying23 Try.sizeOf24 rfl rfl rfl (.inr ⟨_, rfl⟩) (.inl ⟨rfl, rfl⟩) f_25 e_l_73 rfl ?_
              intro A_74 k_75 f_76
              replace hp := bind_inv hp
              obtain ⟨l_77, e_l_77, hp⟩ := hp
              refine WL.world (rw_append (i := 0) (dt := ([] : (List (List Int)))) Try.underlying23 I24 rfl rfl rfl rfl rfl rfl rfl rfl f_72 (f_76.src) e_l_77 rfl C) rfl ?_
              rintro v w ⟨A_78, k_79, rfl, f_80, C', T⟩
              replace C' : Ctx U0 [] w0 [ob A_78, ob A_61, some b_9, some b_8, ob A_65] _ := C'
              replace T : TR U0 [ob A_70, ob A_61, some b_9, some b_8, ob A_65] _ [ob A_78, ob A_61, some b_9, some b_8, ob A_65] _ _ := T
              replace f_80 : Own 1 24 (RSl 1 (RInt .u8)) (Mu U0 [ob A_78, ob A_61, some b_9, some b_8, ob A_65]) _ A_78 k_79 l_77 := f_80
              replace f_25 := T.sl f_25
              replace f_7 := T.sl f_7
              replace f_76 := T.sl f_76
              replace hb_8 := T.blk (C.ne (i := 3) rfl [0] rfl (by decide)) hb_8
              replace hb_9 := T.blk (C.ne (i := 2) rfl [0] rfl (by decide)) hb_9
              replace f_67 := T.own (C.ne (i := 4) rfl [0] rfl (by decide)) f_67
              clear T; replace C := C'; clear C'
              refine WL.val (rv_fieldAddr FA26_10 rfl rfl) rfl ?_
              refine WL.storeK (rs_store (i := 3) (cs' := [.int .u16 c_1.Local, .int .u16 c_1.Remote, .int .u16 c_1.PSM, .int .i64 c_1.MTU, .int .i64 c_1.MPS, .int .i64 c_1.PeerMTU, .int .i64 c_1.PeerMPS, .int .i64 (w64 (x_21 - 1)), .int .i64 c_1.RxCredits, .int .i64 c_1.Given, .slice A_78 (List.length l_77) k_79, .int .i64 (imin (len x_42) (w64 (x_26 + c_1.PeerMPS))), .slice A_5 (List.length c_1.In) k_6, .int .i64 c_1.Want, .bool c_1.Failed]) Try.sizeOf23 rfl rfl rfl rfl rfl hb_8 rfl C rfl rfl) ?_
              rintro w ⟨hb_8, C', T⟩
              replace f_25 := T.sl f_25
              replace f_7 := T.sl f_7
              replace f_76 := T.sl f_76
              replace hb_9 := T.blk (C.ne (i := 2) rfl [3] rfl (by decide)) hb_9
              replace f_67 := T.own (C.ne (i := 4) rfl [3] rfl (by decide)) f_67
              replace f_80 := T.own (C.ne (i := 0) rfl [3] rfl (by decide)) f_80
              clear T; replace C := C'; clear C'
              refine WL.nilThen ?_
              refine WC.region ?_
              refine WL.val (rv_fieldAddr FA26_11 rfl rfl) rfl ?_
              refine WL.storeK (rs_store (i := 3) (cs' := [.int .u16 c_1.Local, .int .u16 c_1.Remote, .int .u16 c_1.PSM, .int .i64 c_1.MTU, .int .i64 c_1.MPS, .int .i64 c_1.PeerMTU, .int .i64 c_1.PeerMPS, .int .i64 (w64 (x_21 - 1)), .int .i64 c_1.RxCredits, .int .i64 c_1.Given, .slice A_78 (List.length l_77) k_79, .int .i64 0, .slice A_5 (List.length c_1.In) k_6, .int .i64 c_1.Want, .bool c_1.Failed]) Try.sizeOf3 rfl rfl rfl rfl rfl hb_8 rfl C rfl rfl) ?_
              rintro w ⟨hb_8, C', T⟩
              replace f_7 := T.sl f_7
              replace hb_9 := T.blk (C.ne (i := 2) rfl [3] rfl (by decide)) hb_9
              replace f_67 := T.own (C.ne (i := 4) rfl [3] rfl (by decide)) f_67
              replace f_80 := T.own (C.ne (i := 0) rfl [3] rfl (by decide)) f_80
              clear T; replace C := C'; clear C'
              refine WL.nil (fun a ha => ?_)
              have ho := next_inv hp hs_32
              have f_82 : Sl 1 (RSl 1 (RInt .u8)) (Mu U0 [ob A_61, some b_9, some b_8, ob A_65]) _ A_78 k_79 l_77 := f_80.toSl (C.off (i := 0) rfl [1, 2, 3, 4] rfl (by decide)) (Mu.weaken (mem_pick [1, 2, 3, 4] rfl))
              have T : TR U0 [ob A_78, ob A_61, some b_9, some b_8, ob A_65] w [ob A_61, some b_9, some b_8, ob A_65] w [] := TR.pick [1, 2, 3, 4] rfl
              have C' : Ctx U0 [] w0 [ob A_61, some b_9, some b_8, ob A_65] _ := C.pick [1, 2, 3, 4] (by decide) rfl
              replace f_7 := T.sl f_7
              replace hb_8 := T.blk ne0 hb_8
              replace hb_9 := T.blk ne0 hb_9
              replace f_67 := T.own ne0 f_67
              clear T; replace C := C'; clear C'
              have T : TR U0 [ob A_61, some b_9, some b_8, ob A_65] w [some b_9, some b_8, ob A_65] w [] := TR.pick [1, 2, 3] rfl
              have C' : Ctx U0 [] w0 [some b_9, some b_8, ob A_65] _ := C.pick [1, 2, 3] (by decide) rfl
              replace f_7 := T.sl f_7
              replace f_82 := T.sl f_82
              replace hb_8 := T.blk ne0 hb_8
              replace hb_9 := T.blk ne0 hb_9
              replace f_67 := T.own ne0 f_67
              clear T; replace C := C'; clear C'
              exact ⟨n_32, Nat.lt_succ_self _, ⟨w64 (x_21 - 1), l_77, 0, l_64, A_78, k_79, A_65, k_66, ho, ha.sub ⟨rfl, rfl, rfl, trivial⟩, C, f_82, f_7, hb_8, hb_9, f_67⟩⟩
            · replace hp := if_f hp hc
              clear hc
              refine WC.skip (fun a ha => ?_)
              have ho := next_inv hp hs_32
              have T : TR U0 [ob A_61, some b_9, some b_8, ob A_65] w [some b_9, some b_8, ob A_65] w [] := TR.pick [1, 2, 3] rfl
              have C' : Ctx U0 [] w0 [some b_9, some b_8, ob A_65] _ := C.pick [1, 2, 3] (by decide) rfl
              replace f_25 := T.sl f_25
              replace f_7 := T.sl f_7
              replace hb_8 := T.blk ne0 hb_8
              replace hb_9 := T.blk ne0 hb_9
              replace f_67 := T.own ne0 f_67
              clear T; replace C := C'; clear C'
              exact ⟨n_32, Nat.lt_succ_self _, ⟨w64 (x_21 - 1), l_22, imin (len x_42) (w64 (x_26 + c_1.PeerMPS)), l_64, A_23, k_24, A_65, k_66, ho, ha.sub ⟨rfl, rfl, rfl, trivial⟩, C, f_25, f_7, hb_8, hb_9, f_67⟩⟩
          · replace hp := if_f hp hc
            clear hc
            refine WC.exitJ rfl (fun a ha => ?_)
            have ho := done_inv hp hs_32
            replace hp := hpo_32
            try rw [ho] at hp
            exact ⟨x_21, l_22, x_26, l_27, A_23, k_24, A_28, k_29, hp, ha.sub ⟨rfl, rfl, rfl, trivial⟩, C, f_25, f_7, hb_8, hb_9, f_30⟩
  · rintro a w ⟨x_10, l_11, x_15, l_16, A_12, k_13, A_17, k_18, hp, ha, C, f_14, f_7, hb_8, hb_9, f_19⟩
    refine WC.ofJ (l := [(1, .pointer (some ⟨b_8, 0, none⟩)), (2, .pointer (some ⟨b_9, 0, none⟩)), (4, .slice A_17 (List.length l_16) k_18)]) ?_ ha
    refine WC.seq ?_
    refine WC.region ?_
    refine WL.val (rv_loadN Try.isAgg26 Try.sizeOf26 rfl hb_8 rfl rfl) rfl ?_
    refine WL.val (rv_move rfl) rfl ?_
    refine WL.storeK (rs_store (i := 0) (cs' := [.int .u16 c_1.Local, .int .u16 c_1.Remote, .int .u16 c_1.PSM, .int .i64 c_1.MTU, .int .i64 c_1.MPS, .int .i64 c_1.PeerMTU, .int .i64 c_1.PeerMPS, .int .i64 x_10, .int .i64 c_1.RxCredits, .int .i64 c_1.Given, .slice A_12 (List.length l_11) k_13, .int .i64 x_15, .slice A_5 (List.length c_1.In) k_6, .int .i64 c_1.Want, .bool c_1.Failed]) Try.sizeOf26 rfl rfl rfl rfl rfl hb_9 rfl C rfl rfl) ?_
    rintro w ⟨hb_9, C', T⟩
    replace f_14 := T.sl f_14
    replace f_7 := T.sl f_7
    replace hb_8 := T.blk (C.ne (i := 1) rfl [0] rfl (by decide)) hb_8
    replace f_19 := T.own (C.ne (i := 2) rfl [0] rfl (by decide)) f_19
    clear T; replace C := C'; clear C'
    refine WL.val (rv_assign rfl) rfl ?_
    refine WL.nilThen ?_
    obtain rfl := some_inv' hp
    refine WC.ret (retK (rs := [.cell 2 26, .tmp 3]) (vs := [.agg #[.int .u16 c_1.Local, .int .u16 c_1.Remote, .int .u16 c_1.PSM, .int .i64 c_1.MTU, .int .i64 c_1.MPS, .int .i64 c_1.PeerMTU, .int .i64 c_1.PeerMPS, .int .i64 x_10, .int .i64 c_1.RxCredits, .int .i64 c_1.Given, .slice A_12 (List.length l_11) k_13, .int .i64 x_15, .slice A_5 (List.length c_1.In) k_6, .int .i64 c_1.Want, .bool c_1.Failed], .slice A_17 (List.length l_16) k_18]) rfl ⟨rv1_cell Try.isAgg26 Try.sizeOf26 rfl hb_9 rfl, rv1_tmp rfl, trivial⟩ ?_)
    have f_30 : Sl 1 (RSl 1 (RInt .u8)) (Mu U0 [some b_9, some b_8]) _ A_17 k_18 l_16 := f_19.toSl (C.off (i := 2) rfl [0, 1] rfl (by decide)) (Mu.weaken (mem_pick [0, 1] rfl))
    have T : TR U0 [some b_9, some b_8, ob A_17] w [some b_9, some b_8] w [] := TR.pick [0, 1] rfl
    have C' : Ctx U0 [] w0 [some b_9, some b_8] _ := C.pick [0, 1] (by decide) rfl
    replace f_14 := T.sl f_14
    replace f_7 := T.sl f_7
    clear T; replace C := C'; clear C'
    have T : TR U0 [some b_9, some b_8] w [] w [] := TR.pick [] rfl
    have C' : Ctx U0 [] w0 [] _ := C.pick [] (by decide) rfl
    replace f_14 := T.sl f_14
    replace f_7 := T.sl f_7
    replace f_30 := T.sl f_30
    clear T; replace C := C'; clear C'
    exact ⟨_, rfl, A_12, k_13, A_5, k_6, A_17, k_18, rfl, C, f_14, f_7, f_30⟩

theorem ok_sdu_form (F : Nat) (U0 : Nat → Prop) (w0 : World) (sdu_1 : (List Int)) (A_2 : Option Addr) (k_3 : Nat) (C : Ctx U0 [] w0 [] w0) (f_4 : Sl 1 (RInt .u8) (Mu U0 []) w0 A_2 k_3 sdu_1) (r : (List Int)) (hp : sdu_form F sdu_1 = some r) :
    Calls Try.prog 34 #[.slice A_2 (List.length sdu_1) k_3] w0 fun e w => ∃ v, e = .returned v ∧ ∃ (A_20 : Option Addr) (k_21 : Nat), (v = .slice A_20 (List.length r) k_21) ∧ (Ctx U0 [] w0 [] w) ∧ (Sl 1 (RInt .u8) (Mu U0 []) w A_20 k_21 r) := by
  refine calls_enter (vs := [.slice A_2 (List.length sdu_1) k_3]) Try.func34 rfl Try.ntmps34 rfl ?_
  refine WC.prune (l' := [(0, .slice A_2 (List.length sdu_1) k_3)]) ⟨rfl, trivial⟩ ?_
  skip
  refine WC.seq ?_
  refine WC.region ?_
  refine WL.val (rv_assign rfl) rfl ?_
  refine WL.nilThen ?_
  refine WC.seq ?_
  refine WC.region ?_
  refine WL.val (rv_move rfl) rfl ?_
  refine WL.val (rv_len (dt := sdu_1) Try.underlying24 rfl) rfl ?_
  refine WL.val (rv_conv Try.underlying3 Try.underlying5 rfl (wrap_u8 _)) rfl ?_
  refine WL.val (rv_move rfl) rfl ?_
  refine WL.val (rv_len (dt := sdu_1) Try.underlying24 rfl) rfl ?_
  replace hp := bind_inv hp
  obtain ⟨x_5, e_x_5, hp⟩ := hp
  refine WL.val (rv_shr rfl rfl e_x_5) rfl ?_
  refine WL.val (rv_conv Try.underlying3 Try.underlying5 rfl (wrap_u8 _)) rfl ?_
  refine WL.world (rw_buildSlice (sz := 1) (R := (RInt .u8)) (es := [.int .u8 (wu8 (len sdu_1)), .int .u8 (wu8 x_5)]) (dt := [wu8 (len sdu_1), wu8 x_5]) Try.underlying24 Try.sizeOf5 Try.zeroValue5 rfl rfl rfl rfl rfl rfl rfl rfl ⟨_, _, rfl, rfl, rfl, ⟨_, _, rfl, rfl, rfl, rfl⟩⟩ C) rfl ?_
  rintro v w ⟨A_7, k_8, rfl, f_9, C', T⟩
  replace C' : Ctx U0 [] w0 [ob A_7] _ := C'
  replace T : TR U0 [] _ [ob A_7] _ _ := T
  replace f_9 : Own 1 5 (RInt .u8) (Mu U0 [ob A_7]) _ A_7 k_8 [wu8 (len sdu_1), wu8 x_5] := f_9
  replace f_4 := T.sl f_4
  clear T; replace C := C'; clear C'
  refine WL.val (rv_move rfl) rfl ?_
  have f_10 : Sl 1 (RInt .u8) (Mu U0 []) _ A_7 k_8 [wu8 (len sdu_1), wu8 x_5] := f_9.toSl (C.off (i := 0) rfl [] rfl (by decide)) (Mu.weaken (mem_pick [] rfl))
  have T : TR U0 [ob A_7] w [] w [] := TR.pick [] rfl
  have C' : Ctx U0 [] w0 [] _ := C.pick [] (by decide) rfl
  replace f_4 := T.sl f_4
  clear T; replace C := C'; clear C'
  refine WL.world (rw_buildSlice (sz := 1) (R := (RSl 1 (RInt .u8))) (es := [.slice A_7 (List.length [wu8 (len sdu_1), wu8 x_5]) k_8, .slice A_2 (List.length sdu_1) k_3]) (dt := [[wu8 (len sdu_1), wu8 x_5], sdu_1]) Try.underlying23 Try.sizeOf24 Try.zeroValue24 rfl rfl rfl rfl rfl rfl rfl rfl ⟨_, _, rfl, rfl, ⟨_, _, rfl, f_10⟩, ⟨_, _, rfl, rfl, ⟨_, _, rfl, f_4⟩, rfl⟩⟩ C) rfl ?_
  rintro v w ⟨A_12, k_13, rfl, f_14, C', T⟩
  replace C' : Ctx U0 [] w0 [ob A_12] _ := C'
  replace T : TR U0 [] _ [ob A_12] _ _ := T
  replace f_14 : Own 1 24 (RSl 1 (RInt .u8)) (Mu U0 [ob A_12]) _ A_12 k_13 [[wu8 (len sdu_1), wu8 x_5], sdu_1] := f_14
  replace f_4 := T.sl f_4
  replace f_10 := T.sl f_10
  clear T; replace C := C'; clear C'
  have f_15 : Sl 1 (RSl 1 (RInt .u8)) (Mu U0 []) _ A_12 k_13 [[wu8 (len sdu_1), wu8 x_5], sdu_1] := f_14.toSl (C.off (i := 0) rfl [] rfl (by decide)) (Mu.weaken (mem_pick [] rfl))
  have T : TR U0 [ob A_12] w [] w [] := TR.pick [] rfl
  have C' : Ctx U0 [] w0 [] _ := C.pick [] (by decide) rfl
  replace f_4 := T.sl f_4
  replace f_10 := T.sl f_10
  clear T; replace C := C'; clear C'
  replace hp := bind_inv hp
  obtain ⟨x_16, e_x_16, hp⟩ := hp
  refine WL.call (rc_func Try.call37 rfl) (ok_octets_Join F (Mu U0 []) _ [[wu8 (len sdu_1), wu8 x_5], sdu_1] A_12 k_13 (C.give [] [] (by decide) rfl rfl (by decide)) (f_15.mu (mu_give [] [] rfl rfl)) _ e_x_16) rfl ?_
  rintro v w ⟨A_17, k_18, rfl, D, f_19⟩
  obtain ⟨C', T⟩ := C.join D [] [] (by decide) rfl rfl (by decide)
  replace C' : Ctx U0 [] w0 [] _ := C'
  replace T : TR U0 [] _ [] _ [] := T
  replace f_19 : Sl 1 (RInt .u8) (Mu U0 []) _ A_17 k_18 x_16 := f_19.mu (mu_join (R := []) (L2 := []) (fun b h => h))
  replace f_4 := T.sl f_4
  replace f_10 := T.sl f_10
  replace f_15 := T.sl f_15
  clear T; replace C := C'; clear C'
  clear D
  refine WL.val (rv_assign rfl) rfl ?_
  refine WL.nilThen ?_
  obtain rfl := some_inv' hp
  refine WC.ret (retK (rs := [.tmp 2]) (vs := [.slice A_17 (List.length x_16) k_18]) rfl ⟨rv1_tmp rfl, trivial⟩ ?_)
  exact ⟨_, rfl, A_17, k_18, rfl, C, f_19⟩

theorem ok_sdu_Output_1 (F : Nat) (U0 : Nat → Prop) (w0 : World) (p_1 : T_api_Channel) (p_9 : (List (List Int))) (A_2 : Option Addr) (k_3 : Nat) (A_5 : Option Addr) (k_6 : Nat) (b_8 : Nat) (A_10 : Option Addr) (k_11 : Nat) (b_14 : Nat) (C : Ctx U0 [some b_8, some b_14, ob A_10] w0 [some b_8, some b_14, ob A_10] w0) (f_4 : Sl 1 (RSl 1 (RInt .u8)) (Mu U0 [some b_8, some b_14, ob A_10]) w0 A_2 k_3 p_1.Out) (f_7 : Sl 1 (RInt .u8) (Mu U0 [some b_8, some b_14, ob A_10]) w0 A_5 k_6 p_1.In) (hb_8 : Blk w0 b_8 26 [.int .u16 p_1.Local, .int .u16 p_1.Remote, .int .u16 p_1.PSM, .int .i64 p_1.MTU, .int .i64 p_1.MPS, .int .i64 p_1.PeerMTU, .int .i64 p_1.PeerMPS, .int .i64 p_1.TxCredits, .int .i64 p_1.RxCredits, .int .i64 p_1.Given, .slice A_2 (List.length p_1.Out) k_3, .int .i64 p_1.Sent, .slice A_5 (List.length p_1.In) k_6, .int .i64 p_1.Want, .bool p_1.Failed]) (hb_14 : Blk w0 b_14 23 [.slice A_10 (List.length p_9) k_11]) (f_12 : Own 1 24 (RSl 1 (RInt .u8)) (Mu U0 [some b_8, some b_14, ob A_10]) w0 A_10 k_11 p_9) (r : T_api_Channel × (List (List Int))) (hp : sdu_Output_1 F p_1 p_9 = some r) :
    Calls Try.prog 33 #[.pointer (some ⟨b_8, 0, none⟩), .pointer (some ⟨b_14, 0, none⟩)] w0 fun e w => ∃ v, e = .returned v ∧ ∃ (A_50 : Option Addr) (k_51 : Nat) (A_53 : Option Addr) (k_54 : Nat) (A_56 : Option Addr) (k_57 : Nat), (v = .tuple #[]) ∧ (Ctx U0 [some b_8, some b_14, ob A_10] w0 [some b_8, some b_14, ob A_56] w) ∧ (Sl 1 (RSl 1 (RInt .u8)) (Mu U0 [some b_8, some b_14, ob A_56]) w A_50 k_51 r.1.Out) ∧ (Sl 1 (RInt .u8) (Mu U0 [some b_8, some b_14, ob A_56]) w A_53 k_54 r.1.In) ∧ (Blk w b_8 26 [.int .u16 r.1.Local, .int .u16 r.1.Remote, .int .u16 r.1.PSM, .int .i64 r.1.MTU, .int .i64 r.1.MPS, .int .i64 r.1.PeerMTU, .int .i64 r.1.PeerMPS, .int .i64 r.1.TxCredits, .int .i64 r.1.RxCredits, .int .i64 r.1.Given, .slice A_50 (List.length r.1.Out) k_51, .int .i64 r.1.Sent, .slice A_53 (List.length r.1.In) k_54, .int .i64 r.1.Want, .bool r.1.Failed]) ∧ (Blk w b_14 23 [.slice A_56 (List.length r.2) k_57]) ∧ (Own 1 24 (RSl 1 (RInt .u8)) (Mu U0 [some b_8, some b_14, ob A_56]) w A_56 k_57 r.2) := by
  refine calls_enter (vs := [.pointer (some ⟨b_8, 0, none⟩), .pointer (some ⟨b_14, 0, none⟩)]) Try.func33 rfl Try.ntmps33 rfl ?_
  refine WC.prune (l' := [(0, .pointer (some ⟨b_8, 0, none⟩)), (1, .pointer (some ⟨b_14, 0, none⟩))]) ⟨rfl, rfl, trivial⟩ ?_
  skip
  refine WC.seq ?_
  refine WC.region ?_
  refine WL.val (rv_fieldAddr FA26_10 rfl rfl) rfl ?_
  refine WL.val (rv_load1 Try.isAgg23 rfl hb_8 rfl) rfl ?_
  replace hp := bind_inv hp
  obtain ⟨x_15, e_x_15, hp⟩ := hp
  refine WL.ixSl (dt := p_1.Out) Try.underlying23 Try.sizeOf24 rfl rfl rfl f_4 e_x_15 rfl ?_
  intro d_16 es_17 f_18 hl hr
  obtain ⟨A_19, k_20, rfl, f_21⟩ := hr
  clear hl
  refine WL.val (rv_loadA1 (ad := d_16) (o := 0) Try.isAgg24 rfl f_18 rfl) rfl ?_
  replace hp := bind_inv hp
  obtain ⟨x_22, e_x_22, hp⟩ := hp
  refine WL.call (rc_func Try.call34 rfl) (ok_sdu_form F (Mu U0 [some b_8, some b_14, ob A_10]) _ x_15 A_19 k_20 (C.give [0, 1, 2] [] (by decide) rfl rfl (by decide)) (f_21.mu (mu_give [0, 1, 2] [] rfl rfl)) _ e_x_22) rfl ?_
  rintro v w ⟨A_23, k_24, rfl, D, f_25⟩
  obtain ⟨C', T⟩ := C.join D [0, 1, 2] [] (by decide) rfl rfl (by decide)
  replace C' : Ctx U0 [some b_8, some b_14, ob A_10] w0 [some b_8, some b_14, ob A_10] _ := C'
  replace T : TR U0 [some b_8, some b_14, ob A_10] _ [some b_8, some b_14, ob A_10] _ [] := T
  replace f_25 : Sl 1 (RInt .u8) (Mu U0 [some b_8, some b_14, ob A_10]) _ A_23 k_24 x_22 := f_25.mu (mu_join (R := []) (L2 := [some b_8, some b_14, ob A_10]) (fun b h => h))
  replace f_4 := T.sl f_4
  replace f_7 := T.sl f_7
  replace f_21 := T.sl f_21
  replace f_18 := T.at_ f_18 (by simp)
  replace hb_8 := T.blk ne0 hb_8
  replace hb_14 := T.blk ne0 hb_14
  replace f_12 := T.own ne0 f_12
  clear T; replace C := C'; clear C'
  clear D
  refine WL.val (rv_assign rfl) rfl ?_
  refine WL.nilThen ?_
  refine WC.seq ?_
  refine WC.region ?_
  refine WL.val (rv_fieldAddr FA26_11 rfl rfl) rfl ?_
  refine WL.val (rv_load1 Try.isAgg3 rfl hb_8 rfl) rfl ?_
  refine WL.val (rv_move rfl) rfl ?_
  refine WL.val (rv_len (dt := x_22) Try.underlying24 rfl) rfl ?_
  refine WL.val (rv_min rfl rfl) rfl ?_
  refine WL.val (rv_max rfl rfl) rfl ?_
  refine WL.val (rv_assign rfl) rfl ?_
  refine WL.nilThen ?_
  refine WC.seq ?_
  refine WC.region ?_
  refine WL.val (rv_fieldAddr FA26_6 rfl rfl) rfl ?_
  refine WL.val (rv_load1 Try.isAgg3 rfl hb_8 rfl) rfl ?_
  refine WL.val (rv_move rfl) rfl ?_
  refine WL.val (rv_len (dt := x_22) Try.underlying24 rfl) rfl ?_
  refine WL.val (rv_move rfl) rfl ?_
  refine WL.val (rv_sub rfl rfl (wrap_i64 _)) rfl ?_
  refine WL.val (rv_min rfl rfl) rfl ?_
  refine WL.val (rv_max rfl rfl) rfl ?_
  refine WL.val (rv_assign rfl) rfl ?_
  refine WL.nilThen ?_
  refine WC.seq ?_
  refine WC.region ?_
  refine WL.val (rv_move rfl) rfl ?_
  refine WL.val (rv_move rfl) rfl ?_
  refine WL.val (rv_len (dt := x_22) Try.underlying24 rfl) rfl ?_
  refine WL.val (rv_move rfl) rfl ?_
  refine WL.val (rv_sub rfl rfl (wrap_i64 _)) rfl ?_
  refine WL.val (rv_min rfl rfl) rfl ?_
  replace hp := bind_inv hp
  obtain ⟨l_26, e_l_26, hp⟩ := hp
  refine WL.world (rw_make (sz := 1) (zs := [.int .u8 0]) (R := (RInt .u8)) Try.underlying24 I5 rfl rfl rfl rfl rfl rfl rfl (fun _ _ => rfl) e_l_26 C) rfl ?_
  rintro v w ⟨A_28, k_29, rfl, f_30, C', T⟩
  replace C' : Ctx U0 [some b_8, some b_14, ob A_10] w0 [ob A_28, some b_8, some b_14, ob A_10] _ := C'
  replace T : TR U0 [some b_8, some b_14, ob A_10] _ [ob A_28, some b_8, some b_14, ob A_10] _ _ := T
  replace f_30 : Own 1 5 (RInt .u8) (Mu U0 [ob A_28, some b_8, some b_14, ob A_10]) _ A_28 k_29 l_26 := f_30
  replace f_4 := T.sl f_4
  replace f_7 := T.sl f_7
  replace f_25 := T.sl f_25
  replace hb_8 := T.blk ne0 hb_8
  replace hb_14 := T.blk ne0 hb_14
  replace f_12 := T.own ne0 f_12
  clear T; replace C := C'; clear C'
  refine WL.val (rv_assign rfl) rfl ?_
  refine WL.nilThen ?_
  refine WC.seq ?_
  refine WC.region ?_
  refine WL.val (rv_move rfl) rfl ?_
  refine WL.val (rv_move rfl) rfl ?_
  refine WL.val (rv_move rfl) rfl ?_
  replace hp := bind_inv hp
  obtain ⟨l_31, e_l_31, hp⟩ := hp
  refine WL.subSl Try.underlying24 Try.sizeOf5 rfl rfl rfl (.inr ⟨_, rfl⟩) (.inl ⟨rfl, rfl⟩) f_25 e_l_31 rfl ?_
  intro A_32 k_33 f_34
  refine WL.world (rw_copy (i := 0) (dt := l_26) Try.underlying24 (congrArg (Option.map (·.size)) I5) rfl rfl rfl f_30 (f_34.src) rfl C) rfl ?_
  rintro v w ⟨rfl, f_30, C', T⟩
  replace f_4 := T.sl f_4
  replace f_7 := T.sl f_7
  replace f_25 := T.sl f_25
  replace f_34 := T.sl f_34
  replace hb_8 := T.blk (C.ne (i := 1) rfl [0] rfl (by decide)) hb_8
  replace hb_14 := T.blk (C.ne (i := 2) rfl [0] rfl (by decide)) hb_14
  replace f_12 := T.own (C.ne (i := 3) rfl [0] rfl (by decide)) f_12
  clear T; replace C := C'; clear C'
  refine WL.prune (l' := [(0, .pointer (some ⟨b_8, 0, none⟩)), (1, .pointer (some ⟨b_14, 0, none⟩)), (2, .slice A_23 (List.length x_22) k_24), (3, .int .i64 (imax 0 (imin p_1.Sent (len x_22)))), (4, .int .i64 (imax 1 (imin p_1.PeerMPS (w64 ((len x_22) - (imax 0 (imin p_1.Sent (len x_22)))))))), (5, .slice A_28 (List.length (cpy l_26 l_31)) k_29), (32, .slice A_28 (List.length (cpy l_26 l_31)) k_29), (33, .slice A_23 (List.length x_22) k_24), (34, .int .i64 (imax 0 (imin p_1.Sent (len x_22)))), (35, .slice A_32 (List.length l_31) k_33)]) ⟨rfl, rfl, rfl, rfl, rfl, (by rw [show List.length (cpy l_26 l_31) = List.length l_26 from cpy_eq]; rfl), (by rw [show List.length (cpy l_26 l_31) = List.length l_26 from cpy_eq]; rfl), rfl, rfl, rfl, trivial⟩ ?_
  refine WL.nilThen ?_
  refine WC.seq ?_
  refine WC.region ?_
  refine WL.val (rv_load1 Try.isAgg23 rfl hb_14 rfl) rfl ?_
  refine WL.val (rv_move rfl) rfl ?_
  have f_36 : Sl 1 (RInt .u8) (Mu U0 [some b_8, some b_14, ob A_10]) _ A_28 k_29 (cpy l_26 l_31) := f_30.toSl (C.off (i := 0) rfl [1, 2, 3] rfl (by decide)) (Mu.weaken (mem_pick [1, 2, 3] rfl))
  have T : TR U0 [ob A_28, some b_8, some b_14, ob A_10] w [some b_8, some b_14, ob A_10] w [] := TR.pick [1, 2, 3] rfl
  have C' : Ctx U0 [some b_8, some b_14, ob A_10] w0 [some b_8, some b_14, ob A_10] _ := C.pick [1, 2, 3] (by decide) rfl
  replace f_4 := T.sl f_4
  replace f_7 := T.sl f_7
  replace f_25 := T.sl f_25
  replace hb_8 := T.blk ne0 hb_8
  replace hb_14 := T.blk ne0 hb_14
  replace f_12 := T.own ne0 f_12
  clear T; replace C := C'; clear C'
  refine WL.world (rw_buildSlice (sz := 1) (R := (RSl 1 (RInt .u8))) (es := [.slice A_28 (List.length (cpy l_26 l_31)) k_29]) (dt := [cpy l_26 l_31]) Try.underlying23 Try.sizeOf24 Try.zeroValue24 rfl rfl rfl rfl rfl rfl rfl rfl ⟨_, _, rfl, rfl, ⟨_, _, rfl, f_36⟩, rfl⟩ C) rfl ?_
  rintro v w ⟨A_38, k_39, rfl, f_40, C', T⟩
  replace C' : Ctx U0 [some b_8, some b_14, ob A_10] w0 [ob A_38, some b_8, some b_14, ob A_10] _ := C'
  replace T : TR U0 [some b_8, some b_14, ob A_10] _ [ob A_38, some b_8, some b_14, ob A_10] _ _ := T
  replace f_40 : Own 1 24 (RSl 1 (RInt .u8)) (Mu U0 [ob A_38, some b_8, some b_14, ob A_10]) _ A_38 k_39 [cpy l_26 l_31] := f_40
  replace f_4 := T.sl f_4
  replace f_7 := T.sl f_7
  replace f_25 := T.sl f_25
  replace f_36 := T.sl f_36
  replace hb_8 := T.blk ne0 hb_8
  replace hb_14 := T.blk ne0 hb_14
  replace f_12 := T.own ne0 f_12
  clear T; replace C := C'; clear C'
  replace hp := bind_inv hp
  obtain ⟨l_41, e_l_41, hp⟩ := hp
  refine WL.world (rw_append (i := 3) (dt := p_9) Try.underlying23 I24 rfl rfl rfl rfl rfl rfl rfl rfl f_12 (f_40.src) e_l_41 rfl C) rfl ?_
  rintro v w ⟨A_42, k_43, rfl, f_44, C', T⟩
  replace C' : Ctx U0 [some b_8, some b_14, ob A_10] w0 [ob A_38, some b_8, some b_14, ob A_42] _ := C'
  replace T : TR U0 [ob A_38, some b_8, some b_14, ob A_10] _ [ob A_38, some b_8, some b_14, ob A_42] _ _ := T
  replace f_44 : Own 1 24 (RSl 1 (RInt .u8)) (Mu U0 [ob A_38, some b_8, some b_14, ob A_42]) _ A_42 k_43 l_41 := f_44
  replace f_4 := T.sl f_4
  replace f_7 := T.sl f_7
  replace f_25 := T.sl f_25
  replace f_36 := T.sl f_36
  replace hb_8 := T.blk (C.ne (i := 1) rfl [3] rfl (by decide)) hb_8
  replace hb_14 := T.blk (C.ne (i := 2) rfl [3] rfl (by decide)) hb_14
  replace f_40 := T.own (C.ne (i := 0) rfl [3] rfl (by decide)) f_40
  clear T; replace C := C'; clear C'
  refine WL.storeK (rs_store (i := 2) (cs' := [.slice A_42 (List.length l_41) k_43]) Try.sizeOf23 rfl rfl rfl rfl rfl hb_14 rfl C rfl rfl) ?_
  rintro w ⟨hb_14, C', T⟩
  replace f_4 := T.sl f_4
  replace f_7 := T.sl f_7
  replace f_25 := T.sl f_25
  replace f_36 := T.sl f_36
  replace hb_8 := T.blk (C.ne (i := 1) rfl [2] rfl (by decide)) hb_8
  replace f_40 := T.own (C.ne (i := 0) rfl [2] rfl (by decide)) f_40
  replace f_44 := T.own (C.ne (i := 3) rfl [2] rfl (by decide)) f_44
  clear T; replace C := C'; clear C'
  refine WL.nilThen ?_
  refine WC.seq ?_
  refine WC.region ?_
  refine WL.val (rv_fieldAddr FA26_7 rfl rfl) rfl ?_
  refine WL.val (rv_load1 Try.isAgg3 rfl hb_8 rfl) rfl ?_
  refine WL.val (rv_sub rfl rfl (wrap_i64 _)) rfl ?_
  refine WL.val (rv_fieldAddr FA26_7 rfl rfl) rfl ?_
  refine WL.storeK (rs_store (i := 1) (cs' := [.int .u16 p_1.Local, .int .u16 p_1.Remote, .int .u16 p_1.PSM, .int .i64 p_1.MTU, .int .i64 p_1.MPS, .int .i64 p_1.PeerMTU, .int .i64 p_1.PeerMPS, .int .i64 (w64 (p_1.TxCredits - 1)), .int .i64 p_1.RxCredits, .int .i64 p_1.Given, .slice A_2 (List.length p_1.Out) k_3, .int .i64 p_1.Sent, .slice A_5 (List.length p_1.In) k_6, .int .i64 p_1.Want, .bool p_1.Failed]) Try.sizeOf3 rfl rfl rfl rfl rfl hb_8 rfl C rfl rfl) ?_
  rintro w ⟨hb_8, C', T⟩
  replace f_4 := T.sl f_4
  replace f_7 := T.sl f_7
  replace f_25 := T.sl f_25
  replace hb_14 := T.blk (C.ne (i := 2) rfl [1] rfl (by decide)) hb_14
  replace f_44 := T.own (C.ne (i := 3) rfl [1] rfl (by decide)) f_44
  clear T; replace C := C'; clear C'
  refine WL.nilThen ?_
  refine WC.seq ?_
  refine WC.region ?_
  refine WL.val (rv_move rfl) rfl ?_
  refine WL.val (rv_move rfl) rfl ?_
  refine WL.val (rv_add rfl rfl (wrap_i64 _)) rfl ?_
  refine WL.val (rv_fieldAddr FA26_11 rfl rfl) rfl ?_
  refine WL.storeK (rs_store (i := 1) (cs' := [.int .u16 p_1.Local, .int .u16 p_1.Remote, .int .u16 p_1.PSM, .int .i64 p_1.MTU, .int .i64 p_1.MPS, .int .i64 p_1.PeerMTU, .int .i64 p_1.PeerMPS, .int .i64 (w64 (p_1.TxCredits - 1)), .int .i64 p_1.RxCredits, .int .i64 p_1.Given, .slice A_2 (List.length p_1.Out) k_3, .int .i64 (w64 ((imax 0 (imin p_1.Sent (len x_22))) + (imax 1 (imin p_1.PeerMPS (w64 ((len x_22) - (imax 0 (imin p_1.Sent (len x_22))))))))), .slice A_5 (List.length p_1.In) k_6, .int .i64 p_1.Want, .bool p_1.Failed]) Try.sizeOf3 rfl rfl rfl rfl rfl hb_8 rfl C rfl rfl) ?_
  rintro w ⟨hb_8, C', T⟩
  replace f_4 := T.sl f_4
  replace f_7 := T.sl f_7
  replace f_25 := T.sl f_25
  replace hb_14 := T.blk (C.ne (i := 2) rfl [1] rfl (by decide)) hb_14
  replace f_44 := T.own (C.ne (i := 3) rfl [1] rfl (by decide)) f_44
  clear T; replace C := C'; clear C'
  refine WL.nilThen ?_
  refine WC.seq ?_
  refine WC.region ?_
  refine WL.val (rv_fieldAddr FA26_11 rfl rfl) rfl ?_
  refine WL.val (rv_load1 Try.isAgg3 rfl hb_8 rfl) rfl ?_
  refine WL.val (rv_move rfl) rfl ?_
  refine WL.val (rv_len (dt := x_22) Try.underlying24 rfl) rfl ?_
  refine WL.val (rv_geq rfl rfl) rfl ?_
  refine WL.nilThen ?_
  refine WC.cond rfl (fun hc => ?_) (fun hc => ?_)
  · replace hp := if_t hp hc
    clear hc
    refine WC.region ?_
    refine WL.val (rv_fieldAddr FA26_10 rfl rfl) rfl ?_
    refine WL.val (rv_load1 Try.isAgg23 rfl hb_8 rfl) rfl ?_
    replace hp := bind_inv hp
    obtain ⟨l_46, e_l_46, hp⟩ := hp
    refine WL.subSl Try.underlying23 Try.sizeOf24 rfl rfl rfl (.inr ⟨_, rfl⟩) (.inl ⟨rfl, rfl⟩) f_4 e_l_46 rfl ?_
    intro A_47 k_48 f_49
    refine WL.val (rv_fieldAddr FA26_10 rfl rfl) rfl ?_
    refine WL.storeK (rs_store (i := 1) (cs' := [.int .u16 p_1.Local, .int .u16 p_1.Remote, .int .u16 p_1.PSM, .int .i64 p_1.MTU, .int .i64 p_1.MPS, .int .i64 p_1.PeerMTU, .int .i64 p_1.PeerMPS, .int .i64 (w64 (p_1.TxCredits - 1)), .int .i64 p_1.RxCredits, .int .i64 p_1.Given, .slice A_47 (List.length l_46) k_48, .int .i64 (w64 ((imax 0 (imin p_1.Sent (len x_22))) + (imax 1 (imin p_1.PeerMPS (w64 ((len x_22) - (imax 0 (imin p_1.Sent (len x_22))))))))), .slice A_5 (List.length p_1.In) k_6, .int .i64 p_1.Want, .bool p_1.Failed]) Try.sizeOf23 rfl rfl rfl rfl rfl hb_8 rfl C rfl rfl) ?_
    rintro w ⟨hb_8, C', T⟩
    replace f_4 := T.sl f_4
    replace f_7 := T.sl f_7
    replace f_49 := T.sl f_49
    replace hb_14 := T.blk (C.ne (i := 2) rfl [1] rfl (by decide)) hb_14
    replace f_44 := T.own (C.ne (i := 3) rfl [1] rfl (by decide)) f_44
    clear T; replace C := C'; clear C'
    refine WL.val (rv_fieldAddr FA26_11 rfl rfl) rfl ?_
    refine WL.storeK (rs_store (i := 1) (cs' := [.int .u16 p_1.Local, .int .u16 p_1.Remote, .int .u16 p_1.PSM, .int .i64 p_1.MTU, .int .i64 p_1.MPS, .int .i64 p_1.PeerMTU, .int .i64 p_1.PeerMPS, .int .i64 (w64 (p_1.TxCredits - 1)), .int .i64 p_1.RxCredits, .int .i64 p_1.Given, .slice A_47 (List.length l_46) k_48, .int .i64 0, .slice A_5 (List.length p_1.In) k_6, .int .i64 p_1.Want, .bool p_1.Failed]) Try.sizeOf3 rfl rfl rfl rfl rfl hb_8 rfl C rfl rfl) ?_
    rintro w ⟨hb_8, C', T⟩
    replace f_4 := T.sl f_4
    replace f_7 := T.sl f_7
    replace f_49 := T.sl f_49
    replace hb_14 := T.blk (C.ne (i := 2) rfl [1] rfl (by decide)) hb_14
    replace f_44 := T.own (C.ne (i := 3) rfl [1] rfl (by decide)) f_44
    clear T; replace C := C'; clear C'
    refine WL.nil (fun a ha => ?_)
    obtain rfl := some_inv' hp
    refine (retK (rs := []) (vs := []) rfl trivial ?_) a ha
    have T : TR U0 [ob A_38, some b_8, some b_14, ob A_42] w [some b_8, some b_14, ob A_42] w [] := TR.pick [1, 2, 3] rfl
    have C' : Ctx U0 [some b_8, some b_14, ob A_10] w0 [some b_8, some b_14, ob A_42] _ := C.pick [1, 2, 3] (by decide) rfl
    replace f_7 := T.sl f_7
    replace f_49 := T.sl f_49
    replace hb_8 := T.blk ne0 hb_8
    replace hb_14 := T.blk ne0 hb_14
    replace f_44 := T.own ne0 f_44
    clear T; replace C := C'; clear C'
    exact ⟨_, rfl, A_47, k_48, A_5, k_6, A_42, k_43, rfl, C, f_49, f_7, hb_8, hb_14, f_44⟩
  · replace hp := if_f hp hc
    clear hc
    refine WC.skip (fun a ha => ?_)
    obtain rfl := some_inv' hp
    refine (retK (rs := []) (vs := []) rfl trivial ?_) a ha
    have T : TR U0 [ob A_38, some b_8, some b_14, ob A_42] w [some b_8, some b_14, ob A_42] w [] := TR.pick [1, 2, 3] rfl
    have C' : Ctx U0 [some b_8, some b_14, ob A_10] w0 [some b_8, some b_14, ob A_42] _ := C.pick [1, 2, 3] (by decide) rfl
    replace f_4 := T.sl f_4
    replace f_7 := T.sl f_7
    replace hb_8 := T.blk ne0 hb_8
    replace hb_14 := T.blk ne0 hb_14
    replace f_44 := T.own ne0 f_44
    clear T; replace C := C'; clear C'
    exact ⟨_, rfl, A_2, k_3, A_5, k_6, A_42, k_43, rfl, C, f_4, f_7, hb_8, hb_14, f_44⟩

theorem ok_sdu_Output (F : Nat) (U0 : Nat → Prop) (w0 : World) (c_1 : T_api_Channel) (A_2 : Option Addr) (k_3 : Nat) (A_5 : Option Addr) (k_6 : Nat) (C : Ctx U0 [] w0 [] w0) (f_4 : Sl 1 (RSl 1 (RInt .u8)) (Mu U0 []) w0 A_2 k_3 c_1.Out) (f_7 : Sl 1 (RInt .u8) (Mu U0 []) w0 A_5 k_6 c_1.In) (r : T_api_Channel × (List (List Int))) (hp : sdu_Output F c_1 = some r) :
    Calls Try.prog 12 #[.agg #[.int .u16 c_1.Local, .int .u16 c_1.Remote, .int .u16 c_1.PSM, .int .i64 c_1.MTU, .int .i64 c_1.MPS, .int .i64 c_1.PeerMTU, .int .i64 c_1.PeerMPS, .int .i64 c_1.TxCredits, .int .i64 c_1.RxCredits, .int .i64 c_1.Given, .slice A_2 (List.length c_1.Out) k_3, .int .i64 c_1.Sent, .slice A_5 (List.length c_1.In) k_6, .int .i64 c_1.Want, .bool c_1.Failed]] w0 fun e w => ∃ v, e = .returned v ∧ ∃ (A_87 : Option Addr) (k_88 : Nat) (A_90 : Option Addr) (k_91 : Nat) (A_93 : Option Addr) (k_94 : Nat), (v = .tuple #[.agg #[.int .u16 r.1.Local, .int .u16 r.1.Remote, .int .u16 r.1.PSM, .int .i64 r.1.MTU, .int .i64 r.1.MPS, .int .i64 r.1.PeerMTU, .int .i64 r.1.PeerMPS, .int .i64 r.1.TxCredits, .int .i64 r.1.RxCredits, .int .i64 r.1.Given, .slice A_87 (List.length r.1.Out) k_88, .int .i64 r.1.Sent, .slice A_90 (List.length r.1.In) k_91, .int .i64 r.1.Want, .bool r.1.Failed], .slice A_93 (List.length r.2) k_94]) ∧ (Ctx U0 [] w0 [] w) ∧ (Sl 1 (RSl 1 (RInt .u8)) (Mu U0 []) w A_87 k_88 r.1.Out) ∧ (Sl 1 (RInt .u8) (Mu U0 []) w A_90 k_91 r.1.In) ∧ (Sl 1 (RSl 1 (RInt .u8)) (Mu U0 []) w A_93 k_94 r.2) := by
  refine calls_enter (vs := [.agg #[.int .u16 c_1.Local, .int .u16 c_1.Remote, .int .u16 c_1.PSM, .int .i64 c_1.MTU, .int .i64 c_1.MPS, .int .i64 c_1.PeerMTU, .int .i64 c_1.PeerMPS, .int .i64 c_1.TxCredits, .int .i64 c_1.RxCredits, .int .i64 c_1.Given, .slice A_2 (List.length c_1.Out) k_3, .int .i64 c_1.Sent, .slice A_5 (List.length c_1.In) k_6, .int .i64 c_1.Want, .bool c_1.Failed]]) Try.func12 rfl Try.ntmps12 rfl ?_
  refine WC.prune (l' := [(0, .agg #[.int .u16 c_1.Local, .int .u16 c_1.Remote, .int .u16 c_1.PSM, .int .i64 c_1.MTU, .int .i64 c_1.MPS, .int .i64 c_1.PeerMTU, .int .i64 c_1.PeerMPS, .int .i64 c_1.TxCredits, .int .i64 c_1.RxCredits, .int .i64 c_1.Given, .slice A_2 (List.length c_1.Out) k_3, .int .i64 c_1.Sent, .slice A_5 (List.length c_1.In) k_6, .int .i64 c_1.Want, .bool c_1.Failed])]) ⟨rfl, trivial⟩ ?_
  skip
  refine WC.seq ?_
  refine WC.region ?_
  refine WL.world (rw_box rfl rfl C) rfl ?_
  rintro v w ⟨b_8, rfl, hb_8, C', T⟩
  replace C' : Ctx U0 [] w0 [some b_8] _ := C'
  replace T : TR U0 [] _ [some b_8] _ [] := T
  replace hb_8 : Blk _ b_8 26 [.int .u16 c_1.Local, .int .u16 c_1.Remote, .int .u16 c_1.PSM, .int .i64 c_1.MTU, .int .i64 c_1.MPS, .int .i64 c_1.PeerMTU, .int .i64 c_1.PeerMPS, .int .i64 c_1.TxCredits, .int .i64 c_1.RxCredits, .int .i64 c_1.Given, .slice A_2 (List.length c_1.Out) k_3, .int .i64 c_1.Sent, .slice A_5 (List.length c_1.In) k_6, .int .i64 c_1.Want, .bool c_1.Failed] := hb_8
  replace f_4 := T.sl f_4
  replace f_7 := T.sl f_7
  clear T; replace C := C'; clear C'
  refine WL.world (rw_alloc Try.zeroValue26 rfl C) rfl ?_
  rintro v w ⟨b_9, rfl, hb_9, C', T⟩
  replace C' : Ctx U0 [] w0 [some b_9, some b_8] _ := C'
  replace T : TR U0 [some b_8] _ [some b_9, some b_8] _ [] := T
  replace hb_9 : Blk _ b_9 26 [.int .u16 0, .int .u16 0, .int .u16 0, .int .i64 0, .int .i64 0, .int .i64 0, .int .i64 0, .int .i64 0, .int .i64 0, .int .i64 0, .slice none 0 0, .int .i64 0, .slice none 0 0, .int .i64 0, .bool false] := hb_9
  replace f_4 := T.sl f_4
  replace f_7 := T.sl f_7
  replace hb_8 := T.blk ne0 hb_8
  clear T; replace C := C'; clear C'
  refine WL.val (rv_assign rfl) rfl ?_
  refine WL.nilThen ?_
  refine WC.seq ?_
  refine WC.region ?_
  refine WL.val (rv_loadN Try.isAgg26 Try.sizeOf26 rfl hb_8 rfl rfl) rfl ?_
  replace hp := bind_inv hp
  obtain ⟨x_10, e_x_10, hp⟩ := hp
  refine WL.call (rc_func Try.call32 rfl) (ok_sdu_copied F (Mu U0 [some b_9, some b_8]) _ c_1 A_2 k_3 A_5 k_6 (C.give [0, 1] [] (by decide) rfl rfl (by decide)) (f_4.mu (mu_give [0, 1] [] rfl rfl)) (f_7.mu (mu_give [0, 1] [] rfl rfl)) _ e_x_10) rfl ?_
  rintro v w ⟨A_11, k_12, A_15, k_16, rfl, D, f_17, f_13⟩
  obtain ⟨C', T⟩ := C.join D [0, 1] [] (by decide) rfl rfl (by decide)
  replace C' : Ctx U0 [] w0 [ob A_11, some b_9, some b_8] _ := C'
  replace T : TR U0 [some b_9, some b_8] _ [ob A_11, some b_9, some b_8] _ [] := T
  replace f_17 : Sl 1 (RInt .u8) (Mu U0 [ob A_11, some b_9, some b_8]) _ A_15 k_16 x_10.In := f_17.mu (mu_join (R := [ob A_11]) (L2 := [some b_9, some b_8]) (fun b h => h))
  replace f_13 : Own 1 24 (RSl 1 (RInt .u8)) (Mu U0 [ob A_11, some b_9, some b_8]) _ A_11 k_12 x_10.Out := f_13.mu (mu_join (R := [ob A_11]) (L2 := [some b_9, some b_8]) (fun b h => h))
  replace f_4 := T.sl f_4
  replace f_7 := T.sl f_7
  replace hb_8 := T.blk ne0 hb_8
  replace hb_9 := T.blk ne0 hb_9
  clear T; replace C := C'; clear C'
  clear D
  refine WL.storeK (rs_store (i := 2) (cs' := [.int .u16 x_10.Local, .int .u16 x_10.Remote, .int .u16 x_10.PSM, .int .i64 x_10.MTU, .int .i64 x_10.MPS, .int .i64 x_10.PeerMTU, .int .i64 x_10.PeerMPS, .int .i64 x_10.TxCredits, .int .i64 x_10.RxCredits, .int .i64 x_10.Given, .slice A_11 (List.length x_10.Out) k_12, .int .i64 x_10.Sent, .slice A_15 (List.length x_10.In) k_16, .int .i64 x_10.Want, .bool x_10.Failed]) Try.sizeOf26 rfl rfl rfl rfl rfl hb_8 rfl C rfl rfl) ?_
  rintro w ⟨hb_8, C', T⟩
  replace f_4 := T.sl f_4
  replace f_7 := T.sl f_7
  replace f_17 := T.sl f_17
  replace hb_9 := T.blk (C.ne (i := 1) rfl [2] rfl (by decide)) hb_9
  replace f_13 := T.own (C.ne (i := 0) rfl [2] rfl (by decide)) f_13
  clear T; replace C := C'; clear C'
  refine WL.nilThen ?_
  refine WC.seq ?_
  refine WC.seq ?_
  refine WC.region ?_
  refine WL.val (rv_fieldAddr FA26_14 rfl rfl) rfl ?_
  refine WL.val (rv_load1 Try.isAgg4 rfl hb_8 rfl) rfl ?_
  refine WL.nilThen ?_
  refine WC.cond rfl (fun hc => ?_) (fun hc => ?_)
  · replace hp := if_t hp hc
    clear hc
    refine WC.seq ?_
    refine WC.region ?_
    refine WL.val (rv_loadN Try.isAgg26 Try.sizeOf26 rfl hb_8 rfl rfl) rfl ?_
    refine WL.storeK (rs_store (i := 1) (cs' := [.int .u16 x_10.Local, .int .u16 x_10.Remote, .int .u16 x_10.PSM, .int .i64 x_10.MTU, .int .i64 x_10.MPS, .int .i64 x_10.PeerMTU, .int .i64 x_10.PeerMPS, .int .i64 x_10.TxCredits, .int .i64 x_10.RxCredits, .int .i64 x_10.Given, .slice A_11 (List.length x_10.Out) k_12, .int .i64 x_10.Sent, .slice A_15 (List.length x_10.In) k_16, .int .i64 x_10.Want, .bool x_10.Failed]) Try.sizeOf26 rfl rfl rfl rfl rfl hb_9 rfl C rfl rfl) ?_
    rintro w ⟨hb_9, C', T⟩
    replace f_17 := T.sl f_17
    replace hb_8 := T.blk (C.ne (i := 2) rfl [1] rfl (by decide)) hb_8
    replace f_13 := T.own (C.ne (i := 0) rfl [1] rfl (by decide)) f_13
    clear T; replace C := C'; clear C'
    refine WL.val (rv_assign rfl) rfl ?_
    refine WL.nilThen ?_
    obtain rfl := some_inv' hp
    refine WC.ret (retK (rs := [.cell 2 26, .tmp 3]) (vs := [.agg #[.int .u16 x_10.Local, .int .u16 x_10.Remote, .int .u16 x_10.PSM, .int .i64 x_10.MTU, .int .i64 x_10.MPS, .int .i64 x_10.PeerMTU, .int .i64 x_10.PeerMPS, .int .i64 x_10.TxCredits, .int .i64 x_10.RxCredits, .int .i64 x_10.Given, .slice A_11 (List.length x_10.Out) k_12, .int .i64 x_10.Sent, .slice A_15 (List.length x_10.In) k_16, .int .i64 x_10.Want, .bool x_10.Failed], .slice none 0 0]) rfl ⟨rv1_cell Try.isAgg26 Try.sizeOf26 rfl hb_9 rfl, rv1_tmp rfl, trivial⟩ ?_)
    have f_27 : Sl 1 (RSl 1 (RInt .u8)) (Mu U0 [some b_9, some b_8]) _ A_11 k_12 x_10.Out := f_13.toSl (C.off (i := 0) rfl [1, 2] rfl (by decide)) (Mu.weaken (mem_pick [1, 2] rfl))
    have T : TR U0 [ob A_11, some b_9, some b_8] w [some b_9, some b_8] w [] := TR.pick [1, 2] rfl
    have C' : Ctx U0 [] w0 [some b_9, some b_8] _ := C.pick [1, 2] (by decide) rfl
    replace f_17 := T.sl f_17
    clear T; replace C := C'; clear C'
    have T : TR U0 [some b_9, some b_8] w [] w [] := TR.pick [] rfl
    have C' : Ctx U0 [] w0 [] _ := C.pick [] (by decide) rfl
    replace f_17 := T.sl f_17
    replace f_27 := T.sl f_27
    clear T; replace C := C'; clear C'
    exact ⟨_, rfl, A_11, k_12, A_15, k_16, none, 0, rfl, C, f_27, f_17, Sl.nil0⟩
  · replace hp := if_f hp hc
    clear hc
    refine WC.skipThen ?_
    refine WC.seq ?_
    refine WC.region ?_
    refine WL.world (rw_alloc Try.zeroValue23 rfl C) rfl ?_
    rintro v w ⟨b_18, rfl, hb_18, C', T⟩
    replace C' : Ctx U0 [] w0 [some b_18, ob A_11, some b_9, some b_8] _ := C'
    replace T : TR U0 [ob A_11, some b_9, some b_8] _ [some b_18, ob A_11, some b_9, some b_8] _ [] := T
    replace hb_18 : Blk _ b_18 23 [.slice none 0 0] := hb_18
    replace f_17 := T.sl f_17
    replace hb_8 := T.blk ne0 hb_8
    replace hb_9 := T.blk ne0 hb_9
    replace f_13 := T.own ne0 f_13
    clear T; replace C := C'; clear C'
    refine WL.nilThen ?_
    refine WC.seq ?_
    refine WC.region ?_
    refine WL.val (rv_makeFunc rfl) rfl ?_
    refine WL.val (rv_assign rfl) rfl ?_
    refine WL.nilThen ?_
    refine WC.seqCut (fun a w => ∃ (x_19 : Int) (x_20 : Int) (x_21 : Int) (x_22 : Int) (x_23 : Int) (x_24 : Int) (x_25 : Int) (x_26 : Int) (x_27 : Int) (x_28 : Int) (l_29 : (List (List Int))) (x_33 : Int) (l_34 : (List Int)) (x_38 : Int) (z_39 : Bool) (l_40 : (List (List Int))) (A_30 : Option Addr) (k_31 : Nat) (A_35 : Option Addr) (k_36 : Nat) (A_41 : Option Addr) (k_42 : Nat), (sdu_Output_j1 F x_19 x_20 x_21 x_22 x_23 x_24 x_25 x_26 x_27 x_28 l_29 x_33 l_34 x_38 z_39 l_40 = some r) ∧ (Holds 25 [(1, .pointer (some ⟨b_8, 0, none⟩)), (2, .pointer (some ⟨b_9, 0, none⟩)), (4, .pointer (some ⟨b_18, 0, none⟩))] a) ∧ (Ctx U0 [] w0 [some b_18, some b_9, some b_8, ob A_41] w) ∧ (Sl 1 (RSl 1 (RInt .u8)) (Mu U0 [some b_18, some b_9, some b_8, ob A_41]) w A_30 k_31 l_29) ∧ (Sl 1 (RInt .u8) (Mu U0 [some b_18, some b_9, some b_8, ob A_41]) w A_35 k_36 l_34) ∧ (Blk w b_8 26 [.int .u16 x_19, .int .u16 x_20, .int .u16 x_21, .int .i64 x_22, .int .i64 x_23, .int .i64 x_24, .int .i64 x_25, .int .i64 x_26, .int .i64 x_27, .int .i64 x_28, .slice A_30 (List.length l_29) k_31, .int .i64 x_33, .slice A_35 (List.length l_34) k_36, .int .i64 x_38, .bool z_39]) ∧ (Blk w b_9 26 [.int .u16 0, .int .u16 0, .int .u16 0, .int .i64 0, .int .i64 0, .int .i64 0, .int .i64 0, .int .i64 0, .int .i64 0, .int .i64 0, .slice none 0 0, .int .i64 0, .slice none 0 0, .int .i64 0, .bool false]) ∧ (Blk w b_18 23 [.slice A_41 (List.length l_40) k_42]) ∧ (Own 1 24 (RSl 1 (RInt .u8)) (Mu U0 [some b_18, some b_9, some b_8, ob A_41]) w A_41 k_42 l_40)) ?_ ?_
    · refine WC.block ?_
      obtain ⟨o_71, hi_71, hpo_71⟩ := bind_inv hp
      clear hp
      refine WC.loop (fun n a w => ∃ (x_45 : Int) (x_46 : Int) (x_47 : Int) (x_48 : Int) (x_49 : Int) (x_50 : Int) (x_51 : Int) (x_52 : Int) (x_53 : Int) (x_54 : Int) (l_55 : (List (List Int))) (x_59 : Int) (l_60 : (List Int)) (x_64 : Int) (z_65 : Bool) (l_66 : (List (List Int))) (A_56 : Option Addr) (k_57 : Nat) (A_61 : Option Addr) (k_62 : Nat) (A_67 : Option Addr) (k_68 : Nat), (iter (fun s => sdu_Output_l71 F s.1 s.2.1 s.2.2.1 s.2.2.2.1 s.2.2.2.2.1 s.2.2.2.2.2.1 s.2.2.2.2.2.2.1 s.2.2.2.2.2.2.2.1 s.2.2.2.2.2.2.2.2.1 s.2.2.2.2.2.2.2.2.2.1 s.2.2.2.2.2.2.2.2.2.2.1 s.2.2.2.2.2.2.2.2.2.2.2.1 s.2.2.2.2.2.2.2.2.2.2.2.2.1 s.2.2.2.2.2.2.2.2.2.2.2.2.2.1 s.2.2.2.2.2.2.2.2.2.2.2.2.2.2.1 s.2.2.2.2.2.2.2.2.2.2.2.2.2.2.2) n (x_45, x_46, x_47, x_48, x_49, x_50, x_51, x_52, x_53, x_54, l_55, x_59, l_60, x_64, z_65, l_66) = some o_71) ∧ (Holds 25 [(1, .pointer (some ⟨b_8, 0, none⟩)), (2, .pointer (some ⟨b_9, 0, none⟩)), (4, .pointer (some ⟨b_18, 0, none⟩)), (5, .func (.func 33) #[] #[.pointer (some ⟨b_8, 0, none⟩), .pointer (some ⟨b_18, 0, none⟩)])] a) ∧ (Ctx U0 [] w0 [some b_18, some b_9, some b_8, ob A_67] w) ∧ (Sl 1 (RSl 1 (RInt .u8)) (Mu U0 [some b_18, some b_9, some b_8, ob A_67]) w A_56 k_57 l_55) ∧ (Sl 1 (RInt .u8) (Mu U0 [some b_18, some b_9, some b_8, ob A_67]) w A_61 k_62 l_60) ∧ (Blk w b_8 26 [.int .u16 x_45, .int .u16 x_46, .int .u16 x_47, .int .i64 x_48, .int .i64 x_49, .int .i64 x_50, .int .i64 x_51, .int .i64 x_52, .int .i64 x_53, .int .i64 x_54, .slice A_56 (List.length l_55) k_57, .int .i64 x_59, .slice A_61 (List.length l_60) k_62, .int .i64 x_64, .bool z_65]) ∧ (Blk w b_9 26 [.int .u16 0, .int .u16 0, .int .u16 0, .int .i64 0, .int .i64 0, .int .i64 0, .int .i64 0, .int .i64 0, .int .i64 0, .int .i64 0, .slice none 0 0, .int .i64 0, .slice none 0 0, .int .i64 0, .bool false]) ∧ (Blk w b_18 23 [.slice A_67 (List.length l_66) k_68]) ∧ (Own 1 24 (RSl 1 (RInt .u8)) (Mu U0 [some b_18, some b_9, some b_8, ob A_67]) w A_67 k_68 l_66)) F ?_ ?_
      · intro a ha
        have f_86 : Sl 1 (RSl 1 (RInt .u8)) (Mu U0 [some b_18, some b_9, some b_8]) _ A_11 k_12 x_10.Out := f_13.toSl (C.off (i := 1) rfl [0, 2, 3] rfl (by decide)) (Mu.weaken (mem_pick [0, 2, 3] rfl))
        have T : TR U0 [some b_18, ob A_11, some b_9, some b_8] w [some b_18, some b_9, some b_8] w [] := TR.pick [0, 2, 3] rfl
        have C' : Ctx U0 [] w0 [some b_18, some b_9, some b_8] _ := C.pick [0, 2, 3] (by decide) rfl
        replace f_17 := T.sl f_17
        replace hb_8 := T.blk ne0 hb_8
        replace hb_9 := T.blk ne0 hb_9
        replace hb_18 := T.blk ne0 hb_18
        clear T; replace C := C'; clear C'
        obtain ⟨C', T⟩ := C.addNone
        replace f_17 := T.sl f_17
        replace f_86 := T.sl f_86
        replace hb_8 := T.blk ne0 hb_8
        replace hb_9 := T.blk ne0 hb_9
        replace hb_18 := T.blk ne0 hb_18
        clear T; replace C := C'; clear C'
        have T : TR U0 [ob none, some b_18, some b_9, some b_8] w [some b_18, some b_9, some b_8, ob none] w [] := TR.pick [1, 2, 3, 0] rfl
        have C' : Ctx U0 [] w0 [some b_18, some b_9, some b_8, ob none] _ := C.pick [1, 2, 3, 0] (by decide) rfl
        replace f_17 := T.sl f_17
        replace f_86 := T.sl f_86
        replace hb_8 := T.blk ne0 hb_8
        replace hb_9 := T.blk ne0 hb_9
        replace hb_18 := T.blk ne0 hb_18
        clear T; replace C := C'; clear C'
        exact ⟨x_10.Local, x_10.Remote, x_10.PSM, x_10.MTU, x_10.MPS, x_10.PeerMTU, x_10.PeerMPS, x_10.TxCredits, x_10.RxCredits, x_10.Given, x_10.Out, x_10.Sent, x_10.In, x_10.Want, x_10.Failed, [], A_11, k_12, A_15, k_16, none, 0, hi_71, ha.sub ⟨rfl, rfl, rfl, rfl, trivial⟩, C, f_86, f_17, hb_8, hb_9, hb_18, Own.nil⟩
      · rintro n_71 a w ⟨x_45, x_46, x_47, x_48, x_49, x_50, x_51, x_52, x_53, x_54, l_55, x_59, l_60, x_64, z_65, l_66, A_56, k_57, A_61, k_62, A_67, k_68, hi_71, ha, C, f_58, f_63, hb_8, hb_9, hb_18, f_69⟩
        obtain ⟨n_71, q_71, rfl, hp, hs_71⟩ := iter_inv hi_71
        replace hp : sdu_Output_l71 F x_45 x_46 x_47 x_48 x_49 x_50 x_51 x_52 x_53 x_54 l_55 x_59 l_60 x_64 z_65 l_66 = some q_71 := hp
        clear hi_71
        refine WC.ofJ (l := [(1, .pointer (some ⟨b_8, 0, none⟩)), (2, .pointer (some ⟨b_9, 0, none⟩)), (4, .pointer (some ⟨b_18, 0, none⟩)), (5, .func (.func 33) #[] #[.pointer (some ⟨b_8, 0, none⟩), .pointer (some ⟨b_18, 0, none⟩)])]) ?_ ha
        refine WC.seq ?_
        refine WC.seq ?_
        refine WC.region ?_
        refine WL.val (rv_fieldAddr FA26_10 rfl rfl) rfl ?_
        refine WL.val (rv_load1 Try.isAgg23 rfl hb_8 rfl) rfl ?_
        refine WL.val (rv_len (dt := l_55) Try.underlying23 rfl) rfl ?_
        refine WL.val (rv_gtr rfl rfl) rfl ?_
        refine WL.val (rv_move rfl) rfl ?_
        refine WL.cutAt 4 (fun a w' => w = w' ∧ Holds 25 [(1, .pointer (some ⟨b_8, 0, none⟩)), (2, .pointer (some ⟨b_9, 0, none⟩)), (4, .pointer (some ⟨b_18, 0, none⟩)), (5, .func (.func 33) #[] #[.pointer (some ⟨b_8, 0, none⟩), .pointer (some ⟨b_18, 0, none⟩)]), (20, .bool ((decide ((len l_55) > 0)) && (decide (x_52 > 0))))] a) ?_ ?_
        · rcases Bool.eq_false_or_eq_true (decide ((len l_55) > 0)) with hg_72 | hg_72
          · refine WL.yes rfl rfl hg_72 ?_
            refine WL.val (rv_fieldAddr FA26_7 rfl rfl) rfl ?_
            refine WL.yes rfl rfl hg_72 ?_
            refine WL.val (rv_load1 Try.isAgg3 rfl hb_8 rfl) rfl ?_
            refine WL.yes rfl rfl hg_72 ?_
            refine WL.val (rv_gtr rfl rfl) rfl ?_
            refine WL.val (rv_pick_t rfl hg_72 rfl) rfl ?_
            refine WL.nil (fun a ha => ?_)
            exact ⟨rfl, ha.sub ⟨rfl, rfl, rfl, rfl, and_t hg_72, trivial⟩⟩
          · refine WL.no rfl rfl hg_72 rfl ?_
            refine WL.no rfl rfl hg_72 rfl ?_
            refine WL.no rfl rfl hg_72 rfl ?_
            refine WL.val (rv_pick_f rfl hg_72 rfl) rfl ?_
            refine WL.nil (fun a ha => ?_)
            exact ⟨rfl, ha.sub ⟨rfl, rfl, rfl, rfl, and_f hg_72, trivial⟩⟩
        · rintro a w' ⟨rfl, ha⟩
          refine WL.ofJ (l := [(1, .pointer (some ⟨b_8, 0, none⟩)), (2, .pointer (some ⟨b_9, 0, none⟩)), (4, .pointer (some ⟨b_18, 0, none⟩)), (5, .func (.func 33) #[] #[.pointer (some ⟨b_8, 0, none⟩), .pointer (some ⟨b_18, 0, none⟩)]), (20, .bool ((decide ((len l_55) > 0)) && (decide (x_52 > 0))))]) ?_ ha
          refine WL.nilThen ?_
          refine WC.cond rfl (fun hc => ?_) (fun hc => ?_)
          · replace hp := if_t hp hc
            clear hc
            refine WC.skipThen ?_
            refine WC.block ?_
            refine WC.region ?_
            refine WL.val (rv_move rfl) rfl ?_
            replace hp := bind_inv hp
            obtain ⟨x_73, e_x_73, hp⟩ := hp
            refine WL.call (rc_val Try.call33 rfl rfl) (ok_sdu_Output_1 F (Mu U0 [some b_9]) _ (T_api_Channel.mk x_45 x_46 x_47 x_48 x_49 x_50 x_51 x_52 x_53 x_54 l_55 x_59 l_60 x_64 z_65) l_66 A_56 k_57 A_61 k_62 b_8 A_67 k_68 b_18 (C.give [1] [2, 0, 3] (by decide) rfl rfl (by decide)) (f_58.mu (mu_give [1] [2, 0, 3] rfl rfl)) (f_63.mu (mu_give [1] [2, 0, 3] rfl rfl)) hb_8 hb_18 (f_69.mu (mu_give [1] [2, 0, 3] rfl rfl)) _ e_x_73) rfl ?_
            rintro v w ⟨A_74, k_75, A_77, k_78, A_81, k_82, rfl, D, f_76, f_79, hb_8, hb_18, f_83⟩
            obtain ⟨C', T⟩ := C.join D [1] [2, 0, 3] (by decide) rfl rfl (by decide)
            replace C' : Ctx U0 [] w0 [some b_8, some b_18, ob A_81, some b_9] _ := C'
            replace T : TR U0 [some b_18, some b_9, some b_8, ob A_67] _ [some b_8, some b_18, ob A_81, some b_9] _ [some b_8, some b_18, ob A_67] := T
            replace f_76 : Sl 1 (RSl 1 (RInt .u8)) (Mu U0 [some b_8, some b_18, ob A_81, some b_9]) _ A_74 k_75 x_73.1.Out := f_76.mu (mu_join (R := [some b_8, some b_18, ob A_81]) (L2 := [some b_9]) (fun b h => h))
            replace f_79 : Sl 1 (RInt .u8) (Mu U0 [some b_8, some b_18, ob A_81, some b_9]) _ A_77 k_78 x_73.1.In := f_79.mu (mu_join (R := [some b_8, some b_18, ob A_81]) (L2 := [some b_9]) (fun b h => h))
            replace f_83 : Own 1 24 (RSl 1 (RInt .u8)) (Mu U0 [some b_8, some b_18, ob A_81, some b_9]) _ A_81 k_82 x_73.2 := f_83.mu (mu_join (R := [some b_8, some b_18, ob A_81]) (L2 := [some b_9]) (fun b h => h))
            replace f_58 := T.sl f_58
            replace f_63 := T.sl f_63
            replace hb_9 := T.blk (C.ne (i := 1) rfl [2, 0, 3] rfl (by decide)) hb_9
            clear T; replace C := C'; clear C'
            clear D
            refine WL.nil (fun a ha => ?_)
            have ho := next_inv hp hs_71
            have T : TR U0 [some b_8, some b_18, ob A_81, some b_9] w [some b_18, some b_9, some b_8, ob A_81] w [] := TR.pick [1, 3, 0, 2] rfl
            have C' : Ctx U0 [] w0 [some b_18, some b_9, some b_8, ob A_81] _ := C.pick [1, 3, 0, 2] (by decide) rfl
            replace f_76 := T.sl f_76
            replace f_79 := T.sl f_79
            replace hb_8 := T.blk ne0 hb_8
            replace hb_9 := T.blk ne0 hb_9
            replace hb_18 := T.blk ne0 hb_18
            replace f_83 := T.own ne0 f_83
            clear T; replace C := C'; clear C'
            exact ⟨n_71, Nat.lt_succ_self _, ⟨x_73.1.Local, x_73.1.Remote, x_73.1.PSM, x_73.1.MTU, x_73.1.MPS, x_73.1.PeerMTU, x_73.1.PeerMPS, x_73.1.TxCredits, x_73.1.RxCredits, x_73.1.Given, x_73.1.Out, x_73.1.Sent, x_73.1.In, x_73.1.Want, x_73.1.Failed, x_73.2, A_74, k_75, A_77, k_78, A_81, k_82, ho, ha.sub ⟨rfl, rfl, rfl, rfl, trivial⟩, C, f_76, f_79, hb_8, hb_9, hb_18, f_83⟩⟩
          · replace hp := if_f hp hc
            clear hc
            refine WC.exitJ rfl (fun a ha => ?_)
            have ho := done_inv hp hs_71
            replace hp := hpo_71
            try rw [ho] at hp
            exact ⟨x_45, x_46, x_47, x_48, x_49, x_50, x_51, x_52, x_53, x_54, l_55, x_59, l_60, x_64, z_65, l_66, A_56, k_57, A_61, k_62, A_67, k_68, hp, ha.sub ⟨rfl, rfl, rfl, trivial⟩, C, f_58, f_63, hb_8, hb_9, hb_18, f_69⟩
    · rintro a w ⟨x_19, x_20, x_21, x_22, x_23, x_24, x_25, x_26, x_27, x_28, l_29, x_33, l_34, x_38, z_39, l_40, A_30, k_31, A_35, k_36, A_41, k_42, hp, ha, C, f_32, f_37, hb_8, hb_9, hb_18, f_43⟩
      refine WC.ofJ (l := [(1, .pointer (some ⟨b_8, 0, none⟩)), (2, .pointer (some ⟨b_9, 0, none⟩)), (4, .pointer (some ⟨b_18, 0, none⟩))]) ?_ ha
      refine WC.seqCut (fun a w => (sdu_Output_j2 F x_19 x_20 x_21 x_22 x_23 x_24 x_25 x_26 x_27 x_28 l_29 x_33 l_34 x_38 z_39 l_40 = some r) ∧ (Holds 25 [(2, .pointer (some ⟨b_9, 0, none⟩)), (3, .slice A_41 (List.length l_40) k_42)] a) ∧ (Ctx U0 [] w0 [some b_9, ob A_41] w) ∧ (Sl 1 (RSl 1 (RInt .u8)) (Mu U0 [some b_9, ob A_41]) w A_30 k_31 l_29) ∧ (Sl 1 (RInt .u8) (Mu U0 [some b_9, ob A_41]) w A_35 k_36 l_34) ∧ (Blk w b_9 26 [.int .u16 x_19, .int .u16 x_20, .int .u16 x_21, .int .i64 x_22, .int .i64 x_23, .int .i64 x_24, .int .i64 x_25, .int .i64 x_26, .int .i64 x_27, .int .i64 x_28, .slice A_30 (List.length l_29) k_31, .int .i64 x_33, .slice A_35 (List.length l_34) k_36, .int .i64 x_38, .bool z_39]) ∧ (Own 1 24 (RSl 1 (RInt .u8)) (Mu U0 [some b_9, ob A_41]) w A_41 k_42 l_40)) ?_ ?_
      · refine WC.draw (fun w => (Blk w b_18 23 [.slice A_41 (List.length l_40) k_42]) ∧ (Blk w b_8 26 [.int .u16 x_19, .int .u16 x_20, .int .u16 x_21, .int .i64 x_22, .int .i64 x_23, .int .i64 x_24, .int .i64 x_25, .int .i64 x_26, .int .i64 x_27, .int .i64 x_28, .slice A_30 (List.length l_29) k_31, .int .i64 x_33, .slice A_35 (List.length l_34) k_36, .int .i64 x_38, .bool z_39])) MO C ?_
        rintro w C' T
        replace f_32 := T.sl f_32
        replace f_37 := T.sl f_37
        replace hb_8 := T.blk ne0 hb_8
        replace hb_9 := T.blk ne0 hb_9
        replace hb_18 := T.blk ne0 hb_18
        replace f_43 := T.own ne0 f_43
        clear T; replace C := C'; clear C'
        refine WA.take (i := 0) (bs' := [true, false, false, false]) rfl (by kernel_rfl) (by kernel_rfl) (by kernel_rfl) (fun w hS => by obtain ⟨hb_18, hb_8⟩ := hS; exact rv_loadN Try.isAgg26 Try.sizeOf26 rfl hb_8 rfl rfl) ⟨hb_18, hb_8⟩ rfl rfl ?_
        refine WA.take (i := 1) (bs' := [true, true, false, false]) rfl (by kernel_rfl) (by kernel_rfl) (by kernel_rfl) (fun w hS => by obtain ⟨hb_18, hb_8⟩ := hS; exact rv_load1 Try.isAgg23 rfl hb_18 rfl) ⟨hb_18, hb_8⟩ rfl rfl ?_
        refine WA.all1 (i := 2) (by kernel_rfl) ?_
        refine WS.storeK (i := 2) (bs' := [true, true, true, false]) rfl (rs_store (i := 1) (cs' := [.int .u16 x_19, .int .u16 x_20, .int .u16 x_21, .int .i64 x_22, .int .i64 x_23, .int .i64 x_24, .int .i64 x_25, .int .i64 x_26, .int .i64 x_27, .int .i64 x_28, .slice A_30 (List.length l_29) k_31, .int .i64 x_33, .slice A_35 (List.length l_34) k_36, .int .i64 x_38, .bool z_39]) Try.sizeOf26 rfl rfl rfl rfl rfl hb_9 rfl C rfl rfl) rfl ?_
        rintro w ⟨hb_9, C', T⟩
        replace f_32 := T.sl f_32
        replace f_37 := T.sl f_37
        replace hb_8 := T.blk (C.ne (i := 2) rfl [1] rfl (by decide)) hb_8
        replace hb_18 := T.blk (C.ne (i := 0) rfl [1] rfl (by decide)) hb_18
        replace f_43 := T.own (C.ne (i := 3) rfl [1] rfl (by decide)) f_43
        clear T; replace C := C'; clear C'
        refine ⟨⟨hb_18, hb_8⟩, ?_⟩
        refine WA.take (i := 3) (bs' := [true, true, true, true]) rfl (by kernel_rfl) (by kernel_rfl) (by kernel_rfl) (fun _ _ => rv_assign rfl) ⟨hb_18, hb_8⟩ rfl rfl ?_
        refine WA.done (by kernel_rfl) (fun a ha => ?_)
        have T : TR U0 [some b_18, some b_9, some b_8, ob A_41] w [some b_9, ob A_41] w [] := TR.pick [1, 3] rfl
        have C' : Ctx U0 [] w0 [some b_9, ob A_41] _ := C.pick [1, 3] (by decide) rfl
        replace f_32 := T.sl f_32
        replace f_37 := T.sl f_37
        replace hb_9 := T.blk ne0 hb_9
        replace f_43 := T.own ne0 f_43
        clear T; replace C := C'; clear C'
        exact ⟨hp, ha.sub ⟨rfl, rfl, trivial⟩, C, f_32, f_37, hb_9, f_43⟩
      · rintro a w ⟨hp, ha, C, f_32, f_37, hb_9, f_43⟩
        refine WC.ofJ (l := [(2, .pointer (some ⟨b_9, 0, none⟩)), (3, .slice A_41 (List.length l_40) k_42)]) ?_ ha
        obtain rfl := some_inv' hp
        refine WC.ret (retK (rs := [.cell 2 26, .tmp 3]) (vs := [.agg #[.int .u16 x_19, .int .u16 x_20, .int .u16 x_21, .int .i64 x_22, .int .i64 x_23, .int .i64 x_24, .int .i64 x_25, .int .i64 x_26, .int .i64 x_27, .int .i64 x_28, .slice A_30 (List.length l_29) k_31, .int .i64 x_33, .slice A_35 (List.length l_34) k_36, .int .i64 x_38, .bool z_39], .slice A_41 (List.length l_40) k_42]) rfl ⟨rv1_cell Try.isAgg26 Try.sizeOf26 rfl hb_9 rfl, rv1_tmp rfl, trivial⟩ ?_)
        have f_54 : Sl 1 (RSl 1 (RInt .u8)) (Mu U0 [some b_9]) _ A_41 k_42 l_40 := f_43.toSl (C.off (i := 1) rfl [0] rfl (by decide)) (Mu.weaken (mem_pick [0] rfl))
        have T : TR U0 [some b_9, ob A_41] w [some b_9] w [] := TR.pick [0] rfl
        have C' : Ctx U0 [] w0 [some b_9] _ := C.pick [0] (by decide) rfl
        replace f_32 := T.sl f_32
        replace f_37 := T.sl f_37
        clear T; replace C := C'; clear C'
        have T : TR U0 [some b_9] w [] w [] := TR.pick [] rfl
        have C' : Ctx U0 [] w0 [] _ := C.pick [] (by decide) rfl
        replace f_32 := T.sl f_32
        replace f_37 := T.sl f_37
        replace f_54 := T.sl f_54
        clear T; replace C := C'; clear C'
        exact ⟨_, rfl, A_30, k_31, A_35, k_36, A_41, k_42, rfl, C, f_32, f_37, f_54⟩

theorem ok_wirelesslaw33_end (F : Nat) (U0 : Nat → Prop) (w0 : World) (mtu_1 : Int) (mps_2 : Int) (credits_3 : Int) (C : Ctx U0 [] w0 [] w0)  (r : T_api_Channel) (hp : wirelesslaw33_end F mtu_1 mps_2 credits_3 = some r) :
    Calls Try.prog 19 #[.int .i64 mtu_1, .int .i64 mps_2, .int .i64 credits_3] w0 fun e w => ∃ v, e = .returned v ∧ ∃ (A_5 : Option Addr) (k_6 : Nat) (A_8 : Option Addr) (k_9 : Nat), (v = .agg #[.int .u16 r.Local, .int .u16 r.Remote, .int .u16 r.PSM, .int .i64 r.MTU, .int .i64 r.MPS, .int .i64 r.PeerMTU, .int .i64 r.PeerMPS, .int .i64 r.TxCredits, .int .i64 r.RxCredits, .int .i64 r.Given, .slice A_5 (List.length r.Out) k_6, .int .i64 r.Sent, .slice A_8 (List.length r.In) k_9, .int .i64 r.Want, .bool r.Failed]) ∧ (Ctx U0 [] w0 [] w) ∧ (Sl 1 (RSl 1 (RInt .u8)) (Mu U0 []) w A_5 k_6 r.Out) ∧ (Sl 1 (RInt .u8) (Mu U0 []) w A_8 k_9 r.In) := by
  refine calls_enter (vs := [.int .i64 mtu_1, .int .i64 mps_2, .int .i64 credits_3]) Try.func19 rfl Try.ntmps19 rfl ?_
  refine WC.prune (l' := [(0, .int .i64 mtu_1), (1, .int .i64 mps_2), (2, .int .i64 credits_3)]) ⟨rfl, rfl, rfl, trivial⟩ ?_
  skip
  refine WC.seq ?_
  refine WC.region ?_
  refine WL.world (rw_alloc Try.zeroValue26 rfl C) rfl ?_
  rintro v w ⟨b_4, rfl, hb_4, C', T⟩
  replace C' : Ctx U0 [] w0 [some b_4] _ := C'
  replace T : TR U0 [] _ [some b_4] _ [] := T
  replace hb_4 : Blk _ b_4 26 [.int .u16 0, .int .u16 0, .int .u16 0, .int .i64 0, .int .i64 0, .int .i64 0, .int .i64 0, .int .i64 0, .int .i64 0, .int .i64 0, .slice none 0 0, .int .i64 0, .slice none 0 0, .int .i64 0, .bool false] := hb_4
  clear T; replace C := C'; clear C'
  refine WL.nilThen ?_
  refine WC.seq ?_
  refine WC.region ?_
  refine WL.val (rv_move rfl) rfl ?_
  refine WL.val (rv_move rfl) rfl ?_
  refine WL.val (rv_move rfl) rfl ?_
  refine WL.val (rv_move rfl) rfl ?_
  refine WL.val (rv_move rfl) rfl ?_
  refine WL.val (rv_move rfl) rfl ?_
  refine WL.val (rv_build (cs := [.int .u16 64, .int .u16 65, .int .u16 1, .int .i64 mtu_1, .int .i64 mps_2, .int .i64 mtu_1, .int .i64 mps_2, .int .i64 credits_3, .int .i64 credits_3, .int .i64 0, .slice none 0 0, .int .i64 0, .slice none 0 0, .int .i64 (-1), .bool false]) (vs := [(0, .int .u16 64), (1, .int .u16 65), (2, .int .u16 1), (3, .int .i64 mtu_1), (4, .int .i64 mps_2), (5, .int .i64 mtu_1), (6, .int .i64 mps_2), (7, .int .i64 credits_3), (8, .int .i64 credits_3), (13, .int .i64 (-1))]) Try.zeroValue26 Try.underlying26 (PL26 _ (Try.underlying26).symm) rfl (by kernel_rfl)) rfl ?_
  refine WL.storeK (rs_store (i := 0) (cs' := [.int .u16 64, .int .u16 65, .int .u16 1, .int .i64 mtu_1, .int .i64 mps_2, .int .i64 mtu_1, .int .i64 mps_2, .int .i64 credits_3, .int .i64 credits_3, .int .i64 0, .slice none 0 0, .int .i64 0, .slice none 0 0, .int .i64 (-1), .bool false]) Try.sizeOf26 rfl rfl rfl rfl rfl hb_4 rfl C rfl rfl) ?_
  rintro w ⟨hb_4, C', T⟩
  clear T; replace C := C'; clear C'
  refine WL.nilThen ?_
  obtain rfl := some_inv' hp
  refine WC.ret (retK (rs := [.cell 6 26]) (vs := [.agg #[.int .u16 64, .int .u16 65, .int .u16 1, .int .i64 mtu_1, .int .i64 mps_2, .int .i64 mtu_1, .int .i64 mps_2, .int .i64 credits_3, .int .i64 credits_3, .int .i64 0, .slice none 0 0, .int .i64 0, .slice none 0 0, .int .i64 (-1), .bool false]]) rfl ⟨rv1_cell Try.isAgg26 Try.sizeOf26 rfl hb_4 rfl, trivial⟩ ?_)
  have T : TR U0 [some b_4] w [] w [] := TR.pick [] rfl
  have C' : Ctx U0 [] w0 [] _ := C.pick [] (by decide) rfl
  clear T; replace C := C'; clear C'
  exact ⟨_, rfl, none, 0, none, 0, rfl, C, Sl.nil0, Sl.nil0⟩

theorem ok_wirelesslaw33_exampleHolds (F : Nat) (U0 : Nat → Prop) (w0 : World) (C : Ctx U0 [] w0 [] w0)  (r : Bool) (hp : wirelesslaw33_exampleHolds F = some r) :
    Calls Try.prog 11 #[] w0 fun e w => ∃ v, e = .returned v ∧ (v = .bool r) ∧ (Ctx U0 [] w0 [] w) := by
  refine calls_enter (vs := []) Try.func11 rfl Try.ntmps11 rfl ?_
  refine WC.prune (l' := []) trivial ?_
  skip
  refine WC.seq ?_
  refine WC.region ?_
  refine WL.val (rv_assign rfl) rfl ?_
  refine WL.nilThen ?_
  refine WC.seqCut (fun a w => ∃ (x_2 : Int) (x_3 : Int) (x_4 : Int) (x_5 : Int) (x_6 : Int) (x_7 : Int) (x_8 : Int) (x_9 : Int) (x_10 : Int) (x_11 : Int) (l_12 : (List (List Int))) (x_16 : Int) (l_17 : (List Int)) (x_21 : Int) (z_22 : Bool) (x_23 : Int) (b_1 : Nat) (A_13 : Option Addr) (k_14 : Nat) (A_18 : Option Addr) (k_19 : Nat), (wirelesslaw33_exampleHolds_j1 F x_2 x_3 x_4 x_5 x_6 x_7 x_8 x_9 x_10 x_11 l_12 x_16 l_17 x_21 z_22 x_23 = some r) ∧ (Holds 107 [(1, .pointer (some ⟨b_1, 0, none⟩)), (2, .int .i64 x_23)] a) ∧ (Ctx U0 [] w0 [some b_1] w) ∧ (Sl 1 (RSl 1 (RInt .u8)) (Mu U0 [some b_1]) w A_13 k_14 l_12) ∧ (Sl 1 (RInt .u8) (Mu U0 [some b_1]) w A_18 k_19 l_17) ∧ (Blk w b_1 26 [.int .u16 x_2, .int .u16 x_3, .int .u16 x_4, .int .i64 x_5, .int .i64 x_6, .int .i64 x_7, .int .i64 x_8, .int .i64 x_9, .int .i64 x_10, .int .i64 x_11, .slice A_13 (List.length l_12) k_14, .int .i64 x_16, .slice A_18 (List.length l_17) k_19, .int .i64 x_21, .bool z_22])) ?_ ?_
  · refine WC.draw (fun _ => True) MO C ?_
    rintro w C' T
    clear T; replace C := C'; clear C'
    refine WA.all3 (i := 0) (j := 1) (k := 6) (by kernel_rfl) ?_ ?_ ?_
    · replace hp := bind_inv hp
      obtain ⟨x_154, e_x_154, hp⟩ := hp
      refine WS.call (i := 0) (bs' := [true, false, false, false, false, false, false, false, false]) rfl (rc_func Try.call19 rfl) (ok_wirelesslaw33_end F (Mu U0 []) _ 40 23 5 (C.give [] [] (by decide) rfl rfl (by decide)) _ e_x_154) rfl rfl ?_
      rintro v w ⟨A_155, k_156, A_158, k_159, rfl, D, f_157, f_160⟩
      obtain ⟨C', T⟩ := C.join D [] [] (by decide) rfl rfl (by decide)
      replace C' : Ctx U0 [] w0 [] _ := C'
      replace T : TR U0 [] _ [] _ [] := T
      replace f_157 : Sl 1 (RSl 1 (RInt .u8)) (Mu U0 []) _ A_155 k_156 x_154.Out := f_157.mu (mu_join (R := []) (L2 := []) (fun b h => h))
      replace f_160 : Sl 1 (RInt .u8) (Mu U0 []) _ A_158 k_159 x_154.In := f_160.mu (mu_join (R := []) (L2 := []) (fun b h => h))
      clear T; replace C := C'; clear C'
      clear D
      refine ⟨trivial, ?_⟩
      refine WA.all2 (i := 1) (j := 6) (by kernel_rfl) ?_ ?_
      · replace hp := bind_inv hp
        obtain ⟨l_161, e_l_161, hp⟩ := hp
        refine WS.world (i := 1) (bs' := [true, true, false, false, false, false, false, false, false]) rfl (rw_make (sz := 1) (zs := [.int .u8 0]) (R := (RInt .u8)) Try.underlying24 I5 rfl rfl rfl rfl rfl rfl rfl (fun _ _ => rfl) e_l_161 C) rfl rfl ?_
        rintro v w ⟨A_163, k_164, rfl, f_165, C', T⟩
        replace C' : Ctx U0 [] w0 [ob A_163] _ := C'
        replace T : TR U0 [] _ [ob A_163] _ _ := T
        replace f_165 : Own 1 5 (RInt .u8) (Mu U0 [ob A_163]) _ A_163 k_164 l_161 := f_165
        replace f_157 := T.sl f_157
        replace f_160 := T.sl f_160
        clear T; replace C := C'; clear C'
        refine ⟨trivial, ?_⟩
        refine WA.all2 (i := 2) (j := 6) (by kernel_rfl) ?_ ?_
        · have f_166 : Sl 1 (RInt .u8) (Mu U0 []) _ A_163 k_164 l_161 := f_165.toSl (C.off (i := 0) rfl [] rfl (by decide)) (Mu.weaken (mem_pick [] rfl))
          have T : TR U0 [ob A_163] w [] w [] := TR.pick [] rfl
          have C' : Ctx U0 [] w0 [] _ := C.pick [] (by decide) rfl
          replace f_157 := T.sl f_157
          replace f_160 := T.sl f_160
          clear T; replace C := C'; clear C'
          replace hp := bind_inv hp
          obtain ⟨x_167, e_x_167, hp⟩ := hp
          refine WS.call (i := 2) (bs' := [true, true, true, false, false, false, false, false, false]) rfl (rc_func Try.call18 rfl) (ok_sdu_Queue F (Mu U0 []) _ x_154 l_161 A_155 k_156 A_158 k_159 A_163 k_164 (C.give [] [] (by decide) rfl rfl (by decide)) (f_157.mu (mu_give [] [] rfl rfl)) (f_160.mu (mu_give [] [] rfl rfl)) (f_166.mu (mu_give [] [] rfl rfl)) _ e_x_167) rfl rfl ?_
          rintro v w ⟨A_168, k_169, A_171, k_172, rfl, D, f_170, f_173⟩
          obtain ⟨C', T⟩ := C.join D [] [] (by decide) rfl rfl (by decide)
          replace C' : Ctx U0 [] w0 [] _ := C'
          replace T : TR U0 [] _ [] _ [] := T
          replace f_170 : Sl 1 (RSl 1 (RInt .u8)) (Mu U0 []) _ A_168 k_169 x_167.1.Out := f_170.mu (mu_join (R := []) (L2 := []) (fun b h => h))
          replace f_173 : Sl 1 (RInt .u8) (Mu U0 []) _ A_171 k_172 x_167.1.In := f_173.mu (mu_join (R := []) (L2 := []) (fun b h => h))
          replace f_157 := T.sl f_157
          replace f_160 := T.sl f_160
          replace f_166 := T.sl f_166
          clear T; replace C := C'; clear C'
          clear D
          refine ⟨trivial, ?_⟩
          refine WA.take (i := 3) (bs' := [true, true, true, true, false, false, false, false, false]) rfl (by kernel_rfl) (by kernel_rfl) (by kernel_rfl) (fun _ _ => rv_move rfl) trivial rfl rfl ?_
          refine WA.take (i := 4) (bs' := [true, true, true, true, true, false, false, false, false]) rfl (by kernel_rfl) (by kernel_rfl) (by kernel_rfl) (fun _ _ => rv_extract rfl rfl) trivial rfl rfl ?_
          refine WA.take (i := 5) (bs' := [true, true, true, true, true, true, false, false, false]) rfl (by kernel_rfl) (by kernel_rfl) (by kernel_rfl) (fun _ _ => rv_extract rfl rfl) trivial rfl rfl ?_
          refine WA.all1 (i := 6) (by kernel_rfl) ?_
          refine WS.world (i := 6) (bs' := [true, true, true, true, true, true, true, false, false]) rfl (rw_alloc Try.zeroValue26 rfl C) rfl rfl ?_
          rintro v w ⟨b_174, rfl, hb_174, C', T⟩
          replace C' : Ctx U0 [] w0 [some b_174] _ := C'
          replace T : TR U0 [] _ [some b_174] _ [] := T
          replace hb_174 : Blk _ b_174 26 [.int .u16 0, .int .u16 0, .int .u16 0, .int .i64 0, .int .i64 0, .int .i64 0, .int .i64 0, .int .i64 0, .int .i64 0, .int .i64 0, .slice none 0 0, .int .i64 0, .slice none 0 0, .int .i64 0, .bool false] := hb_174
          replace f_157 := T.sl f_157
          replace f_160 := T.sl f_160
          replace f_166 := T.sl f_166
          replace f_170 := T.sl f_170
          replace f_173 := T.sl f_173
          clear T; replace C := C'; clear C'
          refine ⟨trivial, ?_⟩
          refine WA.all1 (i := 7) (by kernel_rfl) ?_
          refine WS.storeK (i := 7) (bs' := [true, true, true, true, true, true, true, true, false]) rfl (rs_store (i := 0) (cs' := [.int .u16 x_167.1.Local, .int .u16 x_167.1.Remote, .int .u16 x_167.1.PSM, .int .i64 x_167.1.MTU, .int .i64 x_167.1.MPS, .int .i64 x_167.1.PeerMTU, .int .i64 x_167.1.PeerMPS, .int .i64 x_167.1.TxCredits, .int .i64 x_167.1.RxCredits, .int .i64 x_167.1.Given, .slice A_168 (List.length x_167.1.Out) k_169, .int .i64 x_167.1.Sent, .slice A_171 (List.length x_167.1.In) k_172, .int .i64 x_167.1.Want, .bool x_167.1.Failed]) Try.sizeOf26 rfl rfl rfl rfl rfl hb_174 rfl C rfl rfl) rfl ?_
          rintro w ⟨hb_174, C', T⟩
          replace f_157 := T.sl f_157
          replace f_160 := T.sl f_160
          replace f_166 := T.sl f_166
          replace f_170 := T.sl f_170
          replace f_173 := T.sl f_173
          clear T; replace C := C'; clear C'
          refine ⟨trivial, ?_⟩
          refine WA.take (i := 8) (bs' := [true, true, true, true, true, true, true, true, true]) rfl (by kernel_rfl) (by kernel_rfl) (by kernel_rfl) (fun _ _ => rv_assign rfl) trivial rfl rfl ?_
          refine WA.done (by kernel_rfl) (fun a ha => ?_)
          exact ⟨x_167.1.Local, x_167.1.Remote, x_167.1.PSM, x_167.1.MTU, x_167.1.MPS, x_167.1.PeerMTU, x_167.1.PeerMPS, x_167.1.TxCredits, x_167.1.RxCredits, x_167.1.Given, x_167.1.Out, x_167.1.Sent, x_167.1.In, x_167.1.Want, x_167.1.Failed, x_167.2, b_174, A_168, k_169, A_171, k_172, hp, ha.sub ⟨rfl, rfl, trivial⟩, C, f_170, f_173, hb_174⟩
        · refine WS.world (i := 6) (bs' := [true, true, false, false, false, false, true, false, false]) rfl (rw_alloc Try.zeroValue26 rfl C) rfl rfl ?_
          rintro v w ⟨b_175, rfl, hb_175, C', T⟩
          replace C' : Ctx U0 [] w0 [some b_175, ob A_163] _ := C'
          replace T : TR U0 [ob A_163] _ [some b_175, ob A_163] _ [] := T
          replace hb_175 : Blk _ b_175 26 [.int .u16 0, .int .u16 0, .int .u16 0, .int .i64 0, .int .i64 0, .int .i64 0, .int .i64 0, .int .i64 0, .int .i64 0, .int .i64 0, .slice none 0 0, .int .i64 0, .slice none 0 0, .int .i64 0, .bool false] := hb_175
          replace f_157 := T.sl f_157
          replace f_160 := T.sl f_160
          replace f_165 := T.own ne0 f_165
          clear T; replace C := C'; clear C'
          refine ⟨trivial, ?_⟩
          refine WA.all1 (i := 2) (by kernel_rfl) ?_
          have f_176 : Sl 1 (RInt .u8) (Mu U0 [some b_175]) _ A_163 k_164 l_161 := f_165.toSl (C.off (i := 1) rfl [0] rfl (by decide)) (Mu.weaken (mem_pick [0] rfl))
          have T : TR U0 [some b_175, ob A_163] w [some b_175] w [] := TR.pick [0] rfl
          have C' : Ctx U0 [] w0 [some b_175] _ := C.pick [0] (by decide) rfl
          replace f_157 := T.sl f_157
          replace f_160 := T.sl f_160
          replace hb_175 := T.blk ne0 hb_175
          clear T; replace C := C'; clear C'
          replace hp := bind_inv hp
          obtain ⟨x_177, e_x_177, hp⟩ := hp
          refine WS.call (i := 2) (bs' := [true, true, true, false, false, false, true, false, false]) rfl (rc_func Try.call18 rfl) (ok_sdu_Queue F (Mu U0 [some b_175]) _ x_154 l_161 A_155 k_156 A_158 k_159 A_163 k_164 (C.give [0] [] (by decide) rfl rfl (by decide)) (f_157.mu (mu_give [0] [] rfl rfl)) (f_160.mu (mu_give [0] [] rfl rfl)) (f_176.mu (mu_give [0] [] rfl rfl)) _ e_x_177) rfl rfl ?_
          rintro v w ⟨A_178, k_179, A_181, k_182, rfl, D, f_180, f_183⟩
          obtain ⟨C', T⟩ := C.join D [0] [] (by decide) rfl rfl (by decide)
          replace C' : Ctx U0 [] w0 [some b_175] _ := C'
          replace T : TR U0 [some b_175] _ [some b_175] _ [] := T
          replace f_180 : Sl 1 (RSl 1 (RInt .u8)) (Mu U0 [some b_175]) _ A_178 k_179 x_177.1.Out := f_180.mu (mu_join (R := []) (L2 := [some b_175]) (fun b h => h))
          replace f_183 : Sl 1 (RInt .u8) (Mu U0 [some b_175]) _ A_181 k_182 x_177.1.In := f_183.mu (mu_join (R := []) (L2 := [some b_175]) (fun b h => h))
          replace f_157 := T.sl f_157
          replace f_160 := T.sl f_160
          replace f_176 := T.sl f_176
          replace hb_175 := T.blk ne0 hb_175
          clear T; replace C := C'; clear C'
          clear D
          refine ⟨trivial, ?_⟩
          refine WA.take (i := 3) (bs' := [true, true, true, true, false, false, true, false, false]) rfl (by kernel_rfl) (by kernel_rfl) (by kernel_rfl) (fun _ _ => rv_move rfl) trivial rfl rfl ?_
          refine WA.take (i := 4) (bs' := [true, true, true, true, true, false, true, false, false]) rfl (by kernel_rfl) (by kernel_rfl) (by kernel_rfl) (fun _ _ => rv_extract rfl rfl) trivial rfl rfl ?_
          refine WA.take (i := 5) (bs' := [true, true, true, true, true, true, true, false, false]) rfl (by kernel_rfl) (by kernel_rfl) (by kernel_rfl) (fun _ _ => rv_extract rfl rfl) trivial rfl rfl ?_
          refine WA.all1 (i := 7) (by kernel_rfl) ?_
          refine WS.storeK (i := 7) (bs' := [true, true, true, true, true, true, true, true, false]) rfl (rs_store (i := 0) (cs' := [.int .u16 x_177.1.Local, .int .u16 x_177.1.Remote, .int .u16 x_177.1.PSM, .int .i64 x_177.1.MTU, .int .i64 x_177.1.MPS, .int .i64 x_177.1.PeerMTU, .int .i64 x_177.1.PeerMPS, .int .i64 x_177.1.TxCredits, .int .i64 x_177.1.RxCredits, .int .i64 x_177.1.Given, .slice A_178 (List.length x_177.1.Out) k_179, .int .i64 x_177.1.Sent, .slice A_181 (List.length x_177.1.In) k_182, .int .i64 x_177.1.Want, .bool x_177.1.Failed]) Try.sizeOf26 rfl rfl rfl rfl rfl hb_175 rfl C rfl rfl) rfl ?_
          rintro w ⟨hb_175, C', T⟩
          replace f_157 := T.sl f_157
          replace f_160 := T.sl f_160
          replace f_176 := T.sl f_176
          replace f_180 := T.sl f_180
          replace f_183 := T.sl f_183
          clear T; replace C := C'; clear C'
          refine ⟨trivial, ?_⟩
          refine WA.take (i := 8) (bs' := [true, true, true, true, true, true, true, true, true]) rfl (by kernel_rfl) (by kernel_rfl) (by kernel_rfl) (fun _ _ => rv_assign rfl) trivial rfl rfl ?_
          refine WA.done (by kernel_rfl) (fun a ha => ?_)
          exact ⟨x_177.1.Local, x_177.1.Remote, x_177.1.PSM, x_177.1.MTU, x_177.1.MPS, x_177.1.PeerMTU, x_177.1.PeerMPS, x_177.1.TxCredits, x_177.1.RxCredits, x_177.1.Given, x_177.1.Out, x_177.1.Sent, x_177.1.In, x_177.1.Want, x_177.1.Failed, x_177.2, b_175, A_178, k_179, A_181, k_182, hp, ha.sub ⟨rfl, rfl, trivial⟩, C, f_180, f_183, hb_175⟩
      · refine WS.world (i := 6) (bs' := [true, false, false, false, false, false, true, false, false]) rfl (rw_alloc Try.zeroValue26 rfl C) rfl rfl ?_
        rintro v w ⟨b_184, rfl, hb_184, C', T⟩
        replace C' : Ctx U0 [] w0 [some b_184] _ := C'
        replace T : TR U0 [] _ [some b_184] _ [] := T
        replace hb_184 : Blk _ b_184 26 [.int .u16 0, .int .u16 0, .int .u16 0, .int .i64 0, .int .i64 0, .int .i64 0, .int .i64 0, .int .i64 0, .int .i64 0, .int .i64 0, .slice none 0 0, .int .i64 0, .slice none 0 0, .int .i64 0, .bool false] := hb_184
        replace f_157 := T.sl f_157
        replace f_160 := T.sl f_160
        clear T; replace C := C'; clear C'
        refine ⟨trivial, ?_⟩
        refine WA.all1 (i := 1) (by kernel_rfl) ?_
        replace hp := bind_inv hp
        obtain ⟨l_185, e_l_185, hp⟩ := hp
        refine WS.world (i := 1) (bs' := [true, true, false, false, false, false, true, false, false]) rfl (rw_make (sz := 1) (zs := [.int .u8 0]) (R := (RInt .u8)) Try.underlying24 I5 rfl rfl rfl rfl rfl rfl rfl (fun _ _ => rfl) e_l_185 C) rfl rfl ?_
        rintro v w ⟨A_187, k_188, rfl, f_189, C', T⟩
        replace C' : Ctx U0 [] w0 [ob A_187, some b_184] _ := C'
        replace T : TR U0 [some b_184] _ [ob A_187, some b_184] _ _ := T
        replace f_189 : Own 1 5 (RInt .u8) (Mu U0 [ob A_187, some b_184]) _ A_187 k_188 l_185 := f_189
        replace f_157 := T.sl f_157
        replace f_160 := T.sl f_160
        replace hb_184 := T.blk ne0 hb_184
        clear T; replace C := C'; clear C'
        refine ⟨trivial, ?_⟩
        refine WA.all1 (i := 2) (by kernel_rfl) ?_
        have f_190 : Sl 1 (RInt .u8) (Mu U0 [some b_184]) _ A_187 k_188 l_185 := f_189.toSl (C.off (i := 0) rfl [1] rfl (by decide)) (Mu.weaken (mem_pick [1] rfl))
        have T : TR U0 [ob A_187, some b_184] w [some b_184] w [] := TR.pick [1] rfl
        have C' : Ctx U0 [] w0 [some b_184] _ := C.pick [1] (by decide) rfl
        replace f_157 := T.sl f_157
        replace f_160 := T.sl f_160
        replace hb_184 := T.blk ne0 hb_184
        clear T; replace C := C'; clear C'
        replace hp := bind_inv hp
        obtain ⟨x_191, e_x_191, hp⟩ := hp
        refine WS.call (i := 2) (bs' := [true, true, true, false, false, false, true, false, false]) rfl (rc_func Try.call18 rfl) (ok_sdu_Queue F (Mu U0 [some b_184]) _ x_154 l_185 A_155 k_156 A_158 k_159 A_187 k_188 (C.give [0] [] (by decide) rfl rfl (by decide)) (f_157.mu (mu_give [0] [] rfl rfl)) (f_160.mu (mu_give [0] [] rfl rfl)) (f_190.mu (mu_give [0] [] rfl rfl)) _ e_x_191) rfl rfl ?_
        rintro v w ⟨A_192, k_193, A_195, k_196, rfl, D, f_194, f_197⟩
        obtain ⟨C', T⟩ := C.join D [0] [] (by decide) rfl rfl (by decide)
        replace C' : Ctx U0 [] w0 [some b_184] _ := C'
        replace T : TR U0 [some b_184] _ [some b_184] _ [] := T
        replace f_194 : Sl 1 (RSl 1 (RInt .u8)) (Mu U0 [some b_184]) _ A_192 k_193 x_191.1.Out := f_194.mu (mu_join (R := []) (L2 := [some b_184]) (fun b h => h))
        replace f_197 : Sl 1 (RInt .u8) (Mu U0 [some b_184]) _ A_195 k_196 x_191.1.In := f_197.mu (mu_join (R := []) (L2 := [some b_184]) (fun b h => h))
        replace f_157 := T.sl f_157
        replace f_160 := T.sl f_160
        replace f_190 := T.sl f_190
        replace hb_184 := T.blk ne0 hb_184
        clear T; replace C := C'; clear C'
        clear D
        refine ⟨trivial, ?_⟩
        refine WA.take (i := 3) (bs' := [true, true, true, true, false, false, true, false, false]) rfl (by kernel_rfl) (by kernel_rfl) (by kernel_rfl) (fun _ _ => rv_move rfl) trivial rfl rfl ?_
        refine WA.take (i := 4) (bs' := [true, true, true, true, true, false, true, false, false]) rfl (by kernel_rfl) (by kernel_rfl) (by kernel_rfl) (fun _ _ => rv_extract rfl rfl) trivial rfl rfl ?_
        refine WA.take (i := 5) (bs' := [true, true, true, true, true, true, true, false, false]) rfl (by kernel_rfl) (by kernel_rfl) (by kernel_rfl) (fun _ _ => rv_extract rfl rfl) trivial rfl rfl ?_
        refine WA.all1 (i := 7) (by kernel_rfl) ?_
        refine WS.storeK (i := 7) (bs' := [true, true, true, true, true, true, true, true, false]) rfl (rs_store (i := 0) (cs' := [.int .u16 x_191.1.Local, .int .u16 x_191.1.Remote, .int .u16 x_191.1.PSM, .int .i64 x_191.1.MTU, .int .i64 x_191.1.MPS, .int .i64 x_191.1.PeerMTU, .int .i64 x_191.1.PeerMPS, .int .i64 x_191.1.TxCredits, .int .i64 x_191.1.RxCredits, .int .i64 x_191.1.Given, .slice A_192 (List.length x_191.1.Out) k_193, .int .i64 x_191.1.Sent, .slice A_195 (List.length x_191.1.In) k_196, .int .i64 x_191.1.Want, .bool x_191.1.Failed]) Try.sizeOf26 rfl rfl rfl rfl rfl hb_184 rfl C rfl rfl) rfl ?_
        rintro w ⟨hb_184, C', T⟩
        replace f_157 := T.sl f_157
        replace f_160 := T.sl f_160
        replace f_190 := T.sl f_190
        replace f_194 := T.sl f_194
        replace f_197 := T.sl f_197
        clear T; replace C := C'; clear C'
        refine ⟨trivial, ?_⟩
        refine WA.take (i := 8) (bs' := [true, true, true, true, true, true, true, true, true]) rfl (by kernel_rfl) (by kernel_rfl) (by kernel_rfl) (fun _ _ => rv_assign rfl) trivial rfl rfl ?_
        refine WA.done (by kernel_rfl) (fun a ha => ?_)
        exact ⟨x_191.1.Local, x_191.1.Remote, x_191.1.PSM, x_191.1.MTU, x_191.1.MPS, x_191.1.PeerMTU, x_191.1.PeerMPS, x_191.1.TxCredits, x_191.1.RxCredits, x_191.1.Given, x_191.1.Out, x_191.1.Sent, x_191.1.In, x_191.1.Want, x_191.1.Failed, x_191.2, b_184, A_192, k_193, A_195, k_196, hp, ha.sub ⟨rfl, rfl, trivial⟩, C, f_194, f_197, hb_184⟩
    · replace hp := bind_swap hp
      replace hp := bind_inv hp
      obtain ⟨l_198, e_l_198, hp⟩ := hp
      refine WS.world (i := 1) (bs' := [false, true, false, false, false, false, false, false, false]) rfl (rw_make (sz := 1) (zs := [.int .u8 0]) (R := (RInt .u8)) Try.underlying24 I5 rfl rfl rfl rfl rfl rfl rfl (fun _ _ => rfl) e_l_198 C) rfl rfl ?_
      rintro v w ⟨A_200, k_201, rfl, f_202, C', T⟩
      replace C' : Ctx U0 [] w0 [ob A_200] _ := C'
      replace T : TR U0 [] _ [ob A_200] _ _ := T
      replace f_202 : Own 1 5 (RInt .u8) (Mu U0 [ob A_200]) _ A_200 k_201 l_198 := f_202
      clear T; replace C := C'; clear C'
      refine ⟨trivial, ?_⟩
      refine WA.all2 (i := 0) (j := 6) (by kernel_rfl) ?_ ?_
      · replace hp := bind_inv hp
        obtain ⟨x_203, e_x_203, hp⟩ := hp
        refine WS.call (i := 0) (bs' := [true, true, false, false, false, false, false, false, false]) rfl (rc_func Try.call19 rfl) (ok_wirelesslaw33_end F (Mu U0 [ob A_200]) _ 40 23 5 (C.give [0] [] (by decide) rfl rfl (by decide)) _ e_x_203) rfl rfl ?_
        rintro v w ⟨A_204, k_205, A_207, k_208, rfl, D, f_206, f_209⟩
        obtain ⟨C', T⟩ := C.join D [0] [] (by decide) rfl rfl (by decide)
        replace C' : Ctx U0 [] w0 [ob A_200] _ := C'
        replace T : TR U0 [ob A_200] _ [ob A_200] _ [] := T
        replace f_206 : Sl 1 (RSl 1 (RInt .u8)) (Mu U0 [ob A_200]) _ A_204 k_205 x_203.Out := f_206.mu (mu_join (R := []) (L2 := [ob A_200]) (fun b h => h))
        replace f_209 : Sl 1 (RInt .u8) (Mu U0 [ob A_200]) _ A_207 k_208 x_203.In := f_209.mu (mu_join (R := []) (L2 := [ob A_200]) (fun b h => h))
        replace f_202 := T.own ne0 f_202
        clear T; replace C := C'; clear C'
        clear D
        refine ⟨trivial, ?_⟩
        refine WA.all2 (i := 2) (j := 6) (by kernel_rfl) ?_ ?_
        · have f_210 : Sl 1 (RInt .u8) (Mu U0 []) _ A_200 k_201 l_198 := f_202.toSl (C.off (i := 0) rfl [] rfl (by decide)) (Mu.weaken (mem_pick [] rfl))
          have T : TR U0 [ob A_200] w [] w [] := TR.pick [] rfl
          have C' : Ctx U0 [] w0 [] _ := C.pick [] (by decide) rfl
          replace f_206 := T.sl f_206
          replace f_209 := T.sl f_209
          clear T; replace C := C'; clear C'
          replace hp := bind_inv hp
          obtain ⟨x_211, e_x_211, hp⟩ := hp
          refine WS.call (i := 2) (bs' := [true, true, true, false, false, false, false, false, false]) rfl (rc_func Try.call18 rfl) (ok_sdu_Queue F (Mu U0 []) _ x_203 l_198 A_204 k_205 A_207 k_208 A_200 k_201 (C.give [] [] (by decide) rfl rfl (by decide)) (f_206.mu (mu_give [] [] rfl rfl)) (f_209.mu (mu_give [] [] rfl rfl)) (f_210.mu (mu_give [] [] rfl rfl)) _ e_x_211) rfl rfl ?_
          rintro v w ⟨A_212, k_213, A_215, k_216, rfl, D, f_214, f_217⟩
          obtain ⟨C', T⟩ := C.join D [] [] (by decide) rfl rfl (by decide)
          replace C' : Ctx U0 [] w0 [] _ := C'
          replace T : TR U0 [] _ [] _ [] := T
          replace f_214 : Sl 1 (RSl 1 (RInt .u8)) (Mu U0 []) _ A_212 k_213 x_211.1.Out := f_214.mu (mu_join (R := []) (L2 := []) (fun b h => h))
          replace f_217 : Sl 1 (RInt .u8) (Mu U0 []) _ A_215 k_216 x_211.1.In := f_217.mu (mu_join (R := []) (L2 := []) (fun b h => h))
          replace f_206 := T.sl f_206
          replace f_209 := T.sl f_209
          replace f_210 := T.sl f_210
          clear T; replace C := C'; clear C'
          clear D
          refine ⟨trivial, ?_⟩
          refine WA.take (i := 3) (bs' := [true, true, true, true, false, false, false, false, false]) rfl (by kernel_rfl) (by kernel_rfl) (by kernel_rfl) (fun _ _ => rv_move rfl) trivial rfl rfl ?_
          refine WA.take (i := 4) (bs' := [true, true, true, true, true, false, false, false, false]) rfl (by kernel_rfl) (by kernel_rfl) (by kernel_rfl) (fun _ _ => rv_extract rfl rfl) trivial rfl rfl ?_
          refine WA.take (i := 5) (bs' := [true, true, true, true, true, true, false, false, false]) rfl (by kernel_rfl) (by kernel_rfl) (by kernel_rfl) (fun _ _ => rv_extract rfl rfl) trivial rfl rfl ?_
          refine WA.all1 (i := 6) (by kernel_rfl) ?_
          refine WS.world (i := 6) (bs' := [true, true, true, true, true, true, true, false, false]) rfl (rw_alloc Try.zeroValue26 rfl C) rfl rfl ?_
          rintro v w ⟨b_218, rfl, hb_218, C', T⟩
          replace C' : Ctx U0 [] w0 [some b_218] _ := C'
          replace T : TR U0 [] _ [some b_218] _ [] := T
          replace hb_218 : Blk _ b_218 26 [.int .u16 0, .int .u16 0, .int .u16 0, .int .i64 0, .int .i64 0, .int .i64 0, .int .i64 0, .int .i64 0, .int .i64 0, .int .i64 0, .slice none 0 0, .int .i64 0, .slice none 0 0, .int .i64 0, .bool false] := hb_218
          replace f_206 := T.sl f_206
          replace f_209 := T.sl f_209
          replace f_210 := T.sl f_210
          replace f_214 := T.sl f_214
          replace f_217 := T.sl f_217
          clear T; replace C := C'; clear C'
          refine ⟨trivial, ?_⟩
          refine WA.all1 (i := 7) (by kernel_rfl) ?_
          refine WS.storeK (i := 7) (bs' := [true, true, true, true, true, true, true, true, false]) rfl (rs_store (i := 0) (cs' := [.int .u16 x_211.1.Local, .int .u16 x_211.1.Remote, .int .u16 x_211.1.PSM, .int .i64 x_211.1.MTU, .int .i64 x_211.1.MPS, .int .i64 x_211.1.PeerMTU, .int .i64 x_211.1.PeerMPS, .int .i64 x_211.1.TxCredits, .int .i64 x_211.1.RxCredits, .int .i64 x_211.1.Given, .slice A_212 (List.length x_211.1.Out) k_213, .int .i64 x_211.1.Sent, .slice A_215 (List.length x_211.1.In) k_216, .int .i64 x_211.1.Want, .bool x_211.1.Failed]) Try.sizeOf26 rfl rfl rfl rfl rfl hb_218 rfl C rfl rfl) rfl ?_
          rintro w ⟨hb_218, C', T⟩
          replace f_206 := T.sl f_206
          replace f_209 := T.sl f_209
          replace f_210 := T.sl f_210
          replace f_214 := T.sl f_214
          replace f_217 := T.sl f_217
          clear T; replace C := C'; clear C'
          refine ⟨trivial, ?_⟩
          refine WA.take (i := 8) (bs' := [true, true, true, true, true, true, true, true, true]) rfl (by kernel_rfl) (by kernel_rfl) (by kernel_rfl) (fun _ _ => rv_assign rfl) trivial rfl rfl ?_
          refine WA.done (by kernel_rfl) (fun a ha => ?_)
          exact ⟨x_211.1.Local, x_211.1.Remote, x_211.1.PSM, x_211.1.MTU, x_211.1.MPS, x_211.1.PeerMTU, x_211.1.PeerMPS, x_211.1.TxCredits, x_211.1.RxCredits, x_211.1.Given, x_211.1.Out, x_211.1.Sent, x_211.1.In, x_211.1.Want, x_211.1.Failed, x_211.2, b_218, A_212, k_213, A_215, k_216, hp, ha.sub ⟨rfl, rfl, trivial⟩, C, f_214, f_217, hb_218⟩
        · refine WS.world (i := 6) (bs' := [true, true, false, false, false, false, true, false, false]) rfl (rw_alloc Try.zeroValue26 rfl C) rfl rfl ?_
          rintro v w ⟨b_219, rfl, hb_219, C', T⟩
          replace C' : Ctx U0 [] w0 [some b_219, ob A_200] _ := C'
          replace T : TR U0 [ob A_200] _ [some b_219, ob A_200] _ [] := T
          replace hb_219 : Blk _ b_219 26 [.int .u16 0, .int .u16 0, .int .u16 0, .int .i64 0, .int .i64 0, .int .i64 0, .int .i64 0, .int .i64 0, .int .i64 0, .int .i64 0, .slice none 0 0, .int .i64 0, .slice none 0 0, .int .i64 0, .bool false] := hb_219
          replace f_206 := T.sl f_206
          replace f_209 := T.sl f_209
          replace f_202 := T.own ne0 f_202
          clear T; replace C := C'; clear C'
          refine ⟨trivial, ?_⟩
          refine WA.all1 (i := 2) (by kernel_rfl) ?_
          have f_220 : Sl 1 (RInt .u8) (Mu U0 [some b_219]) _ A_200 k_201 l_198 := f_202.toSl (C.off (i := 1) rfl [0] rfl (by decide)) (Mu.weaken (mem_pick [0] rfl))
          have T : TR U0 [some b_219, ob A_200] w [some b_219] w [] := TR.pick [0] rfl
          have C' : Ctx U0 [] w0 [some b_219] _ := C.pick [0] (by decide) rfl
          replace f_206 := T.sl f_206
          replace f_209 := T.sl f_209
          replace hb_219 := T.blk ne0 hb_219
          clear T; replace C := C'; clear C'
          replace hp := bind_inv hp
          obtain ⟨x_221, e_x_221, hp⟩ := hp
          refine WS.call (i := 2) (bs' := [true, true, true, false, false, false, true, false, false]) rfl (rc_func Try.call18 rfl) (ok_sdu_Queue F (Mu U0 [some b_219]) _ x_203 l_198 A_204 k_205 A_207 k_208 A_200 k_201 (C.give [0] [] (by decide) rfl rfl (by decide)) (f_206.mu (mu_give [0] [] rfl rfl)) (f_209.mu (mu_give [0] [] rfl rfl)) (f_220.mu (mu_give [0] [] rfl rfl)) _ e_x_221) rfl rfl ?_
          rintro v w ⟨A_222, k_223, A_225, k_226, rfl, D, f_224, f_227⟩
          obtain ⟨C', T⟩ := C.join D [0] [] (by decide) rfl rfl (by decide)
          replace C' : Ctx U0 [] w0 [some b_219] _ := C'
          replace T : TR U0 [some b_219] _ [some b_219] _ [] := T
          replace f_224 : Sl 1 (RSl 1 (RInt .u8)) (Mu U0 [some b_219]) _ A_222 k_223 x_221.1.Out := f_224.mu (mu_join (R := []) (L2 := [some b_219]) (fun b h => h))
          replace f_227 : Sl 1 (RInt .u8) (Mu U0 [some b_219]) _ A_225 k_226 x_221.1.In := f_227.mu (mu_join (R := []) (L2 := [some b_219]) (fun b h => h))
          replace f_206 := T.sl f_206
          replace f_209 := T.sl f_209
          replace f_220 := T.sl f_220
          replace hb_219 := T.blk ne0 hb_219
          clear T; replace C := C'; clear C'
          clear D
          refine ⟨trivial, ?_⟩
          refine WA.take (i := 3) (bs' := [true, true, true, true, false, false, true, false, false]) rfl (by kernel_rfl) (by kernel_rfl) (by kernel_rfl) (fun _ _ => rv_move rfl) trivial rfl rfl ?_
          refine WA.take (i := 4) (bs' := [true, true, true, true, true, false, true, false, false]) rfl (by kernel_rfl) (by kernel_rfl) (by kernel_rfl) (fun _ _ => rv_extract rfl rfl) trivial rfl rfl ?_
          refine WA.take (i := 5) (bs' := [true, true, true, true, true, true, true, false, false]) rfl (by kernel_rfl) (by kernel_rfl) (by kernel_rfl) (fun _ _ => rv_extract rfl rfl) trivial rfl rfl ?_
          refine WA.all1 (i := 7) (by kernel_rfl) ?_
          refine WS.storeK (i := 7) (bs' := [true, true, true, true, true, true, true, true, false]) rfl (rs_store (i := 0) (cs' := [.int .u16 x_221.1.Local, .int .u16 x_221.1.Remote, .int .u16 x_221.1.PSM, .int .i64 x_221.1.MTU, .int .i64 x_221.1.MPS, .int .i64 x_221.1.PeerMTU, .int .i64 x_221.1.PeerMPS, .int .i64 x_221.1.TxCredits, .int .i64 x_221.1.RxCredits, .int .i64 x_221.1.Given, .slice A_222 (List.length x_221.1.Out) k_223, .int .i64 x_221.1.Sent, .slice A_225 (List.length x_221.1.In) k_226, .int .i64 x_221.1.Want, .bool x_221.1.Failed]) Try.sizeOf26 rfl rfl rfl rfl rfl hb_219 rfl C rfl rfl) rfl ?_
          rintro w ⟨hb_219, C', T⟩
          replace f_206 := T.sl f_206
          replace f_209 := T.sl f_209
          replace f_220 := T.sl f_220
          replace f_224 := T.sl f_224
          replace f_227 := T.sl f_227
          clear T; replace C := C'; clear C'
          refine ⟨trivial, ?_⟩
          refine WA.take (i := 8) (bs' := [true, true, true, true, true, true, true, true, true]) rfl (by kernel_rfl) (by kernel_rfl) (by kernel_rfl) (fun _ _ => rv_assign rfl) trivial rfl rfl ?_
          refine WA.done (by kernel_rfl) (fun a ha => ?_)
          exact ⟨x_221.1.Local, x_221.1.Remote, x_221.1.PSM, x_221.1.MTU, x_221.1.MPS, x_221.1.PeerMTU, x_221.1.PeerMPS, x_221.1.TxCredits, x_221.1.RxCredits, x_221.1.Given, x_221.1.Out, x_221.1.Sent, x_221.1.In, x_221.1.Want, x_221.1.Failed, x_221.2, b_219, A_222, k_223, A_225, k_226, hp, ha.sub ⟨rfl, rfl, trivial⟩, C, f_224, f_227, hb_219⟩
      · refine WS.world (i := 6) (bs' := [false, true, false, false, false, false, true, false, false]) rfl (rw_alloc Try.zeroValue26 rfl C) rfl rfl ?_
        rintro v w ⟨b_228, rfl, hb_228, C', T⟩
        replace C' : Ctx U0 [] w0 [some b_228, ob A_200] _ := C'
        replace T : TR U0 [ob A_200] _ [some b_228, ob A_200] _ [] := T
        replace hb_228 : Blk _ b_228 26 [.int .u16 0, .int .u16 0, .int .u16 0, .int .i64 0, .int .i64 0, .int .i64 0, .int .i64 0, .int .i64 0, .int .i64 0, .int .i64 0, .slice none 0 0, .int .i64 0, .slice none 0 0, .int .i64 0, .bool false] := hb_228
        replace f_202 := T.own ne0 f_202
        clear T; replace C := C'; clear C'
        refine ⟨trivial, ?_⟩
        refine WA.all1 (i := 0) (by kernel_rfl) ?_
        replace hp := bind_inv hp
        obtain ⟨x_229, e_x_229, hp⟩ := hp
        refine WS.call (i := 0) (bs' := [true, true, false, false, false, false, true, false, false]) rfl (rc_func Try.call19 rfl) (ok_wirelesslaw33_end F (Mu U0 [some b_228, ob A_200]) _ 40 23 5 (C.give [0, 1] [] (by decide) rfl rfl (by decide)) _ e_x_229) rfl rfl ?_
        rintro v w ⟨A_230, k_231, A_233, k_234, rfl, D, f_232, f_235⟩
        obtain ⟨C', T⟩ := C.join D [0, 1] [] (by decide) rfl rfl (by decide)
        replace C' : Ctx U0 [] w0 [some b_228, ob A_200] _ := C'
        replace T : TR U0 [some b_228, ob A_200] _ [some b_228, ob A_200] _ [] := T
        replace f_232 : Sl 1 (RSl 1 (RInt .u8)) (Mu U0 [some b_228, ob A_200]) _ A_230 k_231 x_229.Out := f_232.mu (mu_join (R := []) (L2 := [some b_228, ob A_200]) (fun b h => h))
        replace f_235 : Sl 1 (RInt .u8) (Mu U0 [some b_228, ob A_200]) _ A_233 k_234 x_229.In := f_235.mu (mu_join (R := []) (L2 := [some b_228, ob A_200]) (fun b h => h))
        replace hb_228 := T.blk ne0 hb_228
        replace f_202 := T.own ne0 f_202
        clear T; replace C := C'; clear C'
        clear D
        refine ⟨trivial, ?_⟩
        refine WA.all1 (i := 2) (by kernel_rfl) ?_
        have f_236 : Sl 1 (RInt .u8) (Mu U0 [some b_228]) _ A_200 k_201 l_198 := f_202.toSl (C.off (i := 1) rfl [0] rfl (by decide)) (Mu.weaken (mem_pick [0] rfl))
        have T : TR U0 [some b_228, ob A_200] w [some b_228] w [] := TR.pick [0] rfl
        have C' : Ctx U0 [] w0 [some b_228] _ := C.pick [0] (by decide) rfl
        replace f_232 := T.sl f_232
        replace f_235 := T.sl f_235
        replace hb_228 := T.blk ne0 hb_228
        clear T; replace C := C'; clear C'
        replace hp := bind_inv hp
        obtain ⟨x_237, e_x_237, hp⟩ := hp
        refine WS.call (i := 2) (bs' := [true, true, true, false, false, false, true, false, false]) rfl (rc_func Try.call18 rfl) (ok_sdu_Queue F (Mu U0 [some b_228]) _ x_229 l_198 A_230 k_231 A_233 k_234 A_200 k_201 (C.give [0] [] (by decide) rfl rfl (by decide)) (f_232.mu (mu_give [0] [] rfl rfl)) (f_235.mu (mu_give [0] [] rfl rfl)) (f_236.mu (mu_give [0] [] rfl rfl)) _ e_x_237) rfl rfl ?_
        rintro v w ⟨A_238, k_239, A_241, k_242, rfl, D, f_240, f_243⟩
        obtain ⟨C', T⟩ := C.join D [0] [] (by decide) rfl rfl (by decide)
        replace C' : Ctx U0 [] w0 [some b_228] _ := C'
        replace T : TR U0 [some b_228] _ [some b_228] _ [] := T
        replace f_240 : Sl 1 (RSl 1 (RInt .u8)) (Mu U0 [some b_228]) _ A_238 k_239 x_237.1.Out := f_240.mu (mu_join (R := []) (L2 := [some b_228]) (fun b h => h))
        replace f_243 : Sl 1 (RInt .u8) (Mu U0 [some b_228]) _ A_241 k_242 x_237.1.In := f_243.mu (mu_join (R := []) (L2 := [some b_228]) (fun b h => h))
        replace f_232 := T.sl f_232
        replace f_235 := T.sl f_235
        replace f_236 := T.sl f_236
        replace hb_228 := T.blk ne0 hb_228
        clear T; replace C := C'; clear C'
        clear D
        refine ⟨trivial, ?_⟩
        refine WA.take (i := 3) (bs' := [true, true, true, true, false, false, true, false, false]) rfl (by kernel_rfl) (by kernel_rfl) (by kernel_rfl) (fun _ _ => rv_move rfl) trivial rfl rfl ?_
        refine WA.take (i := 4) (bs' := [true, true, true, true, true, false, true, false, false]) rfl (by kernel_rfl) (by kernel_rfl) (by kernel_rfl) (fun _ _ => rv_extract rfl rfl) trivial rfl rfl ?_
        refine WA.take (i := 5) (bs' := [true, true, true, true, true, true, true, false, false]) rfl (by kernel_rfl) (by kernel_rfl) (by kernel_rfl) (fun _ _ => rv_extract rfl rfl) trivial rfl rfl ?_
        refine WA.all1 (i := 7) (by kernel_rfl) ?_
        refine WS.storeK (i := 7) (bs' := [true, true, true, true, true, true, true, true, false]) rfl (rs_store (i := 0) (cs' := [.int .u16 x_237.1.Local, .int .u16 x_237.1.Remote, .int .u16 x_237.1.PSM, .int .i64 x_237.1.MTU, .int .i64 x_237.1.MPS, .int .i64 x_237.1.PeerMTU, .int .i64 x_237.1.PeerMPS, .int .i64 x_237.1.TxCredits, .int .i64 x_237.1.RxCredits, .int .i64 x_237.1.Given, .slice A_238 (List.length x_237.1.Out) k_239, .int .i64 x_237.1.Sent, .slice A_241 (List.length x_237.1.In) k_242, .int .i64 x_237.1.Want, .bool x_237.1.Failed]) Try.sizeOf26 rfl rfl rfl rfl rfl hb_228 rfl C rfl rfl) rfl ?_
        rintro w ⟨hb_228, C', T⟩
        replace f_232 := T.sl f_232
        replace f_235 := T.sl f_235
        replace f_236 := T.sl f_236
        replace f_240 := T.sl f_240
        replace f_243 := T.sl f_243
        clear T; replace C := C'; clear C'
        refine ⟨trivial, ?_⟩
        refine WA.take (i := 8) (bs' := [true, true, true, true, true, true, true, true, true]) rfl (by kernel_rfl) (by kernel_rfl) (by kernel_rfl) (fun _ _ => rv_assign rfl) trivial rfl rfl ?_
        refine WA.done (by kernel_rfl) (fun a ha => ?_)
        exact ⟨x_237.1.Local, x_237.1.Remote, x_237.1.PSM, x_237.1.MTU, x_237.1.MPS, x_237.1.PeerMTU, x_237.1.PeerMPS, x_237.1.TxCredits, x_237.1.RxCredits, x_237.1.Given, x_237.1.Out, x_237.1.Sent, x_237.1.In, x_237.1.Want, x_237.1.Failed, x_237.2, b_228, A_238, k_239, A_241, k_242, hp, ha.sub ⟨rfl, rfl, trivial⟩, C, f_240, f_243, hb_228⟩
    · refine WS.world (i := 6) (bs' := [false, false, false, false, false, false, true, false, false]) rfl (rw_alloc Try.zeroValue26 rfl C) rfl rfl ?_
      rintro v w ⟨b_244, rfl, hb_244, C', T⟩
      replace C' : Ctx U0 [] w0 [some b_244] _ := C'
      replace T : TR U0 [] _ [some b_244] _ [] := T
      replace hb_244 : Blk _ b_244 26 [.int .u16 0, .int .u16 0, .int .u16 0, .int .i64 0, .int .i64 0, .int .i64 0, .int .i64 0, .int .i64 0, .int .i64 0, .int .i64 0, .slice none 0 0, .int .i64 0, .slice none 0 0, .int .i64 0, .bool false] := hb_244
      clear T; replace C := C'; clear C'
      refine ⟨trivial, ?_⟩
      refine WA.all2 (i := 0) (j := 1) (by kernel_rfl) ?_ ?_
      · replace hp := bind_inv hp
        obtain ⟨x_245, e_x_245, hp⟩ := hp
        refine WS.call (i := 0) (bs' := [true, false, false, false, false, false, true, false, false]) rfl (rc_func Try.call19 rfl) (ok_wirelesslaw33_end F (Mu U0 [some b_244]) _ 40 23 5 (C.give [0] [] (by decide) rfl rfl (by decide)) _ e_x_245) rfl rfl ?_
        rintro v w ⟨A_246, k_247, A_249, k_250, rfl, D, f_248, f_251⟩
        obtain ⟨C', T⟩ := C.join D [0] [] (by decide) rfl rfl (by decide)
        replace C' : Ctx U0 [] w0 [some b_244] _ := C'
        replace T : TR U0 [some b_244] _ [some b_244] _ [] := T
        replace f_248 : Sl 1 (RSl 1 (RInt .u8)) (Mu U0 [some b_244]) _ A_246 k_247 x_245.Out := f_248.mu (mu_join (R := []) (L2 := [some b_244]) (fun b h => h))
        replace f_251 : Sl 1 (RInt .u8) (Mu U0 [some b_244]) _ A_249 k_250 x_245.In := f_251.mu (mu_join (R := []) (L2 := [some b_244]) (fun b h => h))
        replace hb_244 := T.blk ne0 hb_244
        clear T; replace C := C'; clear C'
        clear D
        refine ⟨trivial, ?_⟩
        refine WA.all1 (i := 1) (by kernel_rfl) ?_
        replace hp := bind_inv hp
        obtain ⟨l_252, e_l_252, hp⟩ := hp
        refine WS.world (i := 1) (bs' := [true, true, false, false, false, false, true, false, false]) rfl (rw_make (sz := 1) (zs := [.int .u8 0]) (R := (RInt .u8)) Try.underlying24 I5 rfl rfl rfl rfl rfl rfl rfl (fun _ _ => rfl) e_l_252 C) rfl rfl ?_
        rintro v w ⟨A_254, k_255, rfl, f_256, C', T⟩
        replace C' : Ctx U0 [] w0 [ob A_254, some b_244] _ := C'
        replace T : TR U0 [some b_244] _ [ob A_254, some b_244] _ _ := T
        replace f_256 : Own 1 5 (RInt .u8) (Mu U0 [ob A_254, some b_244]) _ A_254 k_255 l_252 := f_256
        replace f_248 := T.sl f_248
        replace f_251 := T.sl f_251
        replace hb_244 := T.blk ne0 hb_244
        clear T; replace C := C'; clear C'
        refine ⟨trivial, ?_⟩
        refine WA.all1 (i := 2) (by kernel_rfl) ?_
        have f_257 : Sl 1 (RInt .u8) (Mu U0 [some b_244]) _ A_254 k_255 l_252 := f_256.toSl (C.off (i := 0) rfl [1] rfl (by decide)) (Mu.weaken (mem_pick [1] rfl))
        have T : TR U0 [ob A_254, some b_244] w [some b_244] w [] := TR.pick [1] rfl
        have C' : Ctx U0 [] w0 [some b_244] _ := C.pick [1] (by decide) rfl
        replace f_248 := T.sl f_248
        replace f_251 := T.sl f_251
        replace hb_244 := T.blk ne0 hb_244
        clear T; replace C := C'; clear C'
        replace hp := bind_inv hp
        obtain ⟨x_258, e_x_258, hp⟩ := hp
        refine WS.call (i := 2) (bs' := [true, true, true, false, false, false, true, false, false]) rfl (rc_func Try.call18 rfl) (ok_sdu_Queue F (Mu U0 [some b_244]) _ x_245 l_252 A_246 k_247 A_249 k_250 A_254 k_255 (C.give [0] [] (by decide) rfl rfl (by decide)) (f_248.mu (mu_give [0] [] rfl rfl)) (f_251.mu (mu_give [0] [] rfl rfl)) (f_257.mu (mu_give [0] [] rfl rfl)) _ e_x_258) rfl rfl ?_
        rintro v w ⟨A_259, k_260, A_262, k_263, rfl, D, f_261, f_264⟩
        obtain ⟨C', T⟩ := C.join D [0] [] (by decide) rfl rfl (by decide)
        replace C' : Ctx U0 [] w0 [some b_244] _ := C'
        replace T : TR U0 [some b_244] _ [some b_244] _ [] := T
        replace f_261 : Sl 1 (RSl 1 (RInt .u8)) (Mu U0 [some b_244]) _ A_259 k_260 x_258.1.Out := f_261.mu (mu_join (R := []) (L2 := [some b_244]) (fun b h => h))
        replace f_264 : Sl 1 (RInt .u8) (Mu U0 [some b_244]) _ A_262 k_263 x_258.1.In := f_264.mu (mu_join (R := []) (L2 := [some b_244]) (fun b h => h))
        replace f_248 := T.sl f_248
        replace f_251 := T.sl f_251
        replace f_257 := T.sl f_257
        replace hb_244 := T.blk ne0 hb_244
        clear T; replace C := C'; clear C'
        clear D
        refine ⟨trivial, ?_⟩
        refine WA.take (i := 3) (bs' := [true, true, true, true, false, false, true, false, false]) rfl (by kernel_rfl) (by kernel_rfl) (by kernel_rfl) (fun _ _ => rv_move rfl) trivial rfl rfl ?_
        refine WA.take (i := 4) (bs' := [true, true, true, true, true, false, true, false, false]) rfl (by kernel_rfl) (by kernel_rfl) (by kernel_rfl) (fun _ _ => rv_extract rfl rfl) trivial rfl rfl ?_
        refine WA.take (i := 5) (bs' := [true, true, true, true, true, true, true, false, false]) rfl (by kernel_rfl) (by kernel_rfl) (by kernel_rfl) (fun _ _ => rv_extract rfl rfl) trivial rfl rfl ?_
        refine WA.all1 (i := 7) (by kernel_rfl) ?_
        refine WS.storeK (i := 7) (bs' := [true, true, true, true, true, true, true, true, false]) rfl (rs_store (i := 0) (cs' := [.int .u16 x_258.1.Local, .int .u16 x_258.1.Remote, .int .u16 x_258.1.PSM, .int .i64 x_258.1.MTU, .int .i64 x_258.1.MPS, .int .i64 x_258.1.PeerMTU, .int .i64 x_258.1.PeerMPS, .int .i64 x_258.1.TxCredits, .int .i64 x_258.1.RxCredits, .int .i64 x_258.1.Given, .slice A_259 (List.length x_258.1.Out) k_260, .int .i64 x_258.1.Sent, .slice A_262 (List.length x_258.1.In) k_263, .int .i64 x_258.1.Want, .bool x_258.1.Failed]) Try.sizeOf26 rfl rfl rfl rfl rfl hb_244 rfl C rfl rfl) rfl ?_
        rintro w ⟨hb_244, C', T⟩
        replace f_248 := T.sl f_248
        replace f_251 := T.sl f_251
        replace f_257 := T.sl f_257
        replace f_261 := T.sl f_261
        replace f_264 := T.sl f_264
        clear T; replace C := C'; clear C'
        refine ⟨trivial, ?_⟩
        refine WA.take (i := 8) (bs' := [true, true, true, true, true, true, true, true, true]) rfl (by kernel_rfl) (by kernel_rfl) (by kernel_rfl) (fun _ _ => rv_assign rfl) trivial rfl rfl ?_
        refine WA.done (by kernel_rfl) (fun a ha => ?_)
        exact ⟨x_258.1.Local, x_258.1.Remote, x_258.1.PSM, x_258.1.MTU, x_258.1.MPS, x_258.1.PeerMTU, x_258.1.PeerMPS, x_258.1.TxCredits, x_258.1.RxCredits, x_258.1.Given, x_258.1.Out, x_258.1.Sent, x_258.1.In, x_258.1.Want, x_258.1.Failed, x_258.2, b_244, A_259, k_260, A_262, k_263, hp, ha.sub ⟨rfl, rfl, trivial⟩, C, f_261, f_264, hb_244⟩
      · replace hp := bind_swap hp
        replace hp := bind_inv hp
        obtain ⟨l_265, e_l_265, hp⟩ := hp
        refine WS.world (i := 1) (bs' := [false, true, false, false, false, false, true, false, false]) rfl (rw_make (sz := 1) (zs := [.int .u8 0]) (R := (RInt .u8)) Try.underlying24 I5 rfl rfl rfl rfl rfl rfl rfl (fun _ _ => rfl) e_l_265 C) rfl rfl ?_
        rintro v w ⟨A_267, k_268, rfl, f_269, C', T⟩
        replace C' : Ctx U0 [] w0 [ob A_267, some b_244] _ := C'
        replace T : TR U0 [some b_244] _ [ob A_267, some b_244] _ _ := T
        replace f_269 : Own 1 5 (RInt .u8) (Mu U0 [ob A_267, some b_244]) _ A_267 k_268 l_265 := f_269
        replace hb_244 := T.blk ne0 hb_244
        clear T; replace C := C'; clear C'
        refine ⟨trivial, ?_⟩
        refine WA.all1 (i := 0) (by kernel_rfl) ?_
        replace hp := bind_inv hp
        obtain ⟨x_270, e_x_270, hp⟩ := hp
        refine WS.call (i := 0) (bs' := [true, true, false, false, false, false, true, false, false]) rfl (rc_func Try.call19 rfl) (ok_wirelesslaw33_end F (Mu U0 [ob A_267, some b_244]) _ 40 23 5 (C.give [0, 1] [] (by decide) rfl rfl (by decide)) _ e_x_270) rfl rfl ?_
        rintro v w ⟨A_271, k_272, A_274, k_275, rfl, D, f_273, f_276⟩
        obtain ⟨C', T⟩ := C.join D [0, 1] [] (by decide) rfl rfl (by decide)
        replace C' : Ctx U0 [] w0 [ob A_267, some b_244] _ := C'
        replace T : TR U0 [ob A_267, some b_244] _ [ob A_267, some b_244] _ [] := T
        replace f_273 : Sl 1 (RSl 1 (RInt .u8)) (Mu U0 [ob A_267, some b_244]) _ A_271 k_272 x_270.Out := f_273.mu (mu_join (R := []) (L2 := [ob A_267, some b_244]) (fun b h => h))
        replace f_276 : Sl 1 (RInt .u8) (Mu U0 [ob A_267, some b_244]) _ A_274 k_275 x_270.In := f_276.mu (mu_join (R := []) (L2 := [ob A_267, some b_244]) (fun b h => h))
        replace hb_244 := T.blk ne0 hb_244
        replace f_269 := T.own ne0 f_269
        clear T; replace C := C'; clear C'
        clear D
        refine ⟨trivial, ?_⟩
        refine WA.all1 (i := 2) (by kernel_rfl) ?_
        have f_277 : Sl 1 (RInt .u8) (Mu U0 [some b_244]) _ A_267 k_268 l_265 := f_269.toSl (C.off (i := 0) rfl [1] rfl (by decide)) (Mu.weaken (mem_pick [1] rfl))
        have T : TR U0 [ob A_267, some b_244] w [some b_244] w [] := TR.pick [1] rfl
        have C' : Ctx U0 [] w0 [some b_244] _ := C.pick [1] (by decide) rfl
        replace f_273 := T.sl f_273
        replace f_276 := T.sl f_276
        replace hb_244 := T.blk ne0 hb_244
        clear T; replace C := C'; clear C'
        replace hp := bind_inv hp
        obtain ⟨x_278, e_x_278, hp⟩ := hp
        refine WS.call (i := 2) (bs' := [true, true, true, false, false, false, true, false, false]) rfl (rc_func Try.call18 rfl) (ok_sdu_Queue F (Mu U0 [some b_244]) _ x_270 l_265 A_271 k_272 A_274 k_275 A_267 k_268 (C.give [0] [] (by decide) rfl rfl (by decide)) (f_273.mu (mu_give [0] [] rfl rfl)) (f_276.mu (mu_give [0] [] rfl rfl)) (f_277.mu (mu_give [0] [] rfl rfl)) _ e_x_278) rfl rfl ?_
        rintro v w ⟨A_279, k_280, A_282, k_283, rfl, D, f_281, f_284⟩
        obtain ⟨C', T⟩ := C.join D [0] [] (by decide) rfl rfl (by decide)
        replace C' : Ctx U0 [] w0 [some b_244] _ := C'
        replace T : TR U0 [some b_244] _ [some b_244] _ [] := T
        replace f_281 : Sl 1 (RSl 1 (RInt .u8)) (Mu U0 [some b_244]) _ A_279 k_280 x_278.1.Out := f_281.mu (mu_join (R := []) (L2 := [some b_244]) (fun b h => h))
        replace f_284 : Sl 1 (RInt .u8) (Mu U0 [some b_244]) _ A_282 k_283 x_278.1.In := f_284.mu (mu_join (R := []) (L2 := [some b_244]) (fun b h => h))
        replace f_273 := T.sl f_273
        replace f_276 := T.sl f_276
        replace f_277 := T.sl f_277
        replace hb_244 := T.blk ne0 hb_244
        clear T; replace C := C'; clear C'
        clear D
        refine ⟨trivial, ?_⟩
        refine WA.take (i := 3) (bs' := [true, true, true, true, false, false, true, false, false]) rfl (by kernel_rfl) (by kernel_rfl) (by kernel_rfl) (fun _ _ => rv_move rfl) trivial rfl rfl ?_
        refine WA.take (i := 4) (bs' := [true, true, true, true, true, false, true, false, false]) rfl (by kernel_rfl) (by kernel_rfl) (by kernel_rfl) (fun _ _ => rv_extract rfl rfl) trivial rfl rfl ?_
        refine WA.take (i := 5) (bs' := [true, true, true, true, true, true, true, false, false]) rfl (by kernel_rfl) (by kernel_rfl) (by kernel_rfl) (fun _ _ => rv_extract rfl rfl) trivial rfl rfl ?_
        refine WA.all1 (i := 7) (by kernel_rfl) ?_
        refine WS.storeK (i := 7) (bs' := [true, true, true, true, true, true, true, true, false]) rfl (rs_store (i := 0) (cs' := [.int .u16 x_278.1.Local, .int .u16 x_278.1.Remote, .int .u16 x_278.1.PSM, .int .i64 x_278.1.MTU, .int .i64 x_278.1.MPS, .int .i64 x_278.1.PeerMTU, .int .i64 x_278.1.PeerMPS, .int .i64 x_278.1.TxCredits, .int .i64 x_278.1.RxCredits, .int .i64 x_278.1.Given, .slice A_279 (List.length x_278.1.Out) k_280, .int .i64 x_278.1.Sent, .slice A_282 (List.length x_278.1.In) k_283, .int .i64 x_278.1.Want, .bool x_278.1.Failed]) Try.sizeOf26 rfl rfl rfl rfl rfl hb_244 rfl C rfl rfl) rfl ?_
        rintro w ⟨hb_244, C', T⟩
        replace f_273 := T.sl f_273
        replace f_276 := T.sl f_276
        replace f_277 := T.sl f_277
        replace f_281 := T.sl f_281
        replace f_284 := T.sl f_284
        clear T; replace C := C'; clear C'
        refine ⟨trivial, ?_⟩
        refine WA.take (i := 8) (bs' := [true, true, true, true, true, true, true, true, true]) rfl (by kernel_rfl) (by kernel_rfl) (by kernel_rfl) (fun _ _ => rv_assign rfl) trivial rfl rfl ?_
        refine WA.done (by kernel_rfl) (fun a ha => ?_)
        exact ⟨x_278.1.Local, x_278.1.Remote, x_278.1.PSM, x_278.1.MTU, x_278.1.MPS, x_278.1.PeerMTU, x_278.1.PeerMPS, x_278.1.TxCredits, x_278.1.RxCredits, x_278.1.Given, x_278.1.Out, x_278.1.Sent, x_278.1.In, x_278.1.Want, x_278.1.Failed, x_278.2, b_244, A_279, k_280, A_282, k_283, hp, ha.sub ⟨rfl, rfl, trivial⟩, C, f_281, f_284, hb_244⟩
  · rintro a w ⟨x_2, x_3, x_4, x_5, x_6, x_7, x_8, x_9, x_10, x_11, l_12, x_16, l_17, x_21, z_22, x_23, b_1, A_13, k_14, A_18, k_19, hp, ha, C, f_15, f_20, hb_1⟩
    refine WC.ofJ (l := [(1, .pointer (some ⟨b_1, 0, none⟩)), (2, .int .i64 x_23)]) ?_ ha
    refine WC.seq ?_
    refine WC.region ?_
    refine WL.val (rv_loadN Try.isAgg26 Try.sizeOf26 rfl hb_1 rfl rfl) rfl ?_
    replace hp := bind_inv hp
    obtain ⟨x_24, e_x_24, hp⟩ := hp
    refine WL.call (rc_func Try.call12 rfl) (ok_sdu_Output F (Mu U0 [some b_1]) _ (T_api_Channel.mk x_2 x_3 x_4 x_5 x_6 x_7 x_8 x_9 x_10 x_11 l_12 x_16 l_17 x_21 z_22) A_13 k_14 A_18 k_19 (C.give [0] [] (by decide) rfl rfl (by decide)) (f_15.mu (mu_give [0] [] rfl rfl)) (f_20.mu (mu_give [0] [] rfl rfl)) _ e_x_24) rfl ?_
    rintro v w ⟨A_25, k_26, A_28, k_29, A_31, k_32, rfl, D, f_27, f_30, f_33⟩
    obtain ⟨C', T⟩ := C.join D [0] [] (by decide) rfl rfl (by decide)
    replace C' : Ctx U0 [] w0 [some b_1] _ := C'
    replace T : TR U0 [some b_1] _ [some b_1] _ [] := T
    replace f_27 : Sl 1 (RSl 1 (RInt .u8)) (Mu U0 [some b_1]) _ A_25 k_26 x_24.1.Out := f_27.mu (mu_join (R := []) (L2 := [some b_1]) (fun b h => h))
    replace f_30 : Sl 1 (RInt .u8) (Mu U0 [some b_1]) _ A_28 k_29 x_24.1.In := f_30.mu (mu_join (R := []) (L2 := [some b_1]) (fun b h => h))
    replace f_33 : Sl 1 (RSl 1 (RInt .u8)) (Mu U0 [some b_1]) _ A_31 k_32 x_24.2 := f_33.mu (mu_join (R := []) (L2 := [some b_1]) (fun b h => h))
    replace f_15 := T.sl f_15
    replace f_20 := T.sl f_20
    replace hb_1 := T.blk ne0 hb_1
    clear T; replace C := C'; clear C'
    clear D
    refine WL.val (rv_move rfl) rfl ?_
    refine WL.val (rv_extract rfl rfl) rfl ?_
    refine WL.val (rv_extract rfl rfl) rfl ?_
    refine WL.storeK (rs_store (i := 0) (cs' := [.int .u16 x_24.1.Local, .int .u16 x_24.1.Remote, .int .u16 x_24.1.PSM, .int .i64 x_24.1.MTU, .int .i64 x_24.1.MPS, .int .i64 x_24.1.PeerMTU, .int .i64 x_24.1.PeerMPS, .int .i64 x_24.1.TxCredits, .int .i64 x_24.1.RxCredits, .int .i64 x_24.1.Given, .slice A_25 (List.length x_24.1.Out) k_26, .int .i64 x_24.1.Sent, .slice A_28 (List.length x_24.1.In) k_29, .int .i64 x_24.1.Want, .bool x_24.1.Failed]) Try.sizeOf26 rfl rfl rfl rfl rfl hb_1 rfl C rfl rfl) ?_
    rintro w ⟨hb_1, C', T⟩
    replace f_15 := T.sl f_15
    replace f_20 := T.sl f_20
    replace f_27 := T.sl f_27
    replace f_30 := T.sl f_30
    replace f_33 := T.sl f_33
    clear T; replace C := C'; clear C'
    refine WL.val (rv_assign rfl) rfl ?_
    refine WL.nilThen ?_
    refine WC.seq ?_
    refine WC.region ?_
    replace hp := bind_inv hp
    obtain ⟨x_34, e_x_34, hp⟩ := hp
    refine WL.call (rc_func Try.call19 rfl) (ok_wirelesslaw33_end F (Mu U0 [some b_1]) _ 40 23 0 (C.give [0] [] (by decide) rfl rfl (by decide)) _ e_x_34) rfl ?_
    rintro v w ⟨A_35, k_36, A_38, k_39, rfl, D, f_37, f_40⟩
    obtain ⟨C', T⟩ := C.join D [0] [] (by decide) rfl rfl (by decide)
    replace C' : Ctx U0 [] w0 [some b_1] _ := C'
    replace T : TR U0 [some b_1] _ [some b_1] _ [] := T
    replace f_37 : Sl 1 (RSl 1 (RInt .u8)) (Mu U0 [some b_1]) _ A_35 k_36 x_34.Out := f_37.mu (mu_join (R := []) (L2 := [some b_1]) (fun b h => h))
    replace f_40 : Sl 1 (RInt .u8) (Mu U0 [some b_1]) _ A_38 k_39 x_34.In := f_40.mu (mu_join (R := []) (L2 := [some b_1]) (fun b h => h))
    replace f_27 := T.sl f_27
    replace f_30 := T.sl f_30
    replace f_33 := T.sl f_33
    replace hb_1 := T.blk ne0 hb_1
    clear T; replace C := C'; clear C'
    clear D
    refine WL.world (rw_buildSlice (sz := 1) (R := (RInt .u8)) (es := [.int .u8 0, .int .u8 0]) (dt := [0, 0]) Try.underlying24 Try.sizeOf5 Try.zeroValue5 rfl rfl rfl rfl rfl rfl rfl rfl ⟨_, _, rfl, rfl, rfl, ⟨_, _, rfl, rfl, rfl, rfl⟩⟩ C) rfl ?_
    rintro v w ⟨A_42, k_43, rfl, f_44, C', T⟩
    replace C' : Ctx U0 [] w0 [ob A_42, some b_1] _ := C'
    replace T : TR U0 [some b_1] _ [ob A_42, some b_1] _ _ := T
    replace f_44 : Own 1 5 (RInt .u8) (Mu U0 [ob A_42, some b_1]) _ A_42 k_43 [0, 0] := f_44
    replace f_27 := T.sl f_27
    replace f_30 := T.sl f_30
    replace f_33 := T.sl f_33
    replace f_37 := T.sl f_37
    replace f_40 := T.sl f_40
    replace hb_1 := T.blk ne0 hb_1
    clear T; replace C := C'; clear C'
    have f_45 : Sl 1 (RInt .u8) (Mu U0 [some b_1]) _ A_42 k_43 [0, 0] := f_44.toSl (C.off (i := 0) rfl [1] rfl (by decide)) (Mu.weaken (mem_pick [1] rfl))
    have T : TR U0 [ob A_42, some b_1] w [some b_1] w [] := TR.pick [1] rfl
    have C' : Ctx U0 [] w0 [some b_1] _ := C.pick [1] (by decide) rfl
    replace f_27 := T.sl f_27
    replace f_30 := T.sl f_30
    replace f_33 := T.sl f_33
    replace f_37 := T.sl f_37
    replace f_40 := T.sl f_40
    replace hb_1 := T.blk ne0 hb_1
    clear T; replace C := C'; clear C'
    replace hp := bind_inv hp
    obtain ⟨x_46, e_x_46, hp⟩ := hp
    refine WL.call (rc_func Try.call16 rfl) (ok_sdu_Input F (Mu U0 [some b_1]) _ x_34 [0, 0] A_35 k_36 A_38 k_39 A_42 k_43 (C.give [0] [] (by decide) rfl rfl (by decide)) (f_37.mu (mu_give [0] [] rfl rfl)) (f_40.mu (mu_give [0] [] rfl rfl)) (f_45.mu (mu_give [0] [] rfl rfl)) _ e_x_46) rfl ?_
    rintro v w ⟨A_47, k_48, A_50, k_51, A_53, k_54, rfl, D, f_49, f_52, f_55⟩
    obtain ⟨C', T⟩ := C.join D [0] [] (by decide) rfl rfl (by decide)
    replace C' : Ctx U0 [] w0 [some b_1] _ := C'
    replace T : TR U0 [some b_1] _ [some b_1] _ [] := T
    replace f_49 : Sl 1 (RSl 1 (RInt .u8)) (Mu U0 [some b_1]) _ A_47 k_48 x_46.1.Out := f_49.mu (mu_join (R := []) (L2 := [some b_1]) (fun b h => h))
    replace f_52 : Sl 1 (RInt .u8) (Mu U0 [some b_1]) _ A_50 k_51 x_46.1.In := f_52.mu (mu_join (R := []) (L2 := [some b_1]) (fun b h => h))
    replace f_55 : Sl 1 (RSl 1 (RInt .u8)) (Mu U0 [some b_1]) _ A_53 k_54 x_46.2.1 := f_55.mu (mu_join (R := []) (L2 := [some b_1]) (fun b h => h))
    replace f_27 := T.sl f_27
    replace f_30 := T.sl f_30
    replace f_33 := T.sl f_33
    replace f_37 := T.sl f_37
    replace f_40 := T.sl f_40
    replace f_45 := T.sl f_45
    replace hb_1 := T.blk ne0 hb_1
    clear T; replace C := C'; clear C'
    clear D
    refine WL.val (rv_move rfl) rfl ?_
    refine WL.val (rv_extract rfl rfl) rfl ?_
    refine WL.val (rv_extract rfl rfl) rfl ?_
    refine WL.val (rv_extract rfl rfl) rfl ?_
    refine WL.world (rw_alloc Try.zeroValue26 rfl C) rfl ?_
    rintro v w ⟨b_56, rfl, hb_56, C', T⟩
    replace C' : Ctx U0 [] w0 [some b_56, some b_1] _ := C'
    replace T : TR U0 [some b_1] _ [some b_56, some b_1] _ [] := T
    replace hb_56 : Blk _ b_56 26 [.int .u16 0, .int .u16 0, .int .u16 0, .int .i64 0, .int .i64 0, .int .i64 0, .int .i64 0, .int .i64 0, .int .i64 0, .int .i64 0, .slice none 0 0, .int .i64 0, .slice none 0 0, .int .i64 0, .bool false] := hb_56
    replace f_27 := T.sl f_27
    replace f_30 := T.sl f_30
    replace f_33 := T.sl f_33
    replace f_37 := T.sl f_37
    replace f_40 := T.sl f_40
    replace f_45 := T.sl f_45
    replace f_49 := T.sl f_49
    replace f_52 := T.sl f_52
    replace f_55 := T.sl f_55
    replace hb_1 := T.blk ne0 hb_1
    clear T; replace C := C'; clear C'
    refine WL.storeK (rs_store (i := 0) (cs' := [.int .u16 x_46.1.Local, .int .u16 x_46.1.Remote, .int .u16 x_46.1.PSM, .int .i64 x_46.1.MTU, .int .i64 x_46.1.MPS, .int .i64 x_46.1.PeerMTU, .int .i64 x_46.1.PeerMPS, .int .i64 x_46.1.TxCredits, .int .i64 x_46.1.RxCredits, .int .i64 x_46.1.Given, .slice A_47 (List.length x_46.1.Out) k_48, .int .i64 x_46.1.Sent, .slice A_50 (List.length x_46.1.In) k_51, .int .i64 x_46.1.Want, .bool x_46.1.Failed]) Try.sizeOf26 rfl rfl rfl rfl rfl hb_56 rfl C rfl rfl) ?_
    rintro w ⟨hb_56, C', T⟩
    replace f_27 := T.sl f_27
    replace f_30 := T.sl f_30
    replace f_33 := T.sl f_33
    replace f_37 := T.sl f_37
    replace f_40 := T.sl f_40
    replace f_45 := T.sl f_45
    replace f_49 := T.sl f_49
    replace f_52 := T.sl f_52
    replace f_55 := T.sl f_55
    replace hb_1 := T.blk (C.ne (i := 1) rfl [0] rfl (by decide)) hb_1
    clear T; replace C := C'; clear C'
    refine WL.val (rv_assign rfl) rfl ?_
    refine WL.val (rv_assign rfl) rfl ?_
    refine WL.nilThen ?_
    refine WC.seq ?_
    refine WC.region ?_
    replace hp := bind_inv hp
    obtain ⟨x_57, e_x_57, hp⟩ := hp
    refine WL.call (rc_func Try.call19 rfl) (ok_wirelesslaw33_end F (Mu U0 [some b_56, some b_1]) _ 40 23 1 (C.give [0, 1] [] (by decide) rfl rfl (by decide)) _ e_x_57) rfl ?_
    rintro v w ⟨A_58, k_59, A_61, k_62, rfl, D, f_60, f_63⟩
    obtain ⟨C', T⟩ := C.join D [0, 1] [] (by decide) rfl rfl (by decide)
    replace C' : Ctx U0 [] w0 [some b_56, some b_1] _ := C'
    replace T : TR U0 [some b_56, some b_1] _ [some b_56, some b_1] _ [] := T
    replace f_60 : Sl 1 (RSl 1 (RInt .u8)) (Mu U0 [some b_56, some b_1]) _ A_58 k_59 x_57.Out := f_60.mu (mu_join (R := []) (L2 := [some b_56, some b_1]) (fun b h => h))
    replace f_63 : Sl 1 (RInt .u8) (Mu U0 [some b_56, some b_1]) _ A_61 k_62 x_57.In := f_63.mu (mu_join (R := []) (L2 := [some b_56, some b_1]) (fun b h => h))
    replace f_27 := T.sl f_27
    replace f_30 := T.sl f_30
    replace f_33 := T.sl f_33
    replace f_49 := T.sl f_49
    replace f_52 := T.sl f_52
    replace hb_1 := T.blk ne0 hb_1
    replace hb_56 := T.blk ne0 hb_56
    clear T; replace C := C'; clear C'
    clear D
    refine WL.world (rw_buildSlice (sz := 1) (R := (RInt .u8)) (es := [.int .u8 0]) (dt := [0]) Try.underlying24 Try.sizeOf5 Try.zeroValue5 rfl rfl rfl rfl rfl rfl rfl rfl ⟨_, _, rfl, rfl, rfl, rfl⟩ C) rfl ?_
    rintro v w ⟨A_65, k_66, rfl, f_67, C', T⟩
    replace C' : Ctx U0 [] w0 [ob A_65, some b_56, some b_1] _ := C'
    replace T : TR U0 [some b_56, some b_1] _ [ob A_65, some b_56, some b_1] _ _ := T
    replace f_67 : Own 1 5 (RInt .u8) (Mu U0 [ob A_65, some b_56, some b_1]) _ A_65 k_66 [0] := f_67
    replace f_27 := T.sl f_27
    replace f_30 := T.sl f_30
    replace f_33 := T.sl f_33
    replace f_49 := T.sl f_49
    replace f_52 := T.sl f_52
    replace f_60 := T.sl f_60
    replace f_63 := T.sl f_63
    replace hb_1 := T.blk ne0 hb_1
    replace hb_56 := T.blk ne0 hb_56
    clear T; replace C := C'; clear C'
    have f_68 : Sl 1 (RInt .u8) (Mu U0 [some b_56, some b_1]) _ A_65 k_66 [0] := f_67.toSl (C.off (i := 0) rfl [1, 2] rfl (by decide)) (Mu.weaken (mem_pick [1, 2] rfl))
    have T : TR U0 [ob A_65, some b_56, some b_1] w [some b_56, some b_1] w [] := TR.pick [1, 2] rfl
    have C' : Ctx U0 [] w0 [some b_56, some b_1] _ := C.pick [1, 2] (by decide) rfl
    replace f_27 := T.sl f_27
    replace f_30 := T.sl f_30
    replace f_33 := T.sl f_33
    replace f_49 := T.sl f_49
    replace f_52 := T.sl f_52
    replace f_60 := T.sl f_60
    replace f_63 := T.sl f_63
    replace hb_1 := T.blk ne0 hb_1
    replace hb_56 := T.blk ne0 hb_56
    clear T; replace C := C'; clear C'
    replace hp := bind_inv hp
    obtain ⟨x_69, e_x_69, hp⟩ := hp
    refine WL.call (rc_func Try.call16 rfl) (ok_sdu_Input F (Mu U0 [some b_56, some b_1]) _ x_57 [0] A_58 k_59 A_61 k_62 A_65 k_66 (C.give [0, 1] [] (by decide) rfl rfl (by decide)) (f_60.mu (mu_give [0, 1] [] rfl rfl)) (f_63.mu (mu_give [0, 1] [] rfl rfl)) (f_68.mu (mu_give [0, 1] [] rfl rfl)) _ e_x_69) rfl ?_
    rintro v w ⟨A_70, k_71, A_73, k_74, A_76, k_77, rfl, D, f_72, f_75, f_78⟩
    obtain ⟨C', T⟩ := C.join D [0, 1] [] (by decide) rfl rfl (by decide)
    replace C' : Ctx U0 [] w0 [some b_56, some b_1] _ := C'
    replace T : TR U0 [some b_56, some b_1] _ [some b_56, some b_1] _ [] := T
    replace f_72 : Sl 1 (RSl 1 (RInt .u8)) (Mu U0 [some b_56, some b_1]) _ A_70 k_71 x_69.1.Out := f_72.mu (mu_join (R := []) (L2 := [some b_56, some b_1]) (fun b h => h))
    replace f_75 : Sl 1 (RInt .u8) (Mu U0 [some b_56, some b_1]) _ A_73 k_74 x_69.1.In := f_75.mu (mu_join (R := []) (L2 := [some b_56, some b_1]) (fun b h => h))
    replace f_78 : Sl 1 (RSl 1 (RInt .u8)) (Mu U0 [some b_56, some b_1]) _ A_76 k_77 x_69.2.1 := f_78.mu (mu_join (R := []) (L2 := [some b_56, some b_1]) (fun b h => h))
    replace f_27 := T.sl f_27
    replace f_30 := T.sl f_30
    replace f_33 := T.sl f_33
    replace f_49 := T.sl f_49
    replace f_52 := T.sl f_52
    replace f_60 := T.sl f_60
    replace f_63 := T.sl f_63
    replace f_68 := T.sl f_68
    replace hb_1 := T.blk ne0 hb_1
    replace hb_56 := T.blk ne0 hb_56
    clear T; replace C := C'; clear C'
    clear D
    refine WL.val (rv_move rfl) rfl ?_
    refine WL.val (rv_extract rfl rfl) rfl ?_
    refine WL.val (rv_extract rfl rfl) rfl ?_
    refine WL.val (rv_extract rfl rfl) rfl ?_
    refine WL.world (rw_alloc Try.zeroValue26 rfl C) rfl ?_
    rintro v w ⟨b_79, rfl, hb_79, C', T⟩
    replace C' : Ctx U0 [] w0 [some b_79, some b_56, some b_1] _ := C'
    replace T : TR U0 [some b_56, some b_1] _ [some b_79, some b_56, some b_1] _ [] := T
    replace hb_79 : Blk _ b_79 26 [.int .u16 0, .int .u16 0, .int .u16 0, .int .i64 0, .int .i64 0, .int .i64 0, .int .i64 0, .int .i64 0, .int .i64 0, .int .i64 0, .slice none 0 0, .int .i64 0, .slice none 0 0, .int .i64 0, .bool false] := hb_79
    replace f_27 := T.sl f_27
    replace f_30 := T.sl f_30
    replace f_33 := T.sl f_33
    replace f_49 := T.sl f_49
    replace f_52 := T.sl f_52
    replace f_60 := T.sl f_60
    replace f_63 := T.sl f_63
    replace f_68 := T.sl f_68
    replace f_72 := T.sl f_72
    replace f_75 := T.sl f_75
    replace f_78 := T.sl f_78
    replace hb_1 := T.blk ne0 hb_1
    replace hb_56 := T.blk ne0 hb_56
    clear T; replace C := C'; clear C'
    refine WL.storeK (rs_store (i := 0) (cs' := [.int .u16 x_69.1.Local, .int .u16 x_69.1.Remote, .int .u16 x_69.1.PSM, .int .i64 x_69.1.MTU, .int .i64 x_69.1.MPS, .int .i64 x_69.1.PeerMTU, .int .i64 x_69.1.PeerMPS, .int .i64 x_69.1.TxCredits, .int .i64 x_69.1.RxCredits, .int .i64 x_69.1.Given, .slice A_70 (List.length x_69.1.Out) k_71, .int .i64 x_69.1.Sent, .slice A_73 (List.length x_69.1.In) k_74, .int .i64 x_69.1.Want, .bool x_69.1.Failed]) Try.sizeOf26 rfl rfl rfl rfl rfl hb_79 rfl C rfl rfl) ?_
    rintro w ⟨hb_79, C', T⟩
    replace f_27 := T.sl f_27
    replace f_30 := T.sl f_30
    replace f_33 := T.sl f_33
    replace f_49 := T.sl f_49
    replace f_52 := T.sl f_52
    replace f_60 := T.sl f_60
    replace f_63 := T.sl f_63
    replace f_68 := T.sl f_68
    replace f_72 := T.sl f_72
    replace f_75 := T.sl f_75
    replace f_78 := T.sl f_78
    replace hb_1 := T.blk (C.ne (i := 2) rfl [0] rfl (by decide)) hb_1
    replace hb_56 := T.blk (C.ne (i := 1) rfl [0] rfl (by decide)) hb_56
    clear T; replace C := C'; clear C'
    refine WL.val (rv_assign rfl) rfl ?_
    refine WL.val (rv_assign rfl) rfl ?_
    refine WL.nilThen ?_
    refine WC.seq ?_
    refine WC.region ?_
    replace hp := bind_inv hp
    obtain ⟨x_80, e_x_80, hp⟩ := hp
    refine WL.call (rc_func Try.call19 rfl) (ok_wirelesslaw33_end F (Mu U0 [some b_79, some b_56, some b_1]) _ 40 23 1 (C.give [0, 1, 2] [] (by decide) rfl rfl (by decide)) _ e_x_80) rfl ?_
    rintro v w ⟨A_81, k_82, A_84, k_85, rfl, D, f_83, f_86⟩
    obtain ⟨C', T⟩ := C.join D [0, 1, 2] [] (by decide) rfl rfl (by decide)
    replace C' : Ctx U0 [] w0 [some b_79, some b_56, some b_1] _ := C'
    replace T : TR U0 [some b_79, some b_56, some b_1] _ [some b_79, some b_56, some b_1] _ [] := T
    replace f_83 : Sl 1 (RSl 1 (RInt .u8)) (Mu U0 [some b_79, some b_56, some b_1]) _ A_81 k_82 x_80.Out := f_83.mu (mu_join (R := []) (L2 := [some b_79, some b_56, some b_1]) (fun b h => h))
    replace f_86 : Sl 1 (RInt .u8) (Mu U0 [some b_79, some b_56, some b_1]) _ A_84 k_85 x_80.In := f_86.mu (mu_join (R := []) (L2 := [some b_79, some b_56, some b_1]) (fun b h => h))
    replace f_27 := T.sl f_27
    replace f_30 := T.sl f_30
    replace f_33 := T.sl f_33
    replace f_49 := T.sl f_49
    replace f_52 := T.sl f_52
    replace hb_1 := T.blk ne0 hb_1
    replace hb_56 := T.blk ne0 hb_56
    clear T; replace C := C'; clear C'
    clear D
    refine WL.world (rw_buildSlice (sz := 1) (R := (RInt .u8)) (es := [.int .u8 0, .int .u8 0]) (dt := [0, 0]) Try.underlying24 Try.sizeOf5 Try.zeroValue5 rfl rfl rfl rfl rfl rfl rfl rfl ⟨_, _, rfl, rfl, rfl, ⟨_, _, rfl, rfl, rfl, rfl⟩⟩ C) rfl ?_
    rintro v w ⟨A_88, k_89, rfl, f_90, C', T⟩
    replace C' : Ctx U0 [] w0 [ob A_88, some b_79, some b_56, some b_1] _ := C'
    replace T : TR U0 [some b_79, some b_56, some b_1] _ [ob A_88, some b_79, some b_56, some b_1] _ _ := T
    replace f_90 : Own 1 5 (RInt .u8) (Mu U0 [ob A_88, some b_79, some b_56, some b_1]) _ A_88 k_89 [0, 0] := f_90
    replace f_27 := T.sl f_27
    replace f_30 := T.sl f_30
    replace f_33 := T.sl f_33
    replace f_49 := T.sl f_49
    replace f_52 := T.sl f_52
    replace f_83 := T.sl f_83
    replace f_86 := T.sl f_86
    replace hb_1 := T.blk ne0 hb_1
    replace hb_56 := T.blk ne0 hb_56
    clear T; replace C := C'; clear C'
    have f_91 : Sl 1 (RInt .u8) (Mu U0 [some b_79, some b_56, some b_1]) _ A_88 k_89 [0, 0] := f_90.toSl (C.off (i := 0) rfl [1, 2, 3] rfl (by decide)) (Mu.weaken (mem_pick [1, 2, 3] rfl))
    have T : TR U0 [ob A_88, some b_79, some b_56, some b_1] w [some b_79, some b_56, some b_1] w [] := TR.pick [1, 2, 3] rfl
    have C' : Ctx U0 [] w0 [some b_79, some b_56, some b_1] _ := C.pick [1, 2, 3] (by decide) rfl
    replace f_27 := T.sl f_27
    replace f_30 := T.sl f_30
    replace f_33 := T.sl f_33
    replace f_49 := T.sl f_49
    replace f_52 := T.sl f_52
    replace f_83 := T.sl f_83
    replace f_86 := T.sl f_86
    replace hb_1 := T.blk ne0 hb_1
    replace hb_56 := T.blk ne0 hb_56
    clear T; replace C := C'; clear C'
    replace hp := bind_inv hp
    obtain ⟨x_92, e_x_92, hp⟩ := hp
    refine WL.call (rc_func Try.call16 rfl) (ok_sdu_Input F (Mu U0 [some b_79, some b_56, some b_1]) _ x_80 [0, 0] A_81 k_82 A_84 k_85 A_88 k_89 (C.give [0, 1, 2] [] (by decide) rfl rfl (by decide)) (f_83.mu (mu_give [0, 1, 2] [] rfl rfl)) (f_86.mu (mu_give [0, 1, 2] [] rfl rfl)) (f_91.mu (mu_give [0, 1, 2] [] rfl rfl)) _ e_x_92) rfl ?_
    rintro v w ⟨A_93, k_94, A_96, k_97, A_99, k_100, rfl, D, f_95, f_98, f_101⟩
    obtain ⟨C', T⟩ := C.join D [0, 1, 2] [] (by decide) rfl rfl (by decide)
    replace C' : Ctx U0 [] w0 [some b_79, some b_56, some b_1] _ := C'
    replace T : TR U0 [some b_79, some b_56, some b_1] _ [some b_79, some b_56, some b_1] _ [] := T
    replace f_95 : Sl 1 (RSl 1 (RInt .u8)) (Mu U0 [some b_79, some b_56, some b_1]) _ A_93 k_94 x_92.1.Out := f_95.mu (mu_join (R := []) (L2 := [some b_79, some b_56, some b_1]) (fun b h => h))
    replace f_98 : Sl 1 (RInt .u8) (Mu U0 [some b_79, some b_56, some b_1]) _ A_96 k_97 x_92.1.In := f_98.mu (mu_join (R := []) (L2 := [some b_79, some b_56, some b_1]) (fun b h => h))
    replace f_101 : Sl 1 (RSl 1 (RInt .u8)) (Mu U0 [some b_79, some b_56, some b_1]) _ A_99 k_100 x_92.2.1 := f_101.mu (mu_join (R := []) (L2 := [some b_79, some b_56, some b_1]) (fun b h => h))
    replace f_27 := T.sl f_27
    replace f_30 := T.sl f_30
    replace f_33 := T.sl f_33
    replace f_49 := T.sl f_49
    replace f_52 := T.sl f_52
    replace f_83 := T.sl f_83
    replace f_86 := T.sl f_86
    replace f_91 := T.sl f_91
    replace hb_1 := T.blk ne0 hb_1
    replace hb_56 := T.blk ne0 hb_56
    clear T; replace C := C'; clear C'
    clear D
    refine WL.val (rv_move rfl) rfl ?_
    refine WL.val (rv_extract rfl rfl) rfl ?_
    refine WL.val (rv_extract rfl rfl) rfl ?_
    refine WL.val (rv_extract rfl rfl) rfl ?_
    refine WL.world (rw_alloc Try.zeroValue26 rfl C) rfl ?_
    rintro v w ⟨b_102, rfl, hb_102, C', T⟩
    replace C' : Ctx U0 [] w0 [some b_102, some b_79, some b_56, some b_1] _ := C'
    replace T : TR U0 [some b_79, some b_56, some b_1] _ [some b_102, some b_79, some b_56, some b_1] _ [] := T
    replace hb_102 : Blk _ b_102 26 [.int .u16 0, .int .u16 0, .int .u16 0, .int .i64 0, .int .i64 0, .int .i64 0, .int .i64 0, .int .i64 0, .int .i64 0, .int .i64 0, .slice none 0 0, .int .i64 0, .slice none 0 0, .int .i64 0, .bool false] := hb_102
    replace f_27 := T.sl f_27
    replace f_30 := T.sl f_30
    replace f_33 := T.sl f_33
    replace f_49 := T.sl f_49
    replace f_52 := T.sl f_52
    replace f_83 := T.sl f_83
    replace f_86 := T.sl f_86
    replace f_91 := T.sl f_91
    replace f_95 := T.sl f_95
    replace f_98 := T.sl f_98
    replace f_101 := T.sl f_101
    replace hb_1 := T.blk ne0 hb_1
    replace hb_56 := T.blk ne0 hb_56
    clear T; replace C := C'; clear C'
    refine WL.storeK (rs_store (i := 0) (cs' := [.int .u16 x_92.1.Local, .int .u16 x_92.1.Remote, .int .u16 x_92.1.PSM, .int .i64 x_92.1.MTU, .int .i64 x_92.1.MPS, .int .i64 x_92.1.PeerMTU, .int .i64 x_92.1.PeerMPS, .int .i64 x_92.1.TxCredits, .int .i64 x_92.1.RxCredits, .int .i64 x_92.1.Given, .slice A_93 (List.length x_92.1.Out) k_94, .int .i64 x_92.1.Sent, .slice A_96 (List.length x_92.1.In) k_97, .int .i64 x_92.1.Want, .bool x_92.1.Failed]) Try.sizeOf26 rfl rfl rfl rfl rfl hb_102 rfl C rfl rfl) ?_
    rintro w ⟨hb_102, C', T⟩
    replace f_27 := T.sl f_27
    replace f_30 := T.sl f_30
    replace f_33 := T.sl f_33
    replace f_49 := T.sl f_49
    replace f_52 := T.sl f_52
    replace f_83 := T.sl f_83
    replace f_86 := T.sl f_86
    replace f_91 := T.sl f_91
    replace f_95 := T.sl f_95
    replace f_98 := T.sl f_98
    replace f_101 := T.sl f_101
    replace hb_1 := T.blk (C.ne (i := 3) rfl [0] rfl (by decide)) hb_1
    replace hb_56 := T.blk (C.ne (i := 2) rfl [0] rfl (by decide)) hb_56
    clear T; replace C := C'; clear C'
    refine WL.val (rv_assign rfl) rfl ?_
    refine WL.val (rv_assign rfl) rfl ?_
    refine WL.nilThen ?_
    refine WC.seq ?_
    refine WC.region ?_
    refine WL.val (rv_move rfl) rfl ?_
    refine WL.val (rv_eql rfl rfl) rfl ?_
    refine WL.val (rv_move rfl) rfl ?_
    refine WL.cutAt 4 (fun a w' => w = w' ∧ Holds 107 [(1, .pointer (some ⟨b_1, 0, none⟩)), (3, .slice A_31 (List.length x_24.2) k_32), (4, .pointer (some ⟨b_56, 0, none⟩)), (6, .int .i64 x_46.2.2), (9, .int .i64 x_69.2.2), (11, .slice A_99 (List.length x_92.2.1) k_100), (12, .int .i64 x_92.2.2), (51, .bool ((x_23 == 0) && ((len x_24.2) == 2)))] a) ?_ ?_
    · rcases Bool.eq_false_or_eq_true ((x_23 == 0)) with hg_103 | hg_103
      · refine WL.yes rfl rfl hg_103 ?_
        refine WL.val (rv_move rfl) rfl ?_
        refine WL.yes rfl rfl hg_103 ?_
        refine WL.val (rv_len (dt := x_24.2) Try.underlying23 rfl) rfl ?_
        refine WL.yes rfl rfl hg_103 ?_
        refine WL.val (rv_eql rfl rfl) rfl ?_
        refine WL.val (rv_pick_t rfl hg_103 rfl) rfl ?_
        refine WL.nil (fun a ha => ?_)
        exact ⟨rfl, ha.sub ⟨rfl, rfl, rfl, rfl, rfl, rfl, rfl, and_t hg_103, trivial⟩⟩
      · refine WL.no rfl rfl hg_103 rfl ?_
        refine WL.no rfl rfl hg_103 rfl ?_
        refine WL.no rfl rfl hg_103 rfl ?_
        refine WL.val (rv_pick_f rfl hg_103 rfl) rfl ?_
        refine WL.nil (fun a ha => ?_)
        exact ⟨rfl, ha.sub ⟨rfl, rfl, rfl, rfl, rfl, rfl, rfl, and_f hg_103, trivial⟩⟩
    · rintro a w' ⟨rfl, ha⟩
      refine WL.ofJ (l := [(1, .pointer (some ⟨b_1, 0, none⟩)), (3, .slice A_31 (List.length x_24.2) k_32), (4, .pointer (some ⟨b_56, 0, none⟩)), (6, .int .i64 x_46.2.2), (9, .int .i64 x_69.2.2), (11, .slice A_99 (List.length x_92.2.1) k_100), (12, .int .i64 x_92.2.2), (51, .bool ((x_23 == 0) && ((len x_24.2) == 2)))]) ?_ ha
      refine WL.val (rv_move rfl) rfl ?_
      obtain ⟨z_105, hz, hpr⟩ := bind_inv hp
      clear hp
      refine WL.cutAt 6 (fun a w => (True) ∧ (Holds 107 [(1, .pointer (some ⟨b_1, 0, none⟩)), (3, .slice A_31 (List.length x_24.2) k_32), (4, .pointer (some ⟨b_56, 0, none⟩)), (6, .int .i64 x_46.2.2), (9, .int .i64 x_69.2.2), (11, .slice A_99 (List.length x_92.2.1) k_100), (12, .int .i64 x_92.2.2), (58, .bool z_105)] a) ∧ (Ctx U0 [] w0 [some b_56, some b_1] w) ∧ (Sl 1 (RSl 1 (RInt .u8)) (Mu U0 [some b_56, some b_1]) w A_25 k_26 x_24.1.Out) ∧ (Sl 1 (RInt .u8) (Mu U0 [some b_56, some b_1]) w A_28 k_29 x_24.1.In) ∧ (Sl 1 (RSl 1 (RInt .u8)) (Mu U0 [some b_56, some b_1]) w A_31 k_32 x_24.2) ∧ (Sl 1 (RSl 1 (RInt .u8)) (Mu U0 [some b_56, some b_1]) w A_47 k_48 x_46.1.Out) ∧ (Sl 1 (RInt .u8) (Mu U0 [some b_56, some b_1]) w A_50 k_51 x_46.1.In) ∧ (Sl 1 (RSl 1 (RInt .u8)) (Mu U0 [some b_56, some b_1]) w A_99 k_100 x_92.2.1) ∧ (Blk w b_1 26 [.int .u16 x_24.1.Local, .int .u16 x_24.1.Remote, .int .u16 x_24.1.PSM, .int .i64 x_24.1.MTU, .int .i64 x_24.1.MPS, .int .i64 x_24.1.PeerMTU, .int .i64 x_24.1.PeerMPS, .int .i64 x_24.1.TxCredits, .int .i64 x_24.1.RxCredits, .int .i64 x_24.1.Given, .slice A_25 (List.length x_24.1.Out) k_26, .int .i64 x_24.1.Sent, .slice A_28 (List.length x_24.1.In) k_29, .int .i64 x_24.1.Want, .bool x_24.1.Failed]) ∧ (Blk w b_56 26 [.int .u16 x_46.1.Local, .int .u16 x_46.1.Remote, .int .u16 x_46.1.PSM, .int .i64 x_46.1.MTU, .int .i64 x_46.1.MPS, .int .i64 x_46.1.PeerMTU, .int .i64 x_46.1.PeerMPS, .int .i64 x_46.1.TxCredits, .int .i64 x_46.1.RxCredits, .int .i64 x_46.1.Given, .slice A_47 (List.length x_46.1.Out) k_48, .int .i64 x_46.1.Sent, .slice A_50 (List.length x_46.1.In) k_51, .int .i64 x_46.1.Want, .bool x_46.1.Failed])) ?_ ?_
      · have hp := hz
        rcases Bool.eq_false_or_eq_true (((x_23 == 0) && ((len x_24.2) == 2))) with hg_104 | hg_104
        · replace hp := if_t hp hg_104
          refine WL.yes rfl rfl hg_104 ?_
          refine WL.val (rv_move rfl) rfl ?_
          replace hp := bind_inv hp
          obtain ⟨x_147, e_x_147, hp⟩ := hp
          refine WL.yes rfl rfl hg_104 ?_
          refine WL.ixSl (dt := x_24.2) Try.underlying23 Try.sizeOf24 rfl rfl rfl f_33 e_x_147 rfl ?_
          intro d_148 es_149 f_150 hl hr
          obtain ⟨A_151, k_152, rfl, f_153⟩ := hr
          clear hl
          refine WL.yes rfl rfl hg_104 ?_
          refine WL.val (rv_loadA1 (ad := d_148) (o := 0) Try.isAgg24 rfl f_150 rfl) rfl ?_
          refine WL.yes rfl rfl hg_104 ?_
          refine WL.val (rv_len (dt := x_147) Try.underlying24 rfl) rfl ?_
          refine WL.yes rfl rfl hg_104 ?_
          refine WL.val (rv_eql rfl rfl) rfl ?_
          refine WL.val (rv_pick_t rfl hg_104 rfl) rfl ?_
          refine WL.nil (fun a ha => ?_)
          obtain rfl := some_inv' hp
          have T : TR U0 [some b_102, some b_79, some b_56, some b_1] w [some b_56, some b_1] w [] := TR.pick [2, 3] rfl
          have C' : Ctx U0 [] w0 [some b_56, some b_1] _ := C.pick [2, 3] (by decide) rfl
          replace f_27 := T.sl f_27
          replace f_30 := T.sl f_30
          replace f_33 := T.sl f_33
          replace f_49 := T.sl f_49
          replace f_52 := T.sl f_52
          replace f_101 := T.sl f_101
          replace hb_1 := T.blk ne0 hb_1
          replace hb_56 := T.blk ne0 hb_56
          clear T; replace C := C'; clear C'
          exact ⟨trivial, ha.sub ⟨rfl, rfl, rfl, rfl, rfl, rfl, rfl, rfl, trivial⟩, C, f_27, f_30, f_33, f_49, f_52, f_101, hb_1, hb_56⟩
        · replace hp := if_f hp hg_104
          refine WL.no rfl rfl hg_104 rfl ?_
          refine WL.no rfl rfl hg_104 rfl ?_
          refine WL.no rfl rfl hg_104 rfl ?_
          refine WL.no rfl rfl hg_104 rfl ?_
          refine WL.no rfl rfl hg_104 rfl ?_
          refine WL.val (rv_pick_f rfl hg_104 rfl) rfl ?_
          refine WL.nil (fun a ha => ?_)
          obtain rfl := some_inv' hp
          have T : TR U0 [some b_102, some b_79, some b_56, some b_1] w [some b_56, some b_1] w [] := TR.pick [2, 3] rfl
          have C' : Ctx U0 [] w0 [some b_56, some b_1] _ := C.pick [2, 3] (by decide) rfl
          replace f_27 := T.sl f_27
          replace f_30 := T.sl f_30
          replace f_33 := T.sl f_33
          replace f_49 := T.sl f_49
          replace f_52 := T.sl f_52
          replace f_101 := T.sl f_101
          replace hb_1 := T.blk ne0 hb_1
          replace hb_56 := T.blk ne0 hb_56
          clear T; replace C := C'; clear C'
          exact ⟨trivial, ha.sub ⟨rfl, rfl, rfl, rfl, rfl, rfl, rfl, rfl, trivial⟩, C, f_27, f_30, f_33, f_49, f_52, f_101, hb_1, hb_56⟩
      · rintro a w ⟨hp, ha, C, f_27, f_30, f_33, f_49, f_52, f_101, hb_1, hb_56⟩
        have hp := hpr; clear hpr hz
        refine WL.ofJ (l := [(1, .pointer (some ⟨b_1, 0, none⟩)), (3, .slice A_31 (List.length x_24.2) k_32), (4, .pointer (some ⟨b_56, 0, none⟩)), (6, .int .i64 x_46.2.2), (9, .int .i64 x_69.2.2), (11, .slice A_99 (List.length x_92.2.1) k_100), (12, .int .i64 x_92.2.2), (58, .bool z_105)]) ?_ ha
        refine WL.val (rv_move rfl) rfl ?_
        obtain ⟨z_107, hz, hpr⟩ := bind_inv hp
        clear hp
        refine WL.cutAt 6 (fun a w => (True) ∧ (Holds 107 [(1, .pointer (some ⟨b_1, 0, none⟩)), (3, .slice A_31 (List.length x_24.2) k_32), (4, .pointer (some ⟨b_56, 0, none⟩)), (6, .int .i64 x_46.2.2), (9, .int .i64 x_69.2.2), (11, .slice A_99 (List.length x_92.2.1) k_100), (12, .int .i64 x_92.2.2), (65, .bool z_107)] a) ∧ (Ctx U0 [] w0 [some b_56, some b_1] w) ∧ (Sl 1 (RSl 1 (RInt .u8)) (Mu U0 [some b_56, some b_1]) w A_25 k_26 x_24.1.Out) ∧ (Sl 1 (RInt .u8) (Mu U0 [some b_56, some b_1]) w A_28 k_29 x_24.1.In) ∧ (Sl 1 (RSl 1 (RInt .u8)) (Mu U0 [some b_56, some b_1]) w A_31 k_32 x_24.2) ∧ (Sl 1 (RSl 1 (RInt .u8)) (Mu U0 [some b_56, some b_1]) w A_47 k_48 x_46.1.Out) ∧ (Sl 1 (RInt .u8) (Mu U0 [some b_56, some b_1]) w A_50 k_51 x_46.1.In) ∧ (Sl 1 (RSl 1 (RInt .u8)) (Mu U0 [some b_56, some b_1]) w A_99 k_100 x_92.2.1) ∧ (Blk w b_1 26 [.int .u16 x_24.1.Local, .int .u16 x_24.1.Remote, .int .u16 x_24.1.PSM, .int .i64 x_24.1.MTU, .int .i64 x_24.1.MPS, .int .i64 x_24.1.PeerMTU, .int .i64 x_24.1.PeerMPS, .int .i64 x_24.1.TxCredits, .int .i64 x_24.1.RxCredits, .int .i64 x_24.1.Given, .slice A_25 (List.length x_24.1.Out) k_26, .int .i64 x_24.1.Sent, .slice A_28 (List.length x_24.1.In) k_29, .int .i64 x_24.1.Want, .bool x_24.1.Failed]) ∧ (Blk w b_56 26 [.int .u16 x_46.1.Local, .int .u16 x_46.1.Remote, .int .u16 x_46.1.PSM, .int .i64 x_46.1.MTU, .int .i64 x_46.1.MPS, .int .i64 x_46.1.PeerMTU, .int .i64 x_46.1.PeerMPS, .int .i64 x_46.1.TxCredits, .int .i64 x_46.1.RxCredits, .int .i64 x_46.1.Given, .slice A_47 (List.length x_46.1.Out) k_48, .int .i64 x_46.1.Sent, .slice A_50 (List.length x_46.1.In) k_51, .int .i64 x_46.1.Want, .bool x_46.1.Failed])) ?_ ?_
        · have hp := hz
          rcases Bool.eq_false_or_eq_true (z_105) with hg_106 | hg_106
          · replace hp := if_t hp hg_106
            refine WL.yes rfl rfl hg_106 ?_
            refine WL.val (rv_move rfl) rfl ?_
            replace hp := bind_inv hp
            obtain ⟨x_139, e_x_139, hp⟩ := hp
            refine WL.yes rfl rfl hg_106 ?_
            refine WL.ixSl (dt := x_24.2) Try.underlying23 Try.sizeOf24 rfl rfl rfl f_33 e_x_139 rfl ?_
            intro d_140 es_141 f_142 hl hr
            obtain ⟨A_143, k_144, rfl, f_145⟩ := hr
            clear hl
            refine WL.yes rfl rfl hg_106 ?_
            refine WL.val (rv_loadA1 (ad := d_140) (o := 0) Try.isAgg24 rfl f_142 rfl) rfl ?_
            refine WL.yes rfl rfl hg_106 ?_
            refine WL.val (rv_len (dt := x_139) Try.underlying24 rfl) rfl ?_
            refine WL.yes rfl rfl hg_106 ?_
            refine WL.val (rv_eql rfl rfl) rfl ?_
            refine WL.val (rv_pick_t rfl hg_106 rfl) rfl ?_
            refine WL.nil (fun a ha => ?_)
            obtain rfl := some_inv' hp
            exact ⟨trivial, ha.sub ⟨rfl, rfl, rfl, rfl, rfl, rfl, rfl, rfl, trivial⟩, C, f_27, f_30, f_33, f_49, f_52, f_101, hb_1, hb_56⟩
          · replace hp := if_f hp hg_106
            refine WL.no rfl rfl hg_106 rfl ?_
            refine WL.no rfl rfl hg_106 rfl ?_
            refine WL.no rfl rfl hg_106 rfl ?_
            refine WL.no rfl rfl hg_106 rfl ?_
            refine WL.no rfl rfl hg_106 rfl ?_
            refine WL.val (rv_pick_f rfl hg_106 rfl) rfl ?_
            refine WL.nil (fun a ha => ?_)
            obtain rfl := some_inv' hp
            exact ⟨trivial, ha.sub ⟨rfl, rfl, rfl, rfl, rfl, rfl, rfl, rfl, trivial⟩, C, f_27, f_30, f_33, f_49, f_52, f_101, hb_1, hb_56⟩
        · rintro a w ⟨hp, ha, C, f_27, f_30, f_33, f_49, f_52, f_101, hb_1, hb_56⟩
          have hp := hpr; clear hpr hz
          refine WL.ofJ (l := [(1, .pointer (some ⟨b_1, 0, none⟩)), (3, .slice A_31 (List.length x_24.2) k_32), (4, .pointer (some ⟨b_56, 0, none⟩)), (6, .int .i64 x_46.2.2), (9, .int .i64 x_69.2.2), (11, .slice A_99 (List.length x_92.2.1) k_100), (12, .int .i64 x_92.2.2), (65, .bool z_107)]) ?_ ha
          refine WL.val (rv_move rfl) rfl ?_
          obtain ⟨z_109, hz, hpr⟩ := bind_inv hp
          clear hp
          refine WL.cutAt 7 (fun a w => (True) ∧ (Holds 107 [(1, .pointer (some ⟨b_1, 0, none⟩)), (4, .pointer (some ⟨b_56, 0, none⟩)), (6, .int .i64 x_46.2.2), (9, .int .i64 x_69.2.2), (11, .slice A_99 (List.length x_92.2.1) k_100), (12, .int .i64 x_92.2.2), (73, .bool z_109)] a) ∧ (Ctx U0 [] w0 [some b_56, some b_1] w) ∧ (Sl 1 (RSl 1 (RInt .u8)) (Mu U0 [some b_56, some b_1]) w A_25 k_26 x_24.1.Out) ∧ (Sl 1 (RInt .u8) (Mu U0 [some b_56, some b_1]) w A_28 k_29 x_24.1.In) ∧ (Sl 1 (RSl 1 (RInt .u8)) (Mu U0 [some b_56, some b_1]) w A_47 k_48 x_46.1.Out) ∧ (Sl 1 (RInt .u8) (Mu U0 [some b_56, some b_1]) w A_50 k_51 x_46.1.In) ∧ (Sl 1 (RSl 1 (RInt .u8)) (Mu U0 [some b_56, some b_1]) w A_99 k_100 x_92.2.1) ∧ (Blk w b_1 26 [.int .u16 x_24.1.Local, .int .u16 x_24.1.Remote, .int .u16 x_24.1.PSM, .int .i64 x_24.1.MTU, .int .i64 x_24.1.MPS, .int .i64 x_24.1.PeerMTU, .int .i64 x_24.1.PeerMPS, .int .i64 x_24.1.TxCredits, .int .i64 x_24.1.RxCredits, .int .i64 x_24.1.Given, .slice A_25 (List.length x_24.1.Out) k_26, .int .i64 x_24.1.Sent, .slice A_28 (List.length x_24.1.In) k_29, .int .i64 x_24.1.Want, .bool x_24.1.Failed]) ∧ (Blk w b_56 26 [.int .u16 x_46.1.Local, .int .u16 x_46.1.Remote, .int .u16 x_46.1.PSM, .int .i64 x_46.1.MTU, .int .i64 x_46.1.MPS, .int .i64 x_46.1.PeerMTU, .int .i64 x_46.1.PeerMPS, .int .i64 x_46.1.TxCredits, .int .i64 x_46.1.RxCredits, .int .i64 x_46.1.Given, .slice A_47 (List.length x_46.1.Out) k_48, .int .i64 x_46.1.Sent, .slice A_50 (List.length x_46.1.In) k_51, .int .i64 x_46.1.Want, .bool x_46.1.Failed])) ?_ ?_
          · have hp := hz
            rcases Bool.eq_false_or_eq_true (z_107) with hg_108 | hg_108
            · replace hp := if_t hp hg_108
              refine WL.yes rfl rfl hg_108 ?_
              refine WL.val (rv_move rfl) rfl ?_
              replace hp := bind_inv hp
              obtain ⟨x_127, e_x_127, hp⟩ := hp
              refine WL.yes rfl rfl hg_108 ?_
              refine WL.ixSl (dt := x_24.2) Try.underlying23 Try.sizeOf24 rfl rfl rfl f_33 e_x_127 rfl ?_
              intro d_128 es_129 f_130 hl hr
              obtain ⟨A_131, k_132, rfl, f_133⟩ := hr
              clear hl
              refine WL.yes rfl rfl hg_108 ?_
              refine WL.val (rv_loadA1 (ad := d_128) (o := 0) Try.isAgg24 rfl f_130 rfl) rfl ?_
              replace hp := bind_inv hp
              obtain ⟨x_134, e_x_134, hp⟩ := hp
              refine WL.yes rfl rfl hg_108 ?_
              refine WL.ixSl (dt := x_127) Try.underlying24 Try.sizeOf5 rfl rfl rfl f_133 e_x_134 rfl ?_
              intro d_135 es_136 f_137 hl hr
              obtain rfl : es_136 = [.int .u8 x_134] := hr
              clear hl
              refine WL.yes rfl rfl hg_108 ?_
              refine WL.val (rv_loadA1 (ad := d_135) (o := 0) Try.isAgg5 rfl f_137 rfl) rfl ?_
              refine WL.yes rfl rfl hg_108 ?_
              refine WL.val (rv_eql rfl rfl) rfl ?_
              refine WL.val (rv_pick_t rfl hg_108 rfl) rfl ?_
              refine WL.nil (fun a ha => ?_)
              obtain rfl := some_inv' hp
              exact ⟨trivial, ha.sub ⟨rfl, rfl, rfl, rfl, rfl, rfl, rfl, trivial⟩, C, f_27, f_30, f_49, f_52, f_101, hb_1, hb_56⟩
            · replace hp := if_f hp hg_108
              refine WL.no rfl rfl hg_108 rfl ?_
              refine WL.no rfl rfl hg_108 rfl ?_
              refine WL.no rfl rfl hg_108 rfl ?_
              refine WL.no rfl rfl hg_108 rfl ?_
              refine WL.no rfl rfl hg_108 rfl ?_
              refine WL.no rfl rfl hg_108 rfl ?_
              refine WL.val (rv_pick_f rfl hg_108 rfl) rfl ?_
              refine WL.nil (fun a ha => ?_)
              obtain rfl := some_inv' hp
              exact ⟨trivial, ha.sub ⟨rfl, rfl, rfl, rfl, rfl, rfl, rfl, trivial⟩, C, f_27, f_30, f_49, f_52, f_101, hb_1, hb_56⟩
          · rintro a w ⟨hp, ha, C, f_27, f_30, f_49, f_52, f_101, hb_1, hb_56⟩
            have hp := hpr; clear hpr hz
            refine WL.ofJ (l := [(1, .pointer (some ⟨b_1, 0, none⟩)), (4, .pointer (some ⟨b_56, 0, none⟩)), (6, .int .i64 x_46.2.2), (9, .int .i64 x_69.2.2), (11, .slice A_99 (List.length x_92.2.1) k_100), (12, .int .i64 x_92.2.2), (73, .bool z_109)]) ?_ ha
            refine WL.val (rv_move rfl) rfl ?_
            refine WL.cutAt 4 (fun a w' => w = w' ∧ Holds 107 [(4, .pointer (some ⟨b_56, 0, none⟩)), (6, .int .i64 x_46.2.2), (9, .int .i64 x_69.2.2), (11, .slice A_99 (List.length x_92.2.1) k_100), (12, .int .i64 x_92.2.2), (78, .bool (z_109 && (x_24.1.TxCredits == 3)))] a) ?_ ?_
            · rcases Bool.eq_false_or_eq_true (z_109) with hg_110 | hg_110
              · refine WL.yes rfl rfl hg_110 ?_
                refine WL.val (rv_fieldAddr FA26_7 rfl rfl) rfl ?_
                refine WL.yes rfl rfl hg_110 ?_
                refine WL.val (rv_load1 Try.isAgg3 rfl hb_1 rfl) rfl ?_
                refine WL.yes rfl rfl hg_110 ?_
                refine WL.val (rv_eql rfl rfl) rfl ?_
                refine WL.val (rv_pick_t rfl hg_110 rfl) rfl ?_
                refine WL.nil (fun a ha => ?_)
                exact ⟨rfl, ha.sub ⟨rfl, rfl, rfl, rfl, rfl, and_t hg_110, trivial⟩⟩
              · refine WL.no rfl rfl hg_110 rfl ?_
                refine WL.no rfl rfl hg_110 rfl ?_
                refine WL.no rfl rfl hg_110 rfl ?_
                refine WL.val (rv_pick_f rfl hg_110 rfl) rfl ?_
                refine WL.nil (fun a ha => ?_)
                exact ⟨rfl, ha.sub ⟨rfl, rfl, rfl, rfl, rfl, and_f hg_110, trivial⟩⟩
            · rintro a w' ⟨rfl, ha⟩
              refine WL.ofJ (l := [(4, .pointer (some ⟨b_56, 0, none⟩)), (6, .int .i64 x_46.2.2), (9, .int .i64 x_69.2.2), (11, .slice A_99 (List.length x_92.2.1) k_100), (12, .int .i64 x_92.2.2), (78, .bool (z_109 && (x_24.1.TxCredits == 3)))]) ?_ ha
              refine WL.val (rv_move rfl) rfl ?_
              refine WL.cutAt 3 (fun a w' => w = w' ∧ Holds 107 [(4, .pointer (some ⟨b_56, 0, none⟩)), (9, .int .i64 x_69.2.2), (11, .slice A_99 (List.length x_92.2.1) k_100), (12, .int .i64 x_92.2.2), (82, .bool ((z_109 && (x_24.1.TxCredits == 3)) && (x_46.2.2 == 19)))] a) ?_ ?_
              · rcases Bool.eq_false_or_eq_true ((z_109 && (x_24.1.TxCredits == 3))) with hg_111 | hg_111
                · refine WL.yes rfl rfl hg_111 ?_
                  refine WL.val (rv_move rfl) rfl ?_
                  refine WL.yes rfl rfl hg_111 ?_
                  refine WL.val (rv_eql rfl rfl) rfl ?_
                  refine WL.val (rv_pick_t rfl hg_111 rfl) rfl ?_
                  refine WL.nil (fun a ha => ?_)
                  exact ⟨rfl, ha.sub ⟨rfl, rfl, rfl, rfl, and_t hg_111, trivial⟩⟩
                · refine WL.no rfl rfl hg_111 rfl ?_
                  refine WL.no rfl rfl hg_111 rfl ?_
                  refine WL.val (rv_pick_f rfl hg_111 rfl) rfl ?_
                  refine WL.nil (fun a ha => ?_)
                  exact ⟨rfl, ha.sub ⟨rfl, rfl, rfl, rfl, and_f hg_111, trivial⟩⟩
              · rintro a w' ⟨rfl, ha⟩
                refine WL.ofJ (l := [(4, .pointer (some ⟨b_56, 0, none⟩)), (9, .int .i64 x_69.2.2), (11, .slice A_99 (List.length x_92.2.1) k_100), (12, .int .i64 x_92.2.2), (82, .bool ((z_109 && (x_24.1.TxCredits == 3)) && (x_46.2.2 == 19)))]) ?_ ha
                refine WL.val (rv_move rfl) rfl ?_
                refine WL.cutAt 3 (fun a w' => w = w' ∧ Holds 107 [(9, .int .i64 x_69.2.2), (11, .slice A_99 (List.length x_92.2.1) k_100), (12, .int .i64 x_92.2.2), (86, .bool (((z_109 && (x_24.1.TxCredits == 3)) && (x_46.2.2 == 19)) && x_46.1.Failed))] a) ?_ ?_
                · rcases Bool.eq_false_or_eq_true (((z_109 && (x_24.1.TxCredits == 3)) && (x_46.2.2 == 19))) with hg_112 | hg_112
                  · refine WL.yes rfl rfl hg_112 ?_
                    refine WL.val (rv_fieldAddr FA26_14 rfl rfl) rfl ?_
                    refine WL.yes rfl rfl hg_112 ?_
                    refine WL.val (rv_load1 Try.isAgg4 rfl hb_56 rfl) rfl ?_
                    refine WL.val (rv_pick_t rfl hg_112 rfl) rfl ?_
                    refine WL.nil (fun a ha => ?_)
                    exact ⟨rfl, ha.sub ⟨rfl, rfl, rfl, and_t hg_112, trivial⟩⟩
                  · refine WL.no rfl rfl hg_112 rfl ?_
                    refine WL.no rfl rfl hg_112 rfl ?_
                    refine WL.val (rv_pick_f rfl hg_112 rfl) rfl ?_
                    refine WL.nil (fun a ha => ?_)
                    exact ⟨rfl, ha.sub ⟨rfl, rfl, rfl, and_f hg_112, trivial⟩⟩
                · rintro a w' ⟨rfl, ha⟩
                  refine WL.ofJ (l := [(9, .int .i64 x_69.2.2), (11, .slice A_99 (List.length x_92.2.1) k_100), (12, .int .i64 x_92.2.2), (86, .bool (((z_109 && (x_24.1.TxCredits == 3)) && (x_46.2.2 == 19)) && x_46.1.Failed))]) ?_ ha
                  refine WL.val (rv_move rfl) rfl ?_
                  refine WL.cutAt 3 (fun a w' => w = w' ∧ Holds 107 [(11, .slice A_99 (List.length x_92.2.1) k_100), (12, .int .i64 x_92.2.2), (90, .bool ((((z_109 && (x_24.1.TxCredits == 3)) && (x_46.2.2 == 19)) && x_46.1.Failed) && (x_69.2.2 == 3)))] a) ?_ ?_
                  · rcases Bool.eq_false_or_eq_true ((((z_109 && (x_24.1.TxCredits == 3)) && (x_46.2.2 == 19)) && x_46.1.Failed)) with hg_113 | hg_113
                    · refine WL.yes rfl rfl hg_113 ?_
                      refine WL.val (rv_move rfl) rfl ?_
                      refine WL.yes rfl rfl hg_113 ?_
                      refine WL.val (rv_eql rfl rfl) rfl ?_
                      refine WL.val (rv_pick_t rfl hg_113 rfl) rfl ?_
                      refine WL.nil (fun a ha => ?_)
                      exact ⟨rfl, ha.sub ⟨rfl, rfl, and_t hg_113, trivial⟩⟩
                    · refine WL.no rfl rfl hg_113 rfl ?_
                      refine WL.no rfl rfl hg_113 rfl ?_
                      refine WL.val (rv_pick_f rfl hg_113 rfl) rfl ?_
                      refine WL.nil (fun a ha => ?_)
                      exact ⟨rfl, ha.sub ⟨rfl, rfl, and_f hg_113, trivial⟩⟩
                  · rintro a w' ⟨rfl, ha⟩
                    refine WL.ofJ (l := [(11, .slice A_99 (List.length x_92.2.1) k_100), (12, .int .i64 x_92.2.2), (90, .bool ((((z_109 && (x_24.1.TxCredits == 3)) && (x_46.2.2 == 19)) && x_46.1.Failed) && (x_69.2.2 == 3)))]) ?_ ha
                    refine WL.val (rv_move rfl) rfl ?_
                    refine WL.cutAt 3 (fun a w' => w = w' ∧ Holds 107 [(11, .slice A_99 (List.length x_92.2.1) k_100), (94, .bool (((((z_109 && (x_24.1.TxCredits == 3)) && (x_46.2.2 == 19)) && x_46.1.Failed) && (x_69.2.2 == 3)) && (x_92.2.2 == 0)))] a) ?_ ?_
                    · rcases Bool.eq_false_or_eq_true (((((z_109 && (x_24.1.TxCredits == 3)) && (x_46.2.2 == 19)) && x_46.1.Failed) && (x_69.2.2 == 3))) with hg_114 | hg_114
                      · refine WL.yes rfl rfl hg_114 ?_
                        refine WL.val (rv_move rfl) rfl ?_
                        refine WL.yes rfl rfl hg_114 ?_
                        refine WL.val (rv_eql rfl rfl) rfl ?_
                        refine WL.val (rv_pick_t rfl hg_114 rfl) rfl ?_
                        refine WL.nil (fun a ha => ?_)
                        exact ⟨rfl, ha.sub ⟨rfl, and_t hg_114, trivial⟩⟩
                      · refine WL.no rfl rfl hg_114 rfl ?_
                        refine WL.no rfl rfl hg_114 rfl ?_
                        refine WL.val (rv_pick_f rfl hg_114 rfl) rfl ?_
                        refine WL.nil (fun a ha => ?_)
                        exact ⟨rfl, ha.sub ⟨rfl, and_f hg_114, trivial⟩⟩
                    · rintro a w' ⟨rfl, ha⟩
                      refine WL.ofJ (l := [(11, .slice A_99 (List.length x_92.2.1) k_100), (94, .bool (((((z_109 && (x_24.1.TxCredits == 3)) && (x_46.2.2 == 19)) && x_46.1.Failed) && (x_69.2.2 == 3)) && (x_92.2.2 == 0)))]) ?_ ha
                      refine WL.val (rv_move rfl) rfl ?_
                      refine WL.cutAt 4 (fun a w' => w = w' ∧ Holds 107 [(11, .slice A_99 (List.length x_92.2.1) k_100), (99, .bool ((((((z_109 && (x_24.1.TxCredits == 3)) && (x_46.2.2 == 19)) && x_46.1.Failed) && (x_69.2.2 == 3)) && (x_92.2.2 == 0)) && ((len x_92.2.1) == 1)))] a) ?_ ?_
                      · rcases Bool.eq_false_or_eq_true ((((((z_109 && (x_24.1.TxCredits == 3)) && (x_46.2.2 == 19)) && x_46.1.Failed) && (x_69.2.2 == 3)) && (x_92.2.2 == 0))) with hg_115 | hg_115
                        · refine WL.yes rfl rfl hg_115 ?_
                          refine WL.val (rv_move rfl) rfl ?_
                          refine WL.yes rfl rfl hg_115 ?_
                          refine WL.val (rv_len (dt := x_92.2.1) Try.underlying23 rfl) rfl ?_
                          refine WL.yes rfl rfl hg_115 ?_
                          refine WL.val (rv_eql rfl rfl) rfl ?_
                          refine WL.val (rv_pick_t rfl hg_115 rfl) rfl ?_
                          refine WL.nil (fun a ha => ?_)
                          exact ⟨rfl, ha.sub ⟨rfl, and_t hg_115, trivial⟩⟩
                        · refine WL.no rfl rfl hg_115 rfl ?_
                          refine WL.no rfl rfl hg_115 rfl ?_
                          refine WL.no rfl rfl hg_115 rfl ?_
                          refine WL.val (rv_pick_f rfl hg_115 rfl) rfl ?_
                          refine WL.nil (fun a ha => ?_)
                          exact ⟨rfl, ha.sub ⟨rfl, and_f hg_115, trivial⟩⟩
                      · rintro a w' ⟨rfl, ha⟩
                        refine WL.ofJ (l := [(11, .slice A_99 (List.length x_92.2.1) k_100), (99, .bool ((((((z_109 && (x_24.1.TxCredits == 3)) && (x_46.2.2 == 19)) && x_46.1.Failed) && (x_69.2.2 == 3)) && (x_92.2.2 == 0)) && ((len x_92.2.1) == 1)))]) ?_ ha
                        refine WL.val (rv_move rfl) rfl ?_
                        obtain ⟨z_117, hz, hpr⟩ := bind_inv hp
                        clear hp
                        refine WL.cutAt 6 (fun a w => (True) ∧ (Holds 107 [(106, .bool z_117)] a) ∧ (Ctx U0 [] w0 [] w)) ?_ ?_
                        · have hp := hz
                          rcases Bool.eq_false_or_eq_true (((((((z_109 && (x_24.1.TxCredits == 3)) && (x_46.2.2 == 19)) && x_46.1.Failed) && (x_69.2.2 == 3)) && (x_92.2.2 == 0)) && ((len x_92.2.1) == 1))) with hg_116 | hg_116
                          · replace hp := if_t hp hg_116
                            refine WL.yes rfl rfl hg_116 ?_
                            refine WL.val (rv_move rfl) rfl ?_
                            replace hp := bind_inv hp
                            obtain ⟨x_119, e_x_119, hp⟩ := hp
                            refine WL.yes rfl rfl hg_116 ?_
                            refine WL.ixSl (dt := x_92.2.1) Try.underlying23 Try.sizeOf24 rfl rfl rfl f_101 e_x_119 rfl ?_
                            intro d_120 es_121 f_122 hl hr
                            obtain ⟨A_123, k_124, rfl, f_125⟩ := hr
                            clear hl
                            refine WL.yes rfl rfl hg_116 ?_
                            refine WL.val (rv_loadA1 (ad := d_120) (o := 0) Try.isAgg24 rfl f_122 rfl) rfl ?_
                            refine WL.yes rfl rfl hg_116 ?_
                            refine WL.val (rv_len (dt := x_119) Try.underlying24 rfl) rfl ?_
                            refine WL.yes rfl rfl hg_116 ?_
                            refine WL.val (rv_eql rfl rfl) rfl ?_
                            refine WL.val (rv_pick_t rfl hg_116 rfl) rfl ?_
                            refine WL.nil (fun a ha => ?_)
                            obtain rfl := some_inv' hp
                            have T : TR U0 [some b_56, some b_1] w [] w [] := TR.pick [] rfl
                            have C' : Ctx U0 [] w0 [] _ := C.pick [] (by decide) rfl
                            clear T; replace C := C'; clear C'
                            exact ⟨trivial, ha.sub ⟨rfl, trivial⟩, C⟩
                          · replace hp := if_f hp hg_116
                            refine WL.no rfl rfl hg_116 rfl ?_
                            refine WL.no rfl rfl hg_116 rfl ?_
                            refine WL.no rfl rfl hg_116 rfl ?_
                            refine WL.no rfl rfl hg_116 rfl ?_
                            refine WL.no rfl rfl hg_116 rfl ?_
                            refine WL.val (rv_pick_f rfl hg_116 rfl) rfl ?_
                            refine WL.nil (fun a ha => ?_)
                            obtain rfl := some_inv' hp
                            have T : TR U0 [some b_56, some b_1] w [] w [] := TR.pick [] rfl
                            have C' : Ctx U0 [] w0 [] _ := C.pick [] (by decide) rfl
                            clear T; replace C := C'; clear C'
                            exact ⟨trivial, ha.sub ⟨rfl, trivial⟩, C⟩
                        · rintro a w ⟨hp, ha, C⟩
                          have hp := hpr; clear hpr hz
                          refine WL.ofJ (l := [(106, .bool z_117)]) ?_ ha
                          refine WL.val (rv_assign rfl) rfl ?_
                          refine WL.nilThen ?_
                          obtain rfl := some_inv' hp
                          refine WC.ret (retK (rs := [.tmp 0]) (vs := [.bool z_117]) rfl ⟨rv1_tmp rfl, trivial⟩ ?_)
                          exact ⟨_, rfl, rfl, C⟩

theorem ok_wirelesslaw33_SduChecks (F : Nat) (U0 : Nat → Prop) (w0 : World) (c_1 : T_api_Channel) (A_2 : Option Addr) (k_3 : Nat) (A_5 : Option Addr) (k_6 : Nat) (C : Ctx U0 [] w0 [] w0) (f_4 : Sl 1 (RSl 1 (RInt .u8)) (Mu U0 []) w0 A_2 k_3 c_1.Out) (f_7 : Sl 1 (RInt .u8) (Mu U0 []) w0 A_5 k_6 c_1.In) (r : Bool) (hp : wirelesslaw33_SduChecks F c_1 = some r) :
    Calls Try.prog 8 #[.agg #[.int .u16 c_1.Local, .int .u16 c_1.Remote, .int .u16 c_1.PSM, .int .i64 c_1.MTU, .int .i64 c_1.MPS, .int .i64 c_1.PeerMTU, .int .i64 c_1.PeerMPS, .int .i64 c_1.TxCredits, .int .i64 c_1.RxCredits, .int .i64 c_1.Given, .slice A_2 (List.length c_1.Out) k_3, .int .i64 c_1.Sent, .slice A_5 (List.length c_1.In) k_6, .int .i64 c_1.Want, .bool c_1.Failed]] w0 fun e w => ∃ v, e = .returned v ∧ (v = .bool r) ∧ (Ctx U0 [] w0 [] w) := by
  refine calls_enter (vs := [.agg #[.int .u16 c_1.Local, .int .u16 c_1.Remote, .int .u16 c_1.PSM, .int .i64 c_1.MTU, .int .i64 c_1.MPS, .int .i64 c_1.PeerMTU, .int .i64 c_1.PeerMPS, .int .i64 c_1.TxCredits, .int .i64 c_1.RxCredits, .int .i64 c_1.Given, .slice A_2 (List.length c_1.Out) k_3, .int .i64 c_1.Sent, .slice A_5 (List.length c_1.In) k_6, .int .i64 c_1.Want, .bool c_1.Failed]]) Try.func8 rfl Try.ntmps8 rfl ?_
  refine WC.prune (l' := [(0, .agg #[.int .u16 c_1.Local, .int .u16 c_1.Remote, .int .u16 c_1.PSM, .int .i64 c_1.MTU, .int .i64 c_1.MPS, .int .i64 c_1.PeerMTU, .int .i64 c_1.PeerMPS, .int .i64 c_1.TxCredits, .int .i64 c_1.RxCredits, .int .i64 c_1.Given, .slice A_2 (List.length c_1.Out) k_3, .int .i64 c_1.Sent, .slice A_5 (List.length c_1.In) k_6, .int .i64 c_1.Want, .bool c_1.Failed])]) ⟨rfl, trivial⟩ ?_
  skip
  refine WC.seq ?_
  refine WC.region ?_
  refine WL.world (rw_box rfl rfl C) rfl ?_
  rintro v w ⟨b_8, rfl, hb_8, C', T⟩
  replace C' : Ctx U0 [] w0 [some b_8] _ := C'
  replace T : TR U0 [] _ [some b_8] _ [] := T
  replace hb_8 : Blk _ b_8 26 [.int .u16 c_1.Local, .int .u16 c_1.Remote, .int .u16 c_1.PSM, .int .i64 c_1.MTU, .int .i64 c_1.MPS, .int .i64 c_1.PeerMTU, .int .i64 c_1.PeerMPS, .int .i64 c_1.TxCredits, .int .i64 c_1.RxCredits, .int .i64 c_1.Given, .slice A_2 (List.length c_1.Out) k_3, .int .i64 c_1.Sent, .slice A_5 (List.length c_1.In) k_6, .int .i64 c_1.Want, .bool c_1.Failed] := hb_8
  replace f_4 := T.sl f_4
  replace f_7 := T.sl f_7
  clear T; replace C := C'; clear C'
  refine WL.val (rv_assign rfl) rfl ?_
  refine WL.nilThen ?_
  refine WC.seq ?_
  refine WC.seq ?_
  refine WC.region ?_
  refine WL.val (rv_loadN Try.isAgg26 Try.sizeOf26 rfl hb_8 rfl rfl) rfl ?_
  replace hp := bind_inv hp
  obtain ⟨x_9, e_x_9, hp⟩ := hp
  refine WL.call (rc_func Try.call9 rfl) (ok_wirelesslaw33_light F (Mu U0 [some b_8]) _ c_1 A_2 k_3 A_5 k_6 (C.give [0] [] (by decide) rfl rfl (by decide)) (f_4.mu (mu_give [0] [] rfl rfl)) (f_7.mu (mu_give [0] [] rfl rfl)) _ e_x_9) rfl ?_
  rintro v w ⟨rfl, D⟩
  obtain ⟨C', T⟩ := C.join D [0] [] (by decide) rfl rfl (by decide)
  replace C' : Ctx U0 [] w0 [some b_8] _ := C'
  replace T : TR U0 [some b_8] _ [some b_8] _ [] := T
  replace f_4 := T.sl f_4
  replace f_7 := T.sl f_7
  replace hb_8 := T.blk ne0 hb_8
  clear T; replace C := C'; clear C'
  clear D
  refine WL.val (rv_not rfl) rfl ?_
  refine WL.nilThen ?_
  refine WC.cond rfl (fun hc => ?_) (fun hc => ?_)
  · replace hp := if_t hp hc
    clear hc
    refine WC.seq ?_
    refine WC.region ?_
    replace hp := bind_inv hp
    obtain ⟨x_10, e_x_10, hp⟩ := hp
    refine WL.call (rc_func Try.call11 rfl) (ok_wirelesslaw33_exampleHolds F (Mu U0 [some b_8]) _  (C.give [0] [] (by decide) rfl rfl (by decide)) _ e_x_10) rfl ?_
    rintro v w ⟨rfl, D⟩
    obtain ⟨C', T⟩ := C.join D [0] [] (by decide) rfl rfl (by decide)
    replace C' : Ctx U0 [] w0 [some b_8] _ := C'
    replace T : TR U0 [some b_8] _ [some b_8] _ [] := T
    replace f_4 := T.sl f_4
    replace f_7 := T.sl f_7
    replace hb_8 := T.blk ne0 hb_8
    clear T; replace C := C'; clear C'
    clear D
    refine WL.val (rv_assign rfl) rfl ?_
    refine WL.nilThen ?_
    obtain rfl := some_inv' hp
    refine WC.ret (retK (rs := [.tmp 2]) (vs := [.bool x_10]) rfl ⟨rv1_tmp rfl, trivial⟩ ?_)
    have T : TR U0 [some b_8] w [] w [] := TR.pick [] rfl
    have C' : Ctx U0 [] w0 [] _ := C.pick [] (by decide) rfl
    clear T; replace C := C'; clear C'
    exact ⟨_, rfl, rfl, C⟩
  · replace hp := if_f hp hc
    clear hc
    refine WC.skipThen ?_
    refine WC.seqCut (fun a w => ∃ (z_11 : Bool), (wirelesslaw33_SduChecks_j1 F z_11 = some r) ∧ (Holds 15 [(2, .bool z_11)] a) ∧ (Ctx U0 [] w0 [] w)) ?_ ?_
    · refine WC.draw (fun w => (Blk w b_8 26 [.int .u16 c_1.Local, .int .u16 c_1.Remote, .int .u16 c_1.PSM, .int .i64 c_1.MTU, .int .i64 c_1.MPS, .int .i64 c_1.PeerMTU, .int .i64 c_1.PeerMPS, .int .i64 c_1.TxCredits, .int .i64 c_1.RxCredits, .int .i64 c_1.Given, .slice A_2 (List.length c_1.Out) k_3, .int .i64 c_1.Sent, .slice A_5 (List.length c_1.In) k_6, .int .i64 c_1.Want, .bool c_1.Failed])) MO C ?_
      rintro w C' T
      replace f_4 := T.sl f_4
      replace f_7 := T.sl f_7
      replace hb_8 := T.blk ne0 hb_8
      clear T; replace C := C'; clear C'
      refine WA.take (i := 0) (bs' := [true, false, false, false, false, false, false, false, false]) rfl (by kernel_rfl) (by kernel_rfl) (by kernel_rfl) (fun w hb_8 => rv_loadN Try.isAgg26 Try.sizeOf26 rfl hb_8 rfl rfl) hb_8 rfl rfl ?_
      refine WA.take (i := 2) (bs' := [true, false, true, false, false, false, false, false, false]) rfl (by kernel_rfl) (by kernel_rfl) (by kernel_rfl) (fun w hb_8 => rv_loadN Try.isAgg26 Try.sizeOf26 rfl hb_8 rfl rfl) hb_8 rfl rfl ?_
      refine WA.all1 (i := 1) (by kernel_rfl) ?_
      replace hp := bind_inv hp
      obtain ⟨x_12, e_x_12, hp⟩ := hp
      refine WS.call (i := 1) (bs' := [true, true, true, false, false, false, false, false, false]) rfl (rc_func Try.call28 rfl) (ok_sdu_Check F (Mu U0 [some b_8]) _ c_1 A_2 k_3 A_5 k_6 (C.give [0] [] (by decide) rfl rfl (by decide)) (f_4.mu (mu_give [0] [] rfl rfl)) (f_7.mu (mu_give [0] [] rfl rfl)) _ e_x_12) rfl rfl ?_
      rintro v w ⟨rfl, D⟩
      obtain ⟨C', T⟩ := C.join D [0] [] (by decide) rfl rfl (by decide)
      replace C' : Ctx U0 [] w0 [some b_8] _ := C'
      replace T : TR U0 [some b_8] _ [some b_8] _ [] := T
      replace f_4 := T.sl f_4
      replace f_7 := T.sl f_7
      replace hb_8 := T.blk ne0 hb_8
      clear T; replace C := C'; clear C'
      clear D
      refine ⟨hb_8, ?_⟩
      refine WA.all1 (i := 3) (by kernel_rfl) ?_
      replace hp := bind_inv hp
      obtain ⟨x_13, e_x_13, hp⟩ := hp
      refine WS.call (i := 3) (bs' := [true, true, true, true, false, false, false, false, false]) rfl (rc_func Try.call10 rfl) (ok_wirelessref33_Check F (Mu U0 [some b_8]) _ c_1 A_2 k_3 A_5 k_6 (C.give [0] [] (by decide) rfl rfl (by decide)) (f_4.mu (mu_give [0] [] rfl rfl)) (f_7.mu (mu_give [0] [] rfl rfl)) _ e_x_13) rfl rfl ?_
      rintro v w ⟨rfl, D⟩
      obtain ⟨C', T⟩ := C.join D [0] [] (by decide) rfl rfl (by decide)
      replace C' : Ctx U0 [] w0 [some b_8] _ := C'
      replace T : TR U0 [some b_8] _ [some b_8] _ [] := T
      replace f_4 := T.sl f_4
      replace f_7 := T.sl f_7
      replace hb_8 := T.blk ne0 hb_8
      clear T; replace C := C'; clear C'
      clear D
      refine ⟨hb_8, ?_⟩
      refine WA.take (i := 4) (bs' := [true, true, true, true, true, false, false, false, false]) rfl (by kernel_rfl) (by kernel_rfl) (by kernel_rfl) (fun _ _ => rv_eql rfl rfl) hb_8 rfl rfl ?_
      refine WA.take (i := 5) (bs' := [true, true, true, true, true, true, false, false, false]) rfl (by kernel_rfl) (by kernel_rfl) (by kernel_rfl) (fun _ _ => rv_move rfl) hb_8 rfl rfl ?_
      rcases Bool.eq_false_or_eq_true ((x_12 == x_13)) with hg_14 | hg_14
      · replace hp := if_t hp hg_14
        refine WA.all1 (i := 6) (by kernel_rfl) ?_
        replace hp := bind_inv hp
        obtain ⟨x_15, e_x_15, hp⟩ := hp
        refine WS.callY (i := 6) (bs' := [true, true, true, true, true, true, true, false, false]) rfl rfl rfl hg_14 (rc_func Try.call11 rfl) (ok_wirelesslaw33_exampleHolds F (Mu U0 [some b_8]) _  (C.give [0] [] (by decide) rfl rfl (by decide)) _ e_x_15) rfl rfl ?_
        rintro v w ⟨rfl, D⟩
        obtain ⟨C', T⟩ := C.join D [0] [] (by decide) rfl rfl (by decide)
        replace C' : Ctx U0 [] w0 [some b_8] _ := C'
        replace T : TR U0 [some b_8] _ [some b_8] _ [] := T
        replace f_4 := T.sl f_4
        replace f_7 := T.sl f_7
        replace hb_8 := T.blk ne0 hb_8
        clear T; replace C := C'; clear C'
        clear D
        refine ⟨hb_8, ?_⟩
        refine WA.take (i := 7) (bs' := [true, true, true, true, true, true, true, true, false]) rfl (by kernel_rfl) (by kernel_rfl) (by kernel_rfl) (fun _ _ => rv_pick_t rfl hg_14 rfl) hb_8 rfl rfl ?_
        refine WA.take (i := 8) (bs' := [true, true, true, true, true, true, true, true, true]) rfl (by kernel_rfl) (by kernel_rfl) (by kernel_rfl) (fun _ _ => rv_assign rfl) hb_8 rfl rfl ?_
        refine WA.done (by kernel_rfl) (fun a ha => ?_)
        have T : TR U0 [some b_8] w [] w [] := TR.pick [] rfl
        have C' : Ctx U0 [] w0 [] _ := C.pick [] (by decide) rfl
        clear T; replace C := C'; clear C'
        exact ⟨x_15, hp, ha.sub ⟨rfl, trivial⟩, C⟩
      · replace hp := if_f hp hg_14
        refine WA.takeN (i := 6) (bs' := [true, true, true, true, true, true, true, false, false]) rfl rfl rfl hg_14 (by kernel_rfl) (by kernel_rfl) (by kernel_rfl) hb_8 rfl rfl ?_
        refine WA.take (i := 7) (bs' := [true, true, true, true, true, true, true, true, false]) rfl (by kernel_rfl) (by kernel_rfl) (by kernel_rfl) (fun _ _ => rv_pick_f rfl hg_14 rfl) hb_8 rfl rfl ?_
        refine WA.take (i := 8) (bs' := [true, true, true, true, true, true, true, true, true]) rfl (by kernel_rfl) (by kernel_rfl) (by kernel_rfl) (fun _ _ => rv_assign rfl) hb_8 rfl rfl ?_
        refine WA.done (by kernel_rfl) (fun a ha => ?_)
        have T : TR U0 [some b_8] w [] w [] := TR.pick [] rfl
        have C' : Ctx U0 [] w0 [] _ := C.pick [] (by decide) rfl
        clear T; replace C := C'; clear C'
        exact ⟨false, hp, ha.sub ⟨rfl, trivial⟩, C⟩
    · rintro a w ⟨z_11, hp, ha, C⟩
      refine WC.ofJ (l := [(2, .bool z_11)]) ?_ ha
      obtain rfl := some_inv' hp
      refine WC.ret (retK (rs := [.tmp 2]) (vs := [.bool z_11]) rfl ⟨rv1_tmp rfl, trivial⟩ ?_)
      exact ⟨_, rfl, rfl, C⟩

theorem ok_wirelesslaw33_SduOutputs (F : Nat) (U0 : Nat → Prop) (w0 : World) (c_1 : T_api_Channel) (A_2 : Option Addr) (k_3 : Nat) (A_5 : Option Addr) (k_6 : Nat) (C : Ctx U0 [] w0 [] w0) (f_4 : Sl 1 (RSl 1 (RInt .u8)) (Mu U0 []) w0 A_2 k_3 c_1.Out) (f_7 : Sl 1 (RInt .u8) (Mu U0 []) w0 A_5 k_6 c_1.In) (r : Bool) (hp : wirelesslaw33_SduOutputs F c_1 = some r) :
    Calls Try.prog 3 #[.agg #[.int .u16 c_1.Local, .int .u16 c_1.Remote, .int .u16 c_1.PSM, .int .i64 c_1.MTU, .int .i64 c_1.MPS, .int .i64 c_1.PeerMTU, .int .i64 c_1.PeerMPS, .int .i64 c_1.TxCredits, .int .i64 c_1.RxCredits, .int .i64 c_1.Given, .slice A_2 (List.length c_1.Out) k_3, .int .i64 c_1.Sent, .slice A_5 (List.length c_1.In) k_6, .int .i64 c_1.Want, .bool c_1.Failed]] w0 fun e w => ∃ v, e = .returned v ∧ (v = .bool r) ∧ (Ctx U0 [] w0 [] w) := by
  refine calls_enter (vs := [.agg #[.int .u16 c_1.Local, .int .u16 c_1.Remote, .int .u16 c_1.PSM, .int .i64 c_1.MTU, .int .i64 c_1.MPS, .int .i64 c_1.PeerMTU, .int .i64 c_1.PeerMPS, .int .i64 c_1.TxCredits, .int .i64 c_1.RxCredits, .int .i64 c_1.Given, .slice A_2 (List.length c_1.Out) k_3, .int .i64 c_1.Sent, .slice A_5 (List.length c_1.In) k_6, .int .i64 c_1.Want, .bool c_1.Failed]]) Try.func3 rfl Try.ntmps3 rfl ?_
  refine WC.prune (l' := [(0, .agg #[.int .u16 c_1.Local, .int .u16 c_1.Remote, .int .u16 c_1.PSM, .int .i64 c_1.MTU, .int .i64 c_1.MPS, .int .i64 c_1.PeerMTU, .int .i64 c_1.PeerMPS, .int .i64 c_1.TxCredits, .int .i64 c_1.RxCredits, .int .i64 c_1.Given, .slice A_2 (List.length c_1.Out) k_3, .int .i64 c_1.Sent, .slice A_5 (List.length c_1.In) k_6, .int .i64 c_1.Want, .bool c_1.Failed])]) ⟨rfl, trivial⟩ ?_
  skip
  refine WC.seq ?_
  refine WC.region ?_
  refine WL.world (rw_box rfl rfl C) rfl ?_
  rintro v w ⟨b_8, rfl, hb_8, C', T⟩
  replace C' : Ctx U0 [] w0 [some b_8] _ := C'
  replace T : TR U0 [] _ [some b_8] _ [] := T
  replace hb_8 : Blk _ b_8 26 [.int .u16 c_1.Local, .int .u16 c_1.Remote, .int .u16 c_1.PSM, .int .i64 c_1.MTU, .int .i64 c_1.MPS, .int .i64 c_1.PeerMTU, .int .i64 c_1.PeerMPS, .int .i64 c_1.TxCredits, .int .i64 c_1.RxCredits, .int .i64 c_1.Given, .slice A_2 (List.length c_1.Out) k_3, .int .i64 c_1.Sent, .slice A_5 (List.length c_1.In) k_6, .int .i64 c_1.Want, .bool c_1.Failed] := hb_8
  replace f_4 := T.sl f_4
  replace f_7 := T.sl f_7
  clear T; replace C := C'; clear C'
  refine WL.val (rv_assign rfl) rfl ?_
  refine WL.nilThen ?_
  refine WC.seq ?_
  refine WC.seq ?_
  refine WC.region ?_
  refine WL.val (rv_loadN Try.isAgg26 Try.sizeOf26 rfl hb_8 rfl rfl) rfl ?_
  replace hp := bind_inv hp
  obtain ⟨x_9, e_x_9, hp⟩ := hp
  refine WL.call (rc_func Try.call9 rfl) (ok_wirelesslaw33_light F (Mu U0 [some b_8]) _ c_1 A_2 k_3 A_5 k_6 (C.give [0] [] (by decide) rfl rfl (by decide)) (f_4.mu (mu_give [0] [] rfl rfl)) (f_7.mu (mu_give [0] [] rfl rfl)) _ e_x_9) rfl ?_
  rintro v w ⟨rfl, D⟩
  obtain ⟨C', T⟩ := C.join D [0] [] (by decide) rfl rfl (by decide)
  replace C' : Ctx U0 [] w0 [some b_8] _ := C'
  replace T : TR U0 [some b_8] _ [some b_8] _ [] := T
  replace f_4 := T.sl f_4
  replace f_7 := T.sl f_7
  replace hb_8 := T.blk ne0 hb_8
  clear T; replace C := C'; clear C'
  clear D
  refine WL.val (rv_not rfl) rfl ?_
  refine WL.val (rv_move rfl) rfl ?_
  obtain ⟨z_11, hz, hpr⟩ := bind_inv hp
  clear hp
  refine WL.cutAt 4 (fun a w => (True) ∧ (Holds 42 [(1, .pointer (some ⟨b_8, 0, none⟩)), (14, .bool z_11)] a) ∧ (Ctx U0 [] w0 [some b_8] w) ∧ (Sl 1 (RSl 1 (RInt .u8)) (Mu U0 [some b_8]) w A_2 k_3 c_1.Out) ∧ (Sl 1 (RInt .u8) (Mu U0 [some b_8]) w A_5 k_6 c_1.In) ∧ (Blk w b_8 26 [.int .u16 c_1.Local, .int .u16 c_1.Remote, .int .u16 c_1.PSM, .int .i64 c_1.MTU, .int .i64 c_1.MPS, .int .i64 c_1.PeerMTU, .int .i64 c_1.PeerMPS, .int .i64 c_1.TxCredits, .int .i64 c_1.RxCredits, .int .i64 c_1.Given, .slice A_2 (List.length c_1.Out) k_3, .int .i64 c_1.Sent, .slice A_5 (List.length c_1.In) k_6, .int .i64 c_1.Want, .bool c_1.Failed])) ?_ ?_
  · have hp := hz
    rcases Bool.eq_false_or_eq_true ((!x_9)) with hg_10 | hg_10
    · replace hp := if_t hp hg_10
      refine WL.no rfl rfl hg_10 rfl ?_
      refine WL.no rfl rfl hg_10 rfl ?_
      refine WL.no rfl rfl hg_10 rfl ?_
      refine WL.val (rv_pick_t rfl hg_10 rfl) rfl ?_
      refine WL.nil (fun a ha => ?_)
      obtain rfl := some_inv' hp
      exact ⟨trivial, ha.sub ⟨rfl, rfl, trivial⟩, C, f_4, f_7, hb_8⟩
    · replace hp := if_f hp hg_10
      refine WL.yes rfl rfl hg_10 ?_
      refine WL.val (rv_loadN Try.isAgg26 Try.sizeOf26 rfl hb_8 rfl rfl) rfl ?_
      replace hp := bind_inv hp
      obtain ⟨x_49, e_x_49, hp⟩ := hp
      refine WL.yes rfl rfl hg_10 ?_
      refine WL.call (rc_func Try.call10 rfl) (ok_wirelessref33_Check F (Mu U0 [some b_8]) _ c_1 A_2 k_3 A_5 k_6 (C.give [0] [] (by decide) rfl rfl (by decide)) (f_4.mu (mu_give [0] [] rfl rfl)) (f_7.mu (mu_give [0] [] rfl rfl)) _ e_x_49) rfl ?_
      rintro v w ⟨rfl, D⟩
      obtain ⟨C', T⟩ := C.join D [0] [] (by decide) rfl rfl (by decide)
      replace C' : Ctx U0 [] w0 [some b_8] _ := C'
      replace T : TR U0 [some b_8] _ [some b_8] _ [] := T
      replace f_4 := T.sl f_4
      replace f_7 := T.sl f_7
      replace hb_8 := T.blk ne0 hb_8
      clear T; replace C := C'; clear C'
      clear D
      refine WL.yes rfl rfl hg_10 ?_
      refine WL.val (rv_neq rfl rfl) rfl ?_
      refine WL.val (rv_pick_f rfl hg_10 rfl) rfl ?_
      refine WL.nil (fun a ha => ?_)
      obtain rfl := some_inv' hp
      exact ⟨trivial, ha.sub ⟨rfl, rfl, trivial⟩, C, f_4, f_7, hb_8⟩
  · rintro a w ⟨hp, ha, C, f_4, f_7, hb_8⟩
    have hp := hpr; clear hpr hz
    refine WL.ofJ (l := [(1, .pointer (some ⟨b_8, 0, none⟩)), (14, .bool z_11)]) ?_ ha
    refine WL.nilThen ?_
    refine WC.cond rfl (fun hc => ?_) (fun hc => ?_)
    · replace hp := if_t hp hc
      clear hc
      refine WC.seq ?_
      refine WC.region ?_
      replace hp := bind_inv hp
      obtain ⟨x_12, e_x_12, hp⟩ := hp
      refine WL.call (rc_func Try.call11 rfl) (ok_wirelesslaw33_exampleHolds F (Mu U0 [some b_8]) _  (C.give [0] [] (by decide) rfl rfl (by decide)) _ e_x_12) rfl ?_
      rintro v w ⟨rfl, D⟩
      obtain ⟨C', T⟩ := C.join D [0] [] (by decide) rfl rfl (by decide)
      replace C' : Ctx U0 [] w0 [some b_8] _ := C'
      replace T : TR U0 [some b_8] _ [some b_8] _ [] := T
      replace f_4 := T.sl f_4
      replace f_7 := T.sl f_7
      replace hb_8 := T.blk ne0 hb_8
      clear T; replace C := C'; clear C'
      clear D
      refine WL.val (rv_assign rfl) rfl ?_
      refine WL.nilThen ?_
      obtain rfl := some_inv' hp
      refine WC.ret (retK (rs := [.tmp 2]) (vs := [.bool x_12]) rfl ⟨rv1_tmp rfl, trivial⟩ ?_)
      have T : TR U0 [some b_8] w [] w [] := TR.pick [] rfl
      have C' : Ctx U0 [] w0 [] _ := C.pick [] (by decide) rfl
      clear T; replace C := C'; clear C'
      exact ⟨_, rfl, rfl, C⟩
    · replace hp := if_f hp hc
      clear hc
      refine WC.skipThen ?_
      refine WC.seq ?_
      refine WC.region ?_
      refine WL.val (rv_loadN Try.isAgg26 Try.sizeOf26 rfl hb_8 rfl rfl) rfl ?_
      replace hp := bind_inv hp
      obtain ⟨x_13, e_x_13, hp⟩ := hp
      refine WL.call (rc_func Try.call12 rfl) (ok_sdu_Output F (Mu U0 [some b_8]) _ c_1 A_2 k_3 A_5 k_6 (C.give [0] [] (by decide) rfl rfl (by decide)) (f_4.mu (mu_give [0] [] rfl rfl)) (f_7.mu (mu_give [0] [] rfl rfl)) _ e_x_13) rfl ?_
      rintro v w ⟨A_14, k_15, A_17, k_18, A_20, k_21, rfl, D, f_16, f_19, f_22⟩
      obtain ⟨C', T⟩ := C.join D [0] [] (by decide) rfl rfl (by decide)
      replace C' : Ctx U0 [] w0 [some b_8] _ := C'
      replace T : TR U0 [some b_8] _ [some b_8] _ [] := T
      replace f_16 : Sl 1 (RSl 1 (RInt .u8)) (Mu U0 [some b_8]) _ A_14 k_15 x_13.1.Out := f_16.mu (mu_join (R := []) (L2 := [some b_8]) (fun b h => h))
      replace f_19 : Sl 1 (RInt .u8) (Mu U0 [some b_8]) _ A_17 k_18 x_13.1.In := f_19.mu (mu_join (R := []) (L2 := [some b_8]) (fun b h => h))
      replace f_22 : Sl 1 (RSl 1 (RInt .u8)) (Mu U0 [some b_8]) _ A_20 k_21 x_13.2 := f_22.mu (mu_join (R := []) (L2 := [some b_8]) (fun b h => h))
      replace f_4 := T.sl f_4
      replace f_7 := T.sl f_7
      replace hb_8 := T.blk ne0 hb_8
      clear T; replace C := C'; clear C'
      clear D
      refine WL.val (rv_move rfl) rfl ?_
      refine WL.val (rv_extract rfl rfl) rfl ?_
      refine WL.val (rv_extract rfl rfl) rfl ?_
      refine WL.world (rw_alloc Try.zeroValue26 rfl C) rfl ?_
      rintro v w ⟨b_23, rfl, hb_23, C', T⟩
      replace C' : Ctx U0 [] w0 [some b_23, some b_8] _ := C'
      replace T : TR U0 [some b_8] _ [some b_23, some b_8] _ [] := T
      replace hb_23 : Blk _ b_23 26 [.int .u16 0, .int .u16 0, .int .u16 0, .int .i64 0, .int .i64 0, .int .i64 0, .int .i64 0, .int .i64 0, .int .i64 0, .int .i64 0, .slice none 0 0, .int .i64 0, .slice none 0 0, .int .i64 0, .bool false] := hb_23
      replace f_4 := T.sl f_4
      replace f_7 := T.sl f_7
      replace f_16 := T.sl f_16
      replace f_19 := T.sl f_19
      replace f_22 := T.sl f_22
      replace hb_8 := T.blk ne0 hb_8
      clear T; replace C := C'; clear C'
      refine WL.storeK (rs_store (i := 0) (cs' := [.int .u16 x_13.1.Local, .int .u16 x_13.1.Remote, .int .u16 x_13.1.PSM, .int .i64 x_13.1.MTU, .int .i64 x_13.1.MPS, .int .i64 x_13.1.PeerMTU, .int .i64 x_13.1.PeerMPS, .int .i64 x_13.1.TxCredits, .int .i64 x_13.1.RxCredits, .int .i64 x_13.1.Given, .slice A_14 (List.length x_13.1.Out) k_15, .int .i64 x_13.1.Sent, .slice A_17 (List.length x_13.1.In) k_18, .int .i64 x_13.1.Want, .bool x_13.1.Failed]) Try.sizeOf26 rfl rfl rfl rfl rfl hb_23 rfl C rfl rfl) ?_
      rintro w ⟨hb_23, C', T⟩
      replace f_4 := T.sl f_4
      replace f_7 := T.sl f_7
      replace f_16 := T.sl f_16
      replace f_19 := T.sl f_19
      replace f_22 := T.sl f_22
      replace hb_8 := T.blk (C.ne (i := 1) rfl [0] rfl (by decide)) hb_8
      clear T; replace C := C'; clear C'
      refine WL.val (rv_assign rfl) rfl ?_
      refine WL.nilThen ?_
      refine WC.seq ?_
      refine WC.region ?_
      refine WL.val (rv_loadN Try.isAgg26 Try.sizeOf26 rfl hb_8 rfl rfl) rfl ?_
      replace hp := bind_inv hp
      obtain ⟨x_24, e_x_24, hp⟩ := hp
      refine WL.call (rc_func Try.call13 rfl) (ok_wirelessref33_Output F (Mu U0 [some b_23, some b_8]) _ c_1 A_2 k_3 A_5 k_6 (C.give [0, 1] [] (by decide) rfl rfl (by decide)) (f_4.mu (mu_give [0, 1] [] rfl rfl)) (f_7.mu (mu_give [0, 1] [] rfl rfl)) _ e_x_24) rfl ?_
      rintro v w ⟨A_25, k_26, A_28, k_29, A_31, k_32, rfl, D, f_27, f_30, f_33⟩
      obtain ⟨C', T⟩ := C.join D [0, 1] [] (by decide) rfl rfl (by decide)
      replace C' : Ctx U0 [] w0 [some b_23, some b_8] _ := C'
      replace T : TR U0 [some b_23, some b_8] _ [some b_23, some b_8] _ [] := T
      replace f_27 : Sl 1 (RSl 1 (RInt .u8)) (Mu U0 [some b_23, some b_8]) _ A_25 k_26 x_24.1.Out := f_27.mu (mu_join (R := []) (L2 := [some b_23, some b_8]) (fun b h => h))
      replace f_30 : Sl 1 (RInt .u8) (Mu U0 [some b_23, some b_8]) _ A_28 k_29 x_24.1.In := f_30.mu (mu_join (R := []) (L2 := [some b_23, some b_8]) (fun b h => h))
      replace f_33 : Sl 1 (RSl 1 (RInt .u8)) (Mu U0 [some b_23, some b_8]) _ A_31 k_32 x_24.2 := f_33.mu (mu_join (R := []) (L2 := [some b_23, some b_8]) (fun b h => h))
      replace f_4 := T.sl f_4
      replace f_7 := T.sl f_7
      replace f_16 := T.sl f_16
      replace f_19 := T.sl f_19
      replace f_22 := T.sl f_22
      replace hb_8 := T.blk ne0 hb_8
      replace hb_23 := T.blk ne0 hb_23
      clear T; replace C := C'; clear C'
      clear D
      refine WL.val (rv_move rfl) rfl ?_
      refine WL.val (rv_extract rfl rfl) rfl ?_
      refine WL.val (rv_extract rfl rfl) rfl ?_
      refine WL.world (rw_alloc Try.zeroValue26 rfl C) rfl ?_
      rintro v w ⟨b_34, rfl, hb_34, C', T⟩
      replace C' : Ctx U0 [] w0 [some b_34, some b_23, some b_8] _ := C'
      replace T : TR U0 [some b_23, some b_8] _ [some b_34, some b_23, some b_8] _ [] := T
      replace hb_34 : Blk _ b_34 26 [.int .u16 0, .int .u16 0, .int .u16 0, .int .i64 0, .int .i64 0, .int .i64 0, .int .i64 0, .int .i64 0, .int .i64 0, .int .i64 0, .slice none 0 0, .int .i64 0, .slice none 0 0, .int .i64 0, .bool false] := hb_34
      replace f_4 := T.sl f_4
      replace f_7 := T.sl f_7
      replace f_16 := T.sl f_16
      replace f_19 := T.sl f_19
      replace f_22 := T.sl f_22
      replace f_27 := T.sl f_27
      replace f_30 := T.sl f_30
      replace f_33 := T.sl f_33
      replace hb_8 := T.blk ne0 hb_8
      replace hb_23 := T.blk ne0 hb_23
      clear T; replace C := C'; clear C'
      refine WL.storeK (rs_store (i := 0) (cs' := [.int .u16 x_24.1.Local, .int .u16 x_24.1.Remote, .int .u16 x_24.1.PSM, .int .i64 x_24.1.MTU, .int .i64 x_24.1.MPS, .int .i64 x_24.1.PeerMTU, .int .i64 x_24.1.PeerMPS, .int .i64 x_24.1.TxCredits, .int .i64 x_24.1.RxCredits, .int .i64 x_24.1.Given, .slice A_25 (List.length x_24.1.Out) k_26, .int .i64 x_24.1.Sent, .slice A_28 (List.length x_24.1.In) k_29, .int .i64 x_24.1.Want, .bool x_24.1.Failed]) Try.sizeOf26 rfl rfl rfl rfl rfl hb_34 rfl C rfl rfl) ?_
      rintro w ⟨hb_34, C', T⟩
      replace f_4 := T.sl f_4
      replace f_7 := T.sl f_7
      replace f_16 := T.sl f_16
      replace f_19 := T.sl f_19
      replace f_22 := T.sl f_22
      replace f_27 := T.sl f_27
      replace f_30 := T.sl f_30
      replace f_33 := T.sl f_33
      replace hb_8 := T.blk (C.ne (i := 2) rfl [0] rfl (by decide)) hb_8
      replace hb_23 := T.blk (C.ne (i := 1) rfl [0] rfl (by decide)) hb_23
      clear T; replace C := C'; clear C'
      refine WL.val (rv_assign rfl) rfl ?_
      refine WL.nilThen ?_
      refine WC.seq ?_
      refine WC.region ?_
      refine WL.val (rv_loadN Try.isAgg26 Try.sizeOf26 rfl hb_23 rfl rfl) rfl ?_
      refine WL.val (rv_loadN Try.isAgg26 Try.sizeOf26 rfl hb_34 rfl rfl) rfl ?_
      replace hp := bind_inv hp
      obtain ⟨x_35, e_x_35, hp⟩ := hp
      refine WL.call (rc_func Try.call14 rfl) (ok_wirelessref33_SameChannel F (Mu U0 [some b_34, some b_23, some b_8]) _ x_13.1 x_24.1 A_14 k_15 A_17 k_18 A_25 k_26 A_28 k_29 (C.give [0, 1, 2] [] (by decide) rfl rfl (by decide)) (f_16.mu (mu_give [0, 1, 2] [] rfl rfl)) (f_19.mu (mu_give [0, 1, 2] [] rfl rfl)) (f_27.mu (mu_give [0, 1, 2] [] rfl rfl)) (f_30.mu (mu_give [0, 1, 2] [] rfl rfl)) _ e_x_35) rfl ?_
      rintro v w ⟨rfl, D⟩
      obtain ⟨C', T⟩ := C.join D [0, 1, 2] [] (by decide) rfl rfl (by decide)
      replace C' : Ctx U0 [] w0 [some b_34, some b_23, some b_8] _ := C'
      replace T : TR U0 [some b_34, some b_23, some b_8] _ [some b_34, some b_23, some b_8] _ [] := T
      replace f_16 := T.sl f_16
      replace f_19 := T.sl f_19
      replace f_22 := T.sl f_22
      replace f_27 := T.sl f_27
      replace f_30 := T.sl f_30
      replace f_33 := T.sl f_33
      replace hb_23 := T.blk ne0 hb_23
      replace hb_34 := T.blk ne0 hb_34
      clear T; replace C := C'; clear C'
      clear D
      refine WL.val (rv_move rfl) rfl ?_
      obtain ⟨z_37, hz, hpr⟩ := bind_inv hp
      clear hp
      refine WL.cutAt 4 (fun a w => (True) ∧ (Holds 42 [(3, .pointer (some ⟨b_23, 0, none⟩)), (33, .bool z_37)] a) ∧ (Ctx U0 [] w0 [some b_23] w) ∧ (Sl 1 (RSl 1 (RInt .u8)) (Mu U0 [some b_23]) w A_14 k_15 x_13.1.Out) ∧ (Sl 1 (RInt .u8) (Mu U0 [some b_23]) w A_17 k_18 x_13.1.In) ∧ (Blk w b_23 26 [.int .u16 x_13.1.Local, .int .u16 x_13.1.Remote, .int .u16 x_13.1.PSM, .int .i64 x_13.1.MTU, .int .i64 x_13.1.MPS, .int .i64 x_13.1.PeerMTU, .int .i64 x_13.1.PeerMPS, .int .i64 x_13.1.TxCredits, .int .i64 x_13.1.RxCredits, .int .i64 x_13.1.Given, .slice A_14 (List.length x_13.1.Out) k_15, .int .i64 x_13.1.Sent, .slice A_17 (List.length x_13.1.In) k_18, .int .i64 x_13.1.Want, .bool x_13.1.Failed])) ?_ ?_
      · have hp := hz
        rcases Bool.eq_false_or_eq_true (x_35) with hg_36 | hg_36
        · replace hp := if_t hp hg_36
          refine WL.yes rfl rfl hg_36 ?_
          refine WL.val (rv_move rfl) rfl ?_
          refine WL.yes rfl rfl hg_36 ?_
          refine WL.val (rv_move rfl) rfl ?_
          replace hp := bind_inv hp
          obtain ⟨x_47, e_x_47, hp⟩ := hp
          refine WL.yes rfl rfl hg_36 ?_
          refine WL.call (rc_func Try.call15 rfl) (ok_wirelessref33_SameLists F (Mu U0 [some b_34, some b_23, some b_8]) _ x_13.2 x_24.2 A_20 k_21 A_31 k_32 (C.give [0, 1, 2] [] (by decide) rfl rfl (by decide)) (f_22.mu (mu_give [0, 1, 2] [] rfl rfl)) (f_33.mu (mu_give [0, 1, 2] [] rfl rfl)) _ e_x_47) rfl ?_
          rintro v w ⟨rfl, D⟩
          obtain ⟨C', T⟩ := C.join D [0, 1, 2] [] (by decide) rfl rfl (by decide)
          replace C' : Ctx U0 [] w0 [some b_34, some b_23, some b_8] _ := C'
          replace T : TR U0 [some b_34, some b_23, some b_8] _ [some b_34, some b_23, some b_8] _ [] := T
          replace f_16 := T.sl f_16
          replace f_19 := T.sl f_19
          replace f_22 := T.sl f_22
          replace f_27 := T.sl f_27
          replace f_30 := T.sl f_30
          replace f_33 := T.sl f_33
          replace hb_23 := T.blk ne0 hb_23
          replace hb_34 := T.blk ne0 hb_34
          clear T; replace C := C'; clear C'
          clear D
          refine WL.val (rv_pick_t rfl hg_36 rfl) rfl ?_
          refine WL.nil (fun a ha => ?_)
          obtain rfl := some_inv' hp
          have T : TR U0 [some b_34, some b_23, some b_8] w [some b_23] w [] := TR.pick [1] rfl
          have C' : Ctx U0 [] w0 [some b_23] _ := C.pick [1] (by decide) rfl
          replace f_16 := T.sl f_16
          replace f_19 := T.sl f_19
          replace hb_23 := T.blk ne0 hb_23
          clear T; replace C := C'; clear C'
          exact ⟨trivial, ha.sub ⟨rfl, rfl, trivial⟩, C, f_16, f_19, hb_23⟩
        · replace hp := if_f hp hg_36
          refine WL.no rfl rfl hg_36 rfl ?_
          refine WL.no rfl rfl hg_36 rfl ?_
          refine WL.no rfl rfl hg_36 rfl ?_
          refine WL.val (rv_pick_f rfl hg_36 rfl) rfl ?_
          refine WL.nil (fun a ha => ?_)
          obtain rfl := some_inv' hp
          have T : TR U0 [some b_34, some b_23, some b_8] w [some b_23] w [] := TR.pick [1] rfl
          have C' : Ctx U0 [] w0 [some b_23] _ := C.pick [1] (by decide) rfl
          replace f_16 := T.sl f_16
          replace f_19 := T.sl f_19
          replace hb_23 := T.blk ne0 hb_23
          clear T; replace C := C'; clear C'
          exact ⟨trivial, ha.sub ⟨rfl, rfl, trivial⟩, C, f_16, f_19, hb_23⟩
      · rintro a w ⟨hp, ha, C, f_16, f_19, hb_23⟩
        have hp := hpr; clear hpr hz
        refine WL.ofJ (l := [(3, .pointer (some ⟨b_23, 0, none⟩)), (33, .bool z_37)]) ?_ ha
        refine WL.val (rv_move rfl) rfl ?_
        obtain ⟨z_39, hz, hpr⟩ := bind_inv hp
        clear hp
        refine WL.cutAt 4 (fun a w => (True) ∧ (Holds 42 [(38, .bool z_39)] a) ∧ (Ctx U0 [] w0 [] w)) ?_ ?_
        · have hp := hz
          rcases Bool.eq_false_or_eq_true (z_37) with hg_38 | hg_38
          · replace hp := if_t hp hg_38
            refine WL.yes rfl rfl hg_38 ?_
            refine WL.val (rv_loadN Try.isAgg26 Try.sizeOf26 rfl hb_23 rfl rfl) rfl ?_
            replace hp := bind_inv hp
            obtain ⟨x_45, e_x_45, hp⟩ := hp
            refine WL.yes rfl rfl hg_38 ?_
            refine WL.call (rc_func Try.call10 rfl) (ok_wirelessref33_Check F (Mu U0 [some b_23]) _ x_13.1 A_14 k_15 A_17 k_18 (C.give [0] [] (by decide) rfl rfl (by decide)) (f_16.mu (mu_give [0] [] rfl rfl)) (f_19.mu (mu_give [0] [] rfl rfl)) _ e_x_45) rfl ?_
            rintro v w ⟨rfl, D⟩
            obtain ⟨C', T⟩ := C.join D [0] [] (by decide) rfl rfl (by decide)
            replace C' : Ctx U0 [] w0 [some b_23] _ := C'
            replace T : TR U0 [some b_23] _ [some b_23] _ [] := T
            replace f_16 := T.sl f_16
            replace f_19 := T.sl f_19
            replace hb_23 := T.blk ne0 hb_23
            clear T; replace C := C'; clear C'
            clear D
            refine WL.yes rfl rfl hg_38 ?_
            refine WL.val (rv_eql rfl rfl) rfl ?_
            refine WL.val (rv_pick_t rfl hg_38 rfl) rfl ?_
            refine WL.nil (fun a ha => ?_)
            obtain rfl := some_inv' hp
            have T : TR U0 [some b_23] w [] w [] := TR.pick [] rfl
            have C' : Ctx U0 [] w0 [] _ := C.pick [] (by decide) rfl
            clear T; replace C := C'; clear C'
            exact ⟨trivial, ha.sub ⟨rfl, trivial⟩, C⟩
          · replace hp := if_f hp hg_38
            refine WL.no rfl rfl hg_38 rfl ?_
            refine WL.no rfl rfl hg_38 rfl ?_
            refine WL.no rfl rfl hg_38 rfl ?_
            refine WL.val (rv_pick_f rfl hg_38 rfl) rfl ?_
            refine WL.nil (fun a ha => ?_)
            obtain rfl := some_inv' hp
            have T : TR U0 [some b_23] w [] w [] := TR.pick [] rfl
            have C' : Ctx U0 [] w0 [] _ := C.pick [] (by decide) rfl
            clear T; replace C := C'; clear C'
            exact ⟨trivial, ha.sub ⟨rfl, trivial⟩, C⟩
        · rintro a w ⟨hp, ha, C⟩
          have hp := hpr; clear hpr hz
          refine WL.ofJ (l := [(38, .bool z_39)]) ?_ ha
          refine WL.val (rv_move rfl) rfl ?_
          obtain ⟨z_41, hz, hpr⟩ := bind_inv hp
          clear hp
          refine WL.cutAt 2 (fun a w => (True) ∧ (Holds 42 [(41, .bool z_41)] a) ∧ (Ctx U0 [] w0 [] w)) ?_ ?_
          · have hp := hz
            rcases Bool.eq_false_or_eq_true (z_39) with hg_40 | hg_40
            · replace hp := if_t hp hg_40
              replace hp := bind_inv hp
              obtain ⟨x_43, e_x_43, hp⟩ := hp
              refine WL.yes rfl rfl hg_40 ?_
              refine WL.call (rc_func Try.call11 rfl) (ok_wirelesslaw33_exampleHolds F (Mu U0 []) _  (C.give [] [] (by decide) rfl rfl (by decide)) _ e_x_43) rfl ?_
              rintro v w ⟨rfl, D⟩
              obtain ⟨C', T⟩ := C.join D [] [] (by decide) rfl rfl (by decide)
              replace C' : Ctx U0 [] w0 [] _ := C'
              replace T : TR U0 [] _ [] _ [] := T
              clear T; replace C := C'; clear C'
              clear D
              refine WL.val (rv_pick_t rfl hg_40 rfl) rfl ?_
              refine WL.nil (fun a ha => ?_)
              obtain rfl := some_inv' hp
              exact ⟨trivial, ha.sub ⟨rfl, trivial⟩, C⟩
            · replace hp := if_f hp hg_40
              refine WL.no rfl rfl hg_40 rfl ?_
              refine WL.val (rv_pick_f rfl hg_40 rfl) rfl ?_
              refine WL.nil (fun a ha => ?_)
              obtain rfl := some_inv' hp
              exact ⟨trivial, ha.sub ⟨rfl, trivial⟩, C⟩
          · rintro a w ⟨hp, ha, C⟩
            have hp := hpr; clear hpr hz
            refine WL.ofJ (l := [(41, .bool z_41)]) ?_ ha
            refine WL.val (rv_assign rfl) rfl ?_
            refine WL.nilThen ?_
            obtain rfl := some_inv' hp
            refine WC.ret (retK (rs := [.tmp 2]) (vs := [.bool z_41]) rfl ⟨rv1_tmp rfl, trivial⟩ ?_)
            exact ⟨_, rfl, rfl, C⟩
end V
end Go.Proofs.Ytfdiabglpgkbeaa
