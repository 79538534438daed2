/-
  Walks, written by program: each Go function returns what its pure twin says.
-/
import Derived.Test.YtfdiabglpgkbeaaW1
namespace Go.Proofs.Ytfdiabglpgkbeaa
namespace V
theorem ok_wirelessref33_Output (F : Nat) (U0 : Nat → Prop) (w0 : World) (c_1 : T_api_Channel) (A_2 : Option Addr) (k_3 : Nat) (A_5 : Option Addr) (k_6 : Nat) (C : Ctx U0 [] w0 [] w0) (f_4 : Sl 1 (RSl 1 (RInt .u8)) (Mu U0 []) w0 A_2 k_3 c_1.Out) (f_7 : Sl 1 (RInt .u8) (Mu U0 []) w0 A_5 k_6 c_1.In) (r : T_api_Channel × (List (List Int))) (hp : wirelessref33_Output F c_1 = some r) :
    Calls Try.prog 13 #[.agg #[.int .u16 c_1.Local, .int .u16 c_1.Remote, .int .u16 c_1.PSM, .int .i64 c_1.MTU, .int .i64 c_1.MPS, .int .i64 c_1.PeerMTU, .int .i64 c_1.PeerMPS, .int .i64 c_1.TxCredits, .int .i64 c_1.RxCredits, .int .i64 c_1.Given, .slice A_2 (List.length c_1.Out) k_3, .int .i64 c_1.Sent, .slice A_5 (List.length c_1.In) k_6, .int .i64 c_1.Want, .bool c_1.Failed]] w0 fun e w => ∃ v, e = .returned v ∧ ∃ (A_85 : Option Addr) (k_86 : Nat) (A_88 : Option Addr) (k_89 : Nat) (A_91 : Option Addr) (k_92 : Nat), (v = .tuple #[.agg #[.int .u16 r.1.Local, .int .u16 r.1.Remote, .int .u16 r.1.PSM, .int .i64 r.1.MTU, .int .i64 r.1.MPS, .int .i64 r.1.PeerMTU, .int .i64 r.1.PeerMPS, .int .i64 r.1.TxCredits, .int .i64 r.1.RxCredits, .int .i64 r.1.Given, .slice A_85 (List.length r.1.Out) k_86, .int .i64 r.1.Sent, .slice A_88 (List.length r.1.In) k_89, .int .i64 r.1.Want, .bool r.1.Failed], .slice A_91 (List.length r.2) k_92]) ∧ (Ctx U0 [] w0 [] w) ∧ (Sl 1 (RSl 1 (RInt .u8)) (Mu U0 []) w A_85 k_86 r.1.Out) ∧ (Sl 1 (RInt .u8) (Mu U0 []) w A_88 k_89 r.1.In) ∧ (Sl 1 (RSl 1 (RInt .u8)) (Mu U0 []) w A_91 k_92 r.2) := by
  refine calls_enter (vs := [.agg #[.int .u16 c_1.Local, .int .u16 c_1.Remote, .int .u16 c_1.PSM, .int .i64 c_1.MTU, .int .i64 c_1.MPS, .int .i64 c_1.PeerMTU, .int .i64 c_1.PeerMPS, .int .i64 c_1.TxCredits, .int .i64 c_1.RxCredits, .int .i64 c_1.Given, .slice A_2 (List.length c_1.Out) k_3, .int .i64 c_1.Sent, .slice A_5 (List.length c_1.In) k_6, .int .i64 c_1.Want, .bool c_1.Failed]]) Try.func13 rfl Try.ntmps13 rfl ?_
  refine WC.prune (l' := [(0, .agg #[.int .u16 c_1.Local, .int .u16 c_1.Remote, .int .u16 c_1.PSM, .int .i64 c_1.MTU, .int .i64 c_1.MPS, .int .i64 c_1.PeerMTU, .int .i64 c_1.PeerMPS, .int .i64 c_1.TxCredits, .int .i64 c_1.RxCredits, .int .i64 c_1.Given, .slice A_2 (List.length c_1.Out) k_3, .int .i64 c_1.Sent, .slice A_5 (List.length c_1.In) k_6, .int .i64 c_1.Want, .bool c_1.Failed])]) ⟨rfl, trivial⟩ ?_
  skip
  refine WC.seq ?_
  refine WC.region ?_
  refine WL.world (rw_box rfl rfl C) rfl ?_
  rintro v w ⟨b_8, rfl, hb_8, C', T⟩
  replace C' : Ctx U0 [] w0 [some b_8] _ := C'
  replace T : TR U0 [] _ [some b_8] _ [] := T
  replace hb_8 : Blk _ b_8 26 [.int .u16 c_1.Local, .int .u16 c_1.Remote, .int .u16 c_1.PSM, .int .i64 c_1.MTU, .int .i64 c_1.MPS, .int .i64 c_1.PeerMTU, .int .i64 c_1.PeerMPS, .int .i64 c_1.TxCredits, .int .i64 c_1.RxCredits, .int .i64 c_1.Given, .slice A_2 (List.length c_1.Out) k_3, .int .i64 c_1.Sent, .slice A_5 (List.length c_1.In) k_6, .int .i64 c_1.Want, .bool c_1.Failed] := hb_8
  replace f_4 := T.sl f_4
  replace f_7 := T.sl f_7
  clear T; replace C := C'; clear C'
  refine WL.world (rw_alloc Try.zeroValue26 rfl C) rfl ?_
  rintro v w ⟨b_9, rfl, hb_9, C', T⟩
  replace C' : Ctx U0 [] w0 [some b_9, some b_8] _ := C'
  replace T : TR U0 [some b_8] _ [some b_9, some b_8] _ [] := T
  replace hb_9 : Blk _ b_9 26 [.int .u16 0, .int .u16 0, .int .u16 0, .int .i64 0, .int .i64 0, .int .i64 0, .int .i64 0, .int .i64 0, .int .i64 0, .int .i64 0, .slice none 0 0, .int .i64 0, .slice none 0 0, .int .i64 0, .bool false] := hb_9
  replace f_4 := T.sl f_4
  replace f_7 := T.sl f_7
  replace hb_8 := T.blk ne0 hb_8
  clear T; replace C := C'; clear C'
  refine WL.val (rv_assign rfl) rfl ?_
  refine WL.nilThen ?_
  refine WC.seq ?_
  refine WC.region ?_
  refine WL.val (rv_assign rfl) rfl ?_
  refine WL.nilThen ?_
  refine WC.seqCut (fun a w => ∃ (c_21 : T_api_Channel) (l_16 : (List (List Int))) (A_12 : Option Addr) (k_13 : Nat) (A_17 : Option Addr) (k_18 : Nat), (wirelessref33_Output_j1 F c_1 c_21 l_16 = some r) ∧ (Holds 63 [(1, .pointer (some ⟨b_8, 0, none⟩)), (2, .pointer (some ⟨b_9, 0, none⟩)), (4, .slice A_17 (List.length l_16) k_18)] a) ∧ (Ctx U0 [] w0 [some b_9, some b_8, ob A_17] w) ∧ (Sl 1 (RSl 1 (RInt .u8)) (Mu U0 [some b_9, some b_8, ob A_17]) w A_12 k_13 c_21.Out) ∧ (Sl 1 (RInt .u8) (Mu U0 [some b_9, some b_8, ob A_17]) w A_5 k_6 c_1.In) ∧ (Blk w b_8 26 [.int .u16 c_1.Local, .int .u16 c_1.Remote, .int .u16 c_1.PSM, .int .i64 c_1.MTU, .int .i64 c_1.MPS, .int .i64 c_1.PeerMTU, .int .i64 c_1.PeerMPS, .int .i64 c_21.TxCredits, .int .i64 c_1.RxCredits, .int .i64 c_1.Given, .slice A_12 (List.length c_21.Out) k_13, .int .i64 c_21.Sent, .slice A_5 (List.length c_1.In) k_6, .int .i64 c_1.Want, .bool c_1.Failed]) ∧ (Blk w b_9 26 [.int .u16 0, .int .u16 0, .int .u16 0, .int .i64 0, .int .i64 0, .int .i64 0, .int .i64 0, .int .i64 0, .int .i64 0, .int .i64 0, .slice none 0 0, .int .i64 0, .slice none 0 0, .int .i64 0, .bool false]) ∧ (Own 1 24 (RSl 1 (RInt .u8)) (Mu U0 [some b_9, some b_8, ob A_17]) w A_17 k_18 l_16)) ?_ ?_
  · refine WC.block ?_
    obtain ⟨o_34, hi_34, hpo_34⟩ := bind_inv hp
    clear hp
    refine WC.loop (fun n a w => ∃ (c_33 : T_api_Channel) (l_28 : (List (List Int))) (A_24 : Option Addr) (k_25 : Nat) (A_29 : Option Addr) (k_30 : Nat), (iter (fun s => wirelessref33_Output_l34 F c_1 s.1 s.2) n (c_33, l_28) = some o_34) ∧ (Holds 63 [(1, .pointer (some ⟨b_8, 0, none⟩)), (2, .pointer (some ⟨b_9, 0, none⟩)), (4, .slice A_29 (List.length l_28) k_30)] a) ∧ (Ctx U0 [] w0 [some b_9, some b_8, ob A_29] w) ∧ (Sl 1 (RSl 1 (RInt .u8)) (Mu U0 [some b_9, some b_8, ob A_29]) w A_24 k_25 c_33.Out) ∧ (Sl 1 (RInt .u8) (Mu U0 [some b_9, some b_8, ob A_29]) w A_5 k_6 c_1.In) ∧ (Blk w b_8 26 [.int .u16 c_1.Local, .int .u16 c_1.Remote, .int .u16 c_1.PSM, .int .i64 c_1.MTU, .int .i64 c_1.MPS, .int .i64 c_1.PeerMTU, .int .i64 c_1.PeerMPS, .int .i64 c_33.TxCredits, .int .i64 c_1.RxCredits, .int .i64 c_1.Given, .slice A_24 (List.length c_33.Out) k_25, .int .i64 c_33.Sent, .slice A_5 (List.length c_1.In) k_6, .int .i64 c_1.Want, .bool c_1.Failed]) ∧ (Blk w b_9 26 [.int .u16 0, .int .u16 0, .int .u16 0, .int .i64 0, .int .i64 0, .int .i64 0, .int .i64 0, .int .i64 0, .int .i64 0, .int .i64 0, .slice none 0 0, .int .i64 0, .slice none 0 0, .int .i64 0, .bool false]) ∧ (Own 1 24 (RSl 1 (RInt .u8)) (Mu U0 [some b_9, some b_8, ob A_29]) w A_29 k_30 l_28)) F ?_ ?_
    · intro a ha
      obtain ⟨C', T⟩ := C.addNone
      replace f_4 := T.sl f_4
      replace f_7 := T.sl f_7
      replace hb_8 := T.blk ne0 hb_8
      replace hb_9 := T.blk ne0 hb_9
      clear T; replace C := C'; clear C'
      have T : TR U0 [ob none, some b_9, some b_8] w [some b_9, some b_8, ob none] w [] := TR.pick [1, 2, 0] rfl
      have C' : Ctx U0 [] w0 [some b_9, some b_8, ob none] _ := C.pick [1, 2, 0] (by decide) rfl
      replace f_4 := T.sl f_4
      replace f_7 := T.sl f_7
      replace hb_8 := T.blk ne0 hb_8
      replace hb_9 := T.blk ne0 hb_9
      clear T; replace C := C'; clear C'
      exact ⟨c_1, [], A_2, k_3, none, 0, hi_34, ha.sub ⟨rfl, rfl, rfl, trivial⟩, C, f_4, f_7, hb_8, hb_9, Own.nil⟩
    · rintro n_34 a w ⟨c_33, l_28, A_24, k_25, A_29, k_30, hi_34, ha, C, f_26, f_7, hb_8, hb_9, f_31⟩
      obtain ⟨n_34, q_34, rfl, hp, hs_34⟩ := iter_inv hi_34
      replace hp : wirelessref33_Output_l34 F c_1 c_33 l_28 = some q_34 := hp
      clear hi_34
      refine WC.ofJ (l := [(1, .pointer (some ⟨b_8, 0, none⟩)), (2, .pointer (some ⟨b_9, 0, none⟩)), (4, .slice A_29 (List.length l_28) k_30)]) ?_ ha
      refine WC.seq ?_
      refine WC.seq ?_
      refine WC.region ?_
      refine WL.val (rv_fieldAddr FA26_14 rfl rfl) rfl ?_
      refine WL.val (rv_load1 Try.isAgg4 rfl hb_8 rfl) rfl ?_
      refine WL.val (rv_not rfl) rfl ?_
      refine WL.val (rv_move rfl) rfl ?_
      refine WL.cutAt 5 (fun a w' => w = w' ∧ Holds 63 [(1, .pointer (some ⟨b_8, 0, none⟩)), (2, .pointer (some ⟨b_9, 0, none⟩)), (4, .slice A_29 (List.length l_28) k_30), (15, .bool ((!c_1.Failed) && (decide ((len c_33.Out) > 0))))] a) ?_ ?_
      · rcases Bool.eq_false_or_eq_true ((!c_1.Failed)) with hg_35 | hg_35
        · refine WL.yes rfl rfl hg_35 ?_
          refine WL.val (rv_fieldAddr FA26_10 rfl rfl) rfl ?_
          refine WL.yes rfl rfl hg_35 ?_
          refine WL.val (rv_load1 Try.isAgg23 rfl hb_8 rfl) rfl ?_
          refine WL.yes rfl rfl hg_35 ?_
          refine WL.val (rv_len (dt := c_33.Out) Try.underlying23 rfl) rfl ?_
          refine WL.yes rfl rfl hg_35 ?_
          refine WL.val (rv_gtr rfl rfl) rfl ?_
          refine WL.val (rv_pick_t rfl hg_35 rfl) rfl ?_
          refine WL.nil (fun a ha => ?_)
          exact ⟨rfl, ha.sub ⟨rfl, rfl, rfl, and_t hg_35, trivial⟩⟩
        · refine WL.no rfl rfl hg_35 rfl ?_
          refine WL.no rfl rfl hg_35 rfl ?_
          refine WL.no rfl rfl hg_35 rfl ?_
          refine WL.no rfl rfl hg_35 rfl ?_
          refine WL.val (rv_pick_f rfl hg_35 rfl) rfl ?_
          refine WL.nil (fun a ha => ?_)
          exact ⟨rfl, ha.sub ⟨rfl, rfl, rfl, and_f hg_35, trivial⟩⟩
      · rintro a w' ⟨rfl, ha⟩
        refine WL.ofJ (l := [(1, .pointer (some ⟨b_8, 0, none⟩)), (2, .pointer (some ⟨b_9, 0, none⟩)), (4, .slice A_29 (List.length l_28) k_30), (15, .bool ((!c_1.Failed) && (decide ((len c_33.Out) > 0))))]) ?_ ha
        refine WL.val (rv_move rfl) rfl ?_
        refine WL.cutAt 4 (fun a w' => w = w' ∧ Holds 63 [(1, .pointer (some ⟨b_8, 0, none⟩)), (2, .pointer (some ⟨b_9, 0, none⟩)), (4, .slice A_29 (List.length l_28) k_30), (20, .bool (((!c_1.Failed) && (decide ((len c_33.Out) > 0))) && (decide (c_33.TxCredits > 0))))] a) ?_ ?_
        · rcases Bool.eq_false_or_eq_true (((!c_1.Failed) && (decide ((len c_33.Out) > 0)))) with hg_36 | hg_36
          · refine WL.yes rfl rfl hg_36 ?_
            refine WL.val (rv_fieldAddr FA26_7 rfl rfl) rfl ?_
            refine WL.yes rfl rfl hg_36 ?_
            refine WL.val (rv_load1 Try.isAgg3 rfl hb_8 rfl) rfl ?_
            refine WL.yes rfl rfl hg_36 ?_
            refine WL.val (rv_gtr rfl rfl) rfl ?_
            refine WL.val (rv_pick_t rfl hg_36 rfl) rfl ?_
            refine WL.nil (fun a ha => ?_)
            exact ⟨rfl, ha.sub ⟨rfl, rfl, rfl, and_t hg_36, trivial⟩⟩
          · refine WL.no rfl rfl hg_36 rfl ?_
            refine WL.no rfl rfl hg_36 rfl ?_
            refine WL.no rfl rfl hg_36 rfl ?_
            refine WL.val (rv_pick_f rfl hg_36 rfl) rfl ?_
            refine WL.nil (fun a ha => ?_)
            exact ⟨rfl, ha.sub ⟨rfl, rfl, rfl, and_f hg_36, trivial⟩⟩
        · rintro a w' ⟨rfl, ha⟩
          refine WL.ofJ (l := [(1, .pointer (some ⟨b_8, 0, none⟩)), (2, .pointer (some ⟨b_9, 0, none⟩)), (4, .slice A_29 (List.length l_28) k_30), (20, .bool (((!c_1.Failed) && (decide ((len c_33.Out) > 0))) && (decide (c_33.TxCredits > 0))))]) ?_ ha
          refine WL.nilThen ?_
          refine WC.cond rfl (fun hc => ?_) (fun hc => ?_)
          · replace hp := if_t hp hc
            clear hc
            refine WC.skipThen ?_
            refine WC.block ?_
            refine WC.seq ?_
            refine WC.region ?_
            refine WL.val (rv_fieldAddr FA26_10 rfl rfl) rfl ?_
            refine WL.val (rv_load1 Try.isAgg23 rfl hb_8 rfl) rfl ?_
            replace hp := bind_inv hp
            obtain ⟨x_37, e_x_37, hp⟩ := hp
            refine WL.ixSl (dt := c_33.Out) Try.underlying23 Try.sizeOf24 rfl rfl rfl f_26 e_x_37 rfl ?_
            intro d_38 es_39 f_40 hl hr
            obtain ⟨A_41, k_42, rfl, f_43⟩ := hr
            clear hl
            refine WL.val (rv_loadA1 (ad := d_38) (o := 0) Try.isAgg24 rfl f_40 rfl) rfl ?_
            replace hp := bind_inv hp
            obtain ⟨x_44, e_x_44, hp⟩ := hp
            refine WL.call (rc_func Try.call35 rfl) (ok_wirelessref33_Form F (Mu U0 [some b_9, some b_8, ob A_29]) _ x_37 A_41 k_42 (C.give [0, 1, 2] [] (by decide) rfl rfl (by decide)) (f_43.mu (mu_give [0, 1, 2] [] rfl rfl)) _ e_x_44) rfl ?_
            rintro v w ⟨A_45, k_46, rfl, D, f_47⟩
            obtain ⟨C', T⟩ := C.join D [0, 1, 2] [] (by decide) rfl rfl (by decide)
            replace C' : Ctx U0 [] w0 [some b_9, some b_8, ob A_29] _ := C'
            replace T : TR U0 [some b_9, some b_8, ob A_29] _ [some b_9, some b_8, ob A_29] _ [] := T
            replace f_47 : Sl 1 (RInt .u8) (Mu U0 [some b_9, some b_8, ob A_29]) _ A_45 k_46 x_44 := f_47.mu (mu_join (R := []) (L2 := [some b_9, some b_8, ob A_29]) (fun b h => h))
            replace f_26 := T.sl f_26
            replace f_7 := T.sl f_7
            replace f_43 := T.sl f_43
            replace f_40 := T.at_ f_40 (by simp)
            replace hb_8 := T.blk ne0 hb_8
            replace hb_9 := T.blk ne0 hb_9
            replace f_31 := T.own ne0 f_31
            clear T; replace C := C'; clear C'
            clear D
            refine WL.val (rv_assign rfl) rfl ?_
            refine WL.nilThen ?_
            refine WC.seq ?_
            refine WC.region ?_
            refine WL.val (rv_move rfl) rfl ?_
            refine WL.val (rv_len (dt := x_44) Try.underlying24 rfl) rfl ?_
            refine WL.val (rv_fieldAddr FA26_11 rfl rfl) rfl ?_
            refine WL.val (rv_load1 Try.isAgg3 rfl hb_8 rfl) rfl ?_
            refine WL.val (rv_fieldAddr FA26_6 rfl rfl) rfl ?_
            refine WL.val (rv_load1 Try.isAgg3 rfl hb_8 rfl) rfl ?_
            refine WL.val (rv_add rfl rfl (wrap_i64 _)) rfl ?_
            refine WL.val (rv_min rfl rfl) rfl ?_
            refine WL.val (rv_assign rfl) rfl ?_
            refine WL.nilThen ?_
            refine WC.seq ?_
            refine WC.region ?_
            refine WL.val (rv_move rfl) rfl ?_
            refine WL.world (rw_buildSlice (sz := 1) (R := (RInt .u8)) (es := []) (dt := ([] : (List Int))) Try.underlying24 Try.sizeOf5 Try.zeroValue5 rfl rfl rfl rfl rfl rfl rfl rfl rfl C) rfl ?_
            rintro v w ⟨A_49, k_50, rfl, f_51, C', T⟩
            replace C' : Ctx U0 [] w0 [ob A_49, some b_9, some b_8, ob A_29] _ := C'
            replace T : TR U0 [some b_9, some b_8, ob A_29] _ [ob A_49, some b_9, some b_8, ob A_29] _ _ := T
            replace f_51 : Own 1 5 (RInt .u8) (Mu U0 [ob A_49, some b_9, some b_8, ob A_29]) _ A_49 k_50 ([] : (List Int)) := f_51
            replace f_26 := T.sl f_26
            replace f_7 := T.sl f_7
            replace f_47 := T.sl f_47
            replace hb_8 := T.blk ne0 hb_8
            replace hb_9 := T.blk ne0 hb_9
            replace f_31 := T.own ne0 f_31
            clear T; replace C := C'; clear C'
            refine WL.val (rv_move rfl) rfl ?_
            refine WL.val (rv_fieldAddr FA26_11 rfl rfl) rfl ?_
            refine WL.val (rv_load1 Try.isAgg3 rfl hb_8 rfl) rfl ?_
            refine WL.val (rv_move rfl) rfl ?_
            replace hp := bind_inv hp
            obtain ⟨l_52, e_l_52, hp⟩ := hp
            refine WL.subSl Try.underlying24 Try.sizeOf5 rfl rfl rfl (.inr ⟨_, rfl⟩) (.inr ⟨_, rfl⟩) f_47 e_l_52 rfl ?_
            intro A_53 k_54 f_55
            replace hp := bind_inv hp
            obtain ⟨l_56, e_l_56, hp⟩ := hp
            refine WL.world (rw_append (i := 0) (dt := ([] : (List Int))) Try.underlying24 I5 rfl rfl rfl rfl rfl rfl rfl rfl f_51 (f_55.src) e_l_56 rfl C) rfl ?_
            rintro v w ⟨A_57, k_58, rfl, f_59, C', T⟩
            replace C' : Ctx U0 [] w0 [ob A_57, some b_9, some b_8, ob A_29] _ := C'
            replace T : TR U0 [ob A_49, some b_9, some b_8, ob A_29] _ [ob A_57, some b_9, some b_8, ob A_29] _ _ := T
            replace f_59 : Own 1 5 (RInt .u8) (Mu U0 [ob A_57, some b_9, some b_8, ob A_29]) _ A_57 k_58 l_56 := f_59
            replace f_26 := T.sl f_26
            replace f_7 := T.sl f_7
            replace f_47 := T.sl f_47
            replace f_55 := T.sl f_55
            replace hb_8 := T.blk (C.ne (i := 2) rfl [0] rfl (by decide)) hb_8
            replace hb_9 := T.blk (C.ne (i := 1) rfl [0] rfl (by decide)) hb_9
            replace f_31 := T.own (C.ne (i := 3) rfl [0] rfl (by decide)) f_31
            clear T; replace C := C'; clear C'
            have f_61 : Sl 1 (RInt .u8) (Mu U0 [some b_9, some b_8, ob A_29]) _ A_57 k_58 l_56 := f_59.toSl (C.off (i := 0) rfl [1, 2, 3] rfl (by decide)) (Mu.weaken (mem_pick [1, 2, 3] rfl))
            have T : TR U0 [ob A_57, some b_9, some b_8, ob A_29] w [some b_9, some b_8, ob A_29] w [] := TR.pick [1, 2, 3] rfl
            have C' : Ctx U0 [] w0 [some b_9, some b_8, ob A_29] _ := C.pick [1, 2, 3] (by decide) rfl
            replace f_26 := T.sl f_26
            replace f_7 := T.sl f_7
            replace f_47 := T.sl f_47
            replace f_55 := T.sl f_55
            replace hb_8 := T.blk ne0 hb_8
            replace hb_9 := T.blk ne0 hb_9
            replace f_31 := T.own ne0 f_31
            clear T; replace C := C'; clear C'
            refine WL.world (rw_buildSlice (sz := 1) (R := (RSl 1 (RInt .u8))) (es := [.slice A_57 (List.length l_56) k_58]) (dt := [l_56]) Try.underlying23 Try.sizeOf24 Try.zeroValue24 rfl rfl rfl rfl rfl rfl rfl rfl ⟨_, _, rfl, rfl, ⟨_, _, rfl, f_61⟩, rfl⟩ C) rfl ?_
            rintro v w ⟨A_63, k_64, rfl, f_65, C', T⟩
            replace C' : Ctx U0 [] w0 [ob A_63, some b_9, some b_8, ob A_29] _ := C'
            replace T : TR U0 [some b_9, some b_8, ob A_29] _ [ob A_63, some b_9, some b_8, ob A_29] _ _ := T
            replace f_65 : Own 1 24 (RSl 1 (RInt .u8)) (Mu U0 [ob A_63, some b_9, some b_8, ob A_29]) _ A_63 k_64 [l_56] := f_65
            replace f_26 := T.sl f_26
            replace f_7 := T.sl f_7
            replace f_47 := T.sl f_47
            replace f_55 := T.sl f_55
            replace f_61 := T.sl f_61
            replace hb_8 := T.blk ne0 hb_8
            replace hb_9 := T.blk ne0 hb_9
            replace f_31 := T.own ne0 f_31
            clear T; replace C := C'; clear C'
            replace hp := bind_inv hp
            obtain ⟨l_66, e_l_66, hp⟩ := hp
            refine WL.world (rw_append (i := 3) (dt := l_28) Try.underlying23 I24 rfl rfl rfl rfl rfl rfl rfl rfl f_31 (f_65.src) e_l_66 rfl C) rfl ?_
            rintro v w ⟨A_67, k_68, rfl, f_69, C', T⟩
            replace C' : Ctx U0 [] w0 [ob A_63, some b_9, some b_8, ob A_67] _ := C'
            replace T : TR U0 [ob A_63, some b_9, some b_8, ob A_29] _ [ob A_63, some b_9, some b_8, ob A_67] _ _ := T
            replace f_69 : Own 1 24 (RSl 1 (RInt .u8)) (Mu U0 [ob A_63, some b_9, some b_8, ob A_67]) _ A_67 k_68 l_66 := f_69
            replace f_26 := T.sl f_26
            replace f_7 := T.sl f_7
            replace f_47 := T.sl f_47
            replace f_55 := T.sl f_55
            replace f_61 := T.sl f_61
            replace hb_8 := T.blk (C.ne (i := 2) rfl [3] rfl (by decide)) hb_8
            replace hb_9 := T.blk (C.ne (i := 1) rfl [3] rfl (by decide)) hb_9
            replace f_65 := T.own (C.ne (i := 0) rfl [3] rfl (by decide)) f_65
            clear T; replace C := C'; clear C'
            refine WL.val (rv_assign rfl) rfl ?_
            refine WL.nilThen ?_
            refine WC.seq ?_
            refine WC.region ?_
            refine WL.val (rv_fieldAddr FA26_7 rfl rfl) rfl ?_
            refine WL.val (rv_load1 Try.isAgg3 rfl hb_8 rfl) rfl ?_
            refine WL.val (rv_sub rfl rfl (wrap_i64 _)) rfl ?_
            refine WL.val (rv_fieldAddr FA26_7 rfl rfl) rfl ?_
            refine WL.storeK (rs_store (i := 2) (cs' := [.int .u16 c_1.Local, .int .u16 c_1.Remote, .int .u16 c_1.PSM, .int .i64 c_1.MTU, .int .i64 c_1.MPS, .int .i64 c_1.PeerMTU, .int .i64 c_1.PeerMPS, .int .i64 (w64 (c_33.TxCredits - 1)), .int .i64 c_1.RxCredits, .int .i64 c_1.Given, .slice A_24 (List.length c_33.Out) k_25, .int .i64 c_33.Sent, .slice A_5 (List.length c_1.In) k_6, .int .i64 c_1.Want, .bool c_1.Failed]) Try.sizeOf3 rfl rfl rfl rfl rfl hb_8 rfl C rfl rfl) ?_
            rintro w ⟨hb_8, C', T⟩
            replace f_26 := T.sl f_26
            replace f_7 := T.sl f_7
            replace f_47 := T.sl f_47
            replace hb_9 := T.blk (C.ne (i := 1) rfl [2] rfl (by decide)) hb_9
            replace f_69 := T.own (C.ne (i := 3) rfl [2] rfl (by decide)) f_69
            clear T; replace C := C'; clear C'
            refine WL.nilThen ?_
            refine WC.seq ?_
            refine WC.prune (l' := [(1, .pointer (some ⟨b_8, 0, none⟩)), (2, .pointer (some ⟨b_9, 0, none⟩)), (4, .slice A_67 (List.length l_66) k_68), (5, .slice A_45 (List.length x_44) k_46), (6, .int .i64 (imin (len x_44) (w64 (c_33.Sent + c_1.PeerMPS))))]) ⟨rfl, rfl, rfl, rfl, rfl, trivial⟩ ?_
            refine WC.region ?_
            refine WL.val (rv_move rfl) rfl ?_
            refine WL.val (rv_fieldAddr FA26_11 rfl rfl) rfl ?_
            refine WL.storeK (rs_store (i := 2) (cs' := [.int .u16 c_1.Local, .int .u16 c_1.Remote, .int .u16 c_1.PSM, .int .i64 c_1.MTU, .int .i64 c_1.MPS, .int .i64 c_1.PeerMTU, .int .i64 c_1.PeerMPS, .int .i64 (w64 (c_33.TxCredits - 1)), .int .i64 c_1.RxCredits, .int .i64 c_1.Given, .slice A_24 (List.length c_33.Out) k_25, .int .i64 (imin (len x_44) (w64 (c_33.Sent + c_1.PeerMPS))), .slice A_5 (List.length c_1.In) k_6, .int .i64 c_1.Want, .bool c_1.Failed]) Try.sizeOf3 rfl rfl rfl rfl rfl hb_8 rfl C rfl rfl) ?_
            rintro w ⟨hb_8, C', T⟩
            replace f_26 := T.sl f_26
            replace f_7 := T.sl f_7
            replace f_47 := T.sl f_47
            replace hb_9 := T.blk (C.ne (i := 1) rfl [2] rfl (by decide)) hb_9
            replace f_69 := T.own (C.ne (i := 3) rfl [2] rfl (by decide)) f_69
            clear T; replace C := C'; clear C'
            refine WL.nilThen ?_
            refine WC.seq ?_
            refine WC.region ?_
            refine WL.val (rv_move rfl) rfl ?_
            refine WL.val (rv_move rfl) rfl ?_
            refine WL.val (rv_len (dt := x_44) Try.underlying24 rfl) rfl ?_
            refine WL.val (rv_eql rfl rfl) rfl ?_
            refine WL.nilThen ?_
            refine WC.cond rfl (fun hc => ?_) (fun hc => ?_)
            · replace hp := if_t hp hc
              clear hc
              refine WC.seq ?_
              refine WC.region ?_
              refine WL.world (rw_buildSlice (sz := 1) (R := (RSl 1 (RInt .u8))) (es := []) (dt := ([] : (List (List Int)))) Try.underlying23 Try.sizeOf24 Try.zeroValue24 rfl rfl rfl rfl rfl rfl rfl rfl rfl C) rfl ?_
              rintro v w ⟨A_72, k_73, rfl, f_74, C', T⟩
              replace C' : Ctx U0 [] w0 [ob A_72, ob A_63, some b_9, some b_8, ob A_67] _ := C'
              replace T : TR U0 [ob A_63, some b_9, some b_8, ob A_67] _ [ob A_72, ob A_63, some b_9, some b_8, ob A_67] _ _ := T
              replace f_74 : Own 1 24 (RSl 1 (RInt .u8)) (Mu U0 [ob A_72, ob A_63, some b_9, some b_8, ob A_67]) _ A_72 k_73 ([] : (List (List Int))) := f_74
              replace f_26 := T.sl f_26
              replace f_7 := T.sl f_7
              replace hb_8 := T.blk ne0 hb_8
              replace hb_9 := T.blk ne0 hb_9
              replace f_69 := T.own ne0 f_69
              clear T; replace C := C'; clear C'
              refine WL.val (rv_fieldAddr FA26_10 rfl rfl) rfl ?_
              refine WL.val (rv_load1 Try.isAgg23 rfl hb_8 rfl) rfl ?_
              replace hp := bind_inv hp
              obtain ⟨l_75, e_l_75, hp⟩ := hp
              refine WL.subSl Try.underlying23 Try.sizeOf24 rfl rfl rfl (.inr ⟨_, rfl⟩) (.inl ⟨rfl, rfl⟩) f_26 e_l_75 rfl ?_
              intro A_76 k_77 f_78
              replace hp := bind_inv hp
              obtain ⟨l_79, e_l_79, hp⟩ := hp
              refine WL.world (rw_append (i := 0) (dt := ([] : (List (List Int)))) Try.underlying23 I24 rfl rfl rfl rfl rfl rfl rfl rfl f_74 (f_78.src) e_l_79 rfl C) rfl ?_
              rintro v w ⟨A_80, k_81, rfl, f_82, C', T⟩
              replace C' : Ctx U0 [] w0 [ob A_80, ob A_63, some b_9, some b_8, ob A_67] _ := C'
              replace T : TR U0 [ob A_72, ob A_63, some b_9, some b_8, ob A_67] _ [ob A_80, ob A_63, some b_9, some b_8, ob A_67] _ _ := T
              replace f_82 : Own 1 24 (RSl 1 (RInt .u8)) (Mu U0 [ob A_80, ob A_63, some b_9, some b_8, ob A_67]) _ A_80 k_81 l_79 := f_82
              replace f_26 := T.sl f_26
              replace f_7 := T.sl f_7
              replace f_78 := T.sl f_78
              replace hb_8 := T.blk (C.ne (i := 3) rfl [0] rfl (by decide)) hb_8
              replace hb_9 := T.blk (C.ne (i := 2) rfl [0] rfl (by decide)) hb_9
              replace f_69 := T.own (C.ne (i := 4) rfl [0] rfl (by decide)) f_69
              clear T; replace C := C'; clear C'
              refine WL.val (rv_fieldAddr FA26_10 rfl rfl) rfl ?_
              refine WL.storeK (rs_store (i := 3) (cs' := [.int .u16 c_1.Local, .int .u16 c_1.Remote, .int .u16 c_1.PSM, .int .i64 c_1.MTU, .int .i64 c_1.MPS, .int .i64 c_1.PeerMTU, .int .i64 c_1.PeerMPS, .int .i64 (w64 (c_33.TxCredits - 1)), .int .i64 c_1.RxCredits, .int .i64 c_1.Given, .slice A_80 (List.length l_79) k_81, .int .i64 (imin (len x_44) (w64 (c_33.Sent + c_1.PeerMPS))), .slice A_5 (List.length c_1.In) k_6, .int .i64 c_1.Want, .bool c_1.Failed]) Try.sizeOf23 rfl rfl rfl rfl rfl hb_8 rfl C rfl rfl) ?_
              rintro w ⟨hb_8, C', T⟩
              replace f_26 := T.sl f_26
              replace f_7 := T.sl f_7
              replace f_78 := T.sl f_78
              replace hb_9 := T.blk (C.ne (i := 2) rfl [3] rfl (by decide)) hb_9
              replace f_69 := T.own (C.ne (i := 4) rfl [3] rfl (by decide)) f_69
              replace f_82 := T.own (C.ne (i := 0) rfl [3] rfl (by decide)) f_82
              clear T; replace C := C'; clear C'
              refine WL.nilThen ?_
              refine WC.region ?_
              refine WL.val (rv_fieldAddr FA26_11 rfl rfl) rfl ?_
              refine WL.storeK (rs_store (i := 3) (cs' := [.int .u16 c_1.Local, .int .u16 c_1.Remote, .int .u16 c_1.PSM, .int .i64 c_1.MTU, .int .i64 c_1.MPS, .int .i64 c_1.PeerMTU, .int .i64 c_1.PeerMPS, .int .i64 (w64 (c_33.TxCredits - 1)), .int .i64 c_1.RxCredits, .int .i64 c_1.Given, .slice A_80 (List.length l_79) k_81, .int .i64 0, .slice A_5 (List.length c_1.In) k_6, .int .i64 c_1.Want, .bool c_1.Failed]) Try.sizeOf3 rfl rfl rfl rfl rfl hb_8 rfl C rfl rfl) ?_
              rintro w ⟨hb_8, C', T⟩
              replace f_7 := T.sl f_7
              replace hb_9 := T.blk (C.ne (i := 2) rfl [3] rfl (by decide)) hb_9
              replace f_69 := T.own (C.ne (i := 4) rfl [3] rfl (by decide)) f_69
              replace f_82 := T.own (C.ne (i := 0) rfl [3] rfl (by decide)) f_82
              clear T; replace C := C'; clear C'
              refine WL.nil (fun a ha => ?_)
              have ho := next_inv hp hs_34
              have f_84 : Sl 1 (RSl 1 (RInt .u8)) (Mu U0 [ob A_63, some b_9, some b_8, ob A_67]) _ A_80 k_81 l_79 := f_82.toSl (C.off (i := 0) rfl [1, 2, 3, 4] rfl (by decide)) (Mu.weaken (mem_pick [1, 2, 3, 4] rfl))
              have T : TR U0 [ob A_80, ob A_63, some b_9, some b_8, ob A_67] w [ob A_63, some b_9, some b_8, ob A_67] w [] := TR.pick [1, 2, 3, 4] rfl
              have C' : Ctx U0 [] w0 [ob A_63, some b_9, some b_8, ob A_67] _ := C.pick [1, 2, 3, 4] (by decide) rfl
              replace f_7 := T.sl f_7
              replace hb_8 := T.blk ne0 hb_8
              replace hb_9 := T.blk ne0 hb_9
              replace f_69 := T.own ne0 f_69
              clear T; replace C := C'; clear C'
              have T : TR U0 [ob A_63, some b_9, some b_8, ob A_67] w [some b_9, some b_8, ob A_67] w [] := TR.pick [1, 2, 3] rfl
              have C' : Ctx U0 [] w0 [some b_9, some b_8, ob A_67] _ := C.pick [1, 2, 3] (by decide) rfl
              replace f_7 := T.sl f_7
              replace f_84 := T.sl f_84
              replace hb_8 := T.blk ne0 hb_8
              replace hb_9 := T.blk ne0 hb_9
              replace f_69 := T.own ne0 f_69
              clear T; replace C := C'; clear C'
              exact ⟨n_34, Nat.lt_succ_self _, ⟨{ c_1 with TxCredits := w64 (c_33.TxCredits - 1), Out := l_79, Sent := 0 }, l_66, A_80, k_81, A_67, k_68, ho, ha.sub ⟨rfl, rfl, rfl, trivial⟩, C, f_84, f_7, hb_8, hb_9, f_69⟩⟩
            · replace hp := if_f hp hc
              clear hc
              refine WC.skip (fun a ha => ?_)
              have ho := next_inv hp hs_34
              have T : TR U0 [ob A_63, some b_9, some b_8, ob A_67] w [some b_9, some b_8, ob A_67] w [] := TR.pick [1, 2, 3] rfl
              have C' : Ctx U0 [] w0 [some b_9, some b_8, ob A_67] _ := C.pick [1, 2, 3] (by decide) rfl
              replace f_26 := T.sl f_26
              replace f_7 := T.sl f_7
              replace hb_8 := T.blk ne0 hb_8
              replace hb_9 := T.blk ne0 hb_9
              replace f_69 := T.own ne0 f_69
              clear T; replace C := C'; clear C'
              exact ⟨n_34, Nat.lt_succ_self _, ⟨{ c_1 with TxCredits := w64 (c_33.TxCredits - 1), Out := c_33.Out, Sent := imin (len x_44) (w64 (c_33.Sent + c_1.PeerMPS)) }, l_66, A_24, k_25, A_67, k_68, ho, ha.sub ⟨rfl, rfl, rfl, trivial⟩, C, f_26, f_7, hb_8, hb_9, f_69⟩⟩
          · replace hp := if_f hp hc
            clear hc
            refine WC.exitJ rfl (fun a ha => ?_)
            have ho := done_inv hp hs_34
            replace hp := hpo_34
            try rw [ho] at hp
            exact ⟨{ c_1 with TxCredits := c_33.TxCredits, Out := c_33.Out, Sent := c_33.Sent }, l_28, A_24, k_25, A_29, k_30, hp, ha.sub ⟨rfl, rfl, rfl, trivial⟩, C, f_26, f_7, hb_8, hb_9, f_31⟩
  · rintro a w ⟨c_21, l_16, A_12, k_13, A_17, k_18, hp, ha, C, f_14, f_7, hb_8, hb_9, f_19⟩
    refine WC.ofJ (l := [(1, .pointer (some ⟨b_8, 0, none⟩)), (2, .pointer (some ⟨b_9, 0, none⟩)), (4, .slice A_17 (List.length l_16) k_18)]) ?_ ha
    refine WC.seq ?_
    refine WC.region ?_
    refine WL.val (rv_loadN Try.isAgg26 Try.sizeOf26 rfl hb_8 rfl rfl) rfl ?_
    refine WL.val (rv_move rfl) rfl ?_
    refine WL.storeK (rs_store (i := 0) (cs' := [.int .u16 c_1.Local, .int .u16 c_1.Remote, .int .u16 c_1.PSM, .int .i64 c_1.MTU, .int .i64 c_1.MPS, .int .i64 c_1.PeerMTU, .int .i64 c_1.PeerMPS, .int .i64 c_21.TxCredits, .int .i64 c_1.RxCredits, .int .i64 c_1.Given, .slice A_12 (List.length c_21.Out) k_13, .int .i64 c_21.Sent, .slice A_5 (List.length c_1.In) k_6, .int .i64 c_1.Want, .bool c_1.Failed]) Try.sizeOf26 rfl rfl rfl rfl rfl hb_9 rfl C rfl rfl) ?_
    rintro w ⟨hb_9, C', T⟩
    replace f_14 := T.sl f_14
    replace f_7 := T.sl f_7
    replace hb_8 := T.blk (C.ne (i := 1) rfl [0] rfl (by decide)) hb_8
    replace f_19 := T.own (C.ne (i := 2) rfl [0] rfl (by decide)) f_19
    clear T; replace C := C'; clear C'
    refine WL.val (rv_assign rfl) rfl ?_
    refine WL.nilThen ?_
    obtain rfl := some_inv' hp
    refine WC.ret (retK (rs := [.cell 2 26, .tmp 3]) (vs := [.agg #[.int .u16 c_1.Local, .int .u16 c_1.Remote, .int .u16 c_1.PSM, .int .i64 c_1.MTU, .int .i64 c_1.MPS, .int .i64 c_1.PeerMTU, .int .i64 c_1.PeerMPS, .int .i64 c_21.TxCredits, .int .i64 c_1.RxCredits, .int .i64 c_1.Given, .slice A_12 (List.length c_21.Out) k_13, .int .i64 c_21.Sent, .slice A_5 (List.length c_1.In) k_6, .int .i64 c_1.Want, .bool c_1.Failed], .slice A_17 (List.length l_16) k_18]) rfl ⟨rv1_cell Try.isAgg26 Try.sizeOf26 rfl hb_9 rfl, rv1_tmp rfl, trivial⟩ ?_)
    have f_31 : Sl 1 (RSl 1 (RInt .u8)) (Mu U0 [some b_9, some b_8]) _ A_17 k_18 l_16 := f_19.toSl (C.off (i := 2) rfl [0, 1] rfl (by decide)) (Mu.weaken (mem_pick [0, 1] rfl))
    have T : TR U0 [some b_9, some b_8, ob A_17] w [some b_9, some b_8] w [] := TR.pick [0, 1] rfl
    have C' : Ctx U0 [] w0 [some b_9, some b_8] _ := C.pick [0, 1] (by decide) rfl
    replace f_14 := T.sl f_14
    replace f_7 := T.sl f_7
    clear T; replace C := C'; clear C'
    have T : TR U0 [some b_9, some b_8] w [] w [] := TR.pick [] rfl
    have C' : Ctx U0 [] w0 [] _ := C.pick [] (by decide) rfl
    replace f_14 := T.sl f_14
    replace f_7 := T.sl f_7
    replace f_31 := T.sl f_31
    clear T; replace C := C'; clear C'
    exact ⟨_, rfl, A_12, k_13, A_5, k_6, A_17, k_18, rfl, C, f_14, f_7, f_31⟩

theorem ok_sdu_form (F : Nat) (U0 : Nat → Prop) (w0 : World) (sdu_1 : (List Int)) (A_2 : Option Addr) (k_3 : Nat) (C : Ctx U0 [] w0 [] w0) (f_4 : Sl 1 (RInt .u8) (Mu U0 []) w0 A_2 k_3 sdu_1) (r : (List Int)) (hp : sdu_form F sdu_1 = some r) :
    Calls Try.prog 34 #[.slice A_2 (List.length sdu_1) k_3] w0 fun e w => ∃ v, e = .returned v ∧ ∃ (A_20 : Option Addr) (k_21 : Nat), (v = .slice A_20 (List.length r) k_21) ∧ (Ctx U0 [] w0 [] w) ∧ (Sl 1 (RInt .u8) (Mu U0 []) w A_20 k_21 r) := by
  refine calls_enter (vs := [.slice A_2 (List.length sdu_1) k_3]) Try.func34 rfl Try.ntmps34 rfl ?_
  refine WC.prune (l' := [(0, .slice A_2 (List.length sdu_1) k_3)]) ⟨rfl, trivial⟩ ?_
  skip
  refine WC.seq ?_
  refine WC.region ?_
  refine WL.val (rv_assign rfl) rfl ?_
  refine WL.nilThen ?_
  refine WC.seq ?_
  refine WC.region ?_
  refine WL.val (rv_move rfl) rfl ?_
  refine WL.val (rv_len (dt := sdu_1) Try.underlying24 rfl) rfl ?_
  refine WL.val (rv_conv Try.underlying3 Try.underlying5 rfl (wrap_u8 _)) rfl ?_
  refine WL.val (rv_move rfl) rfl ?_
  refine WL.val (rv_len (dt := sdu_1) Try.underlying24 rfl) rfl ?_
  replace hp := bind_inv hp
  obtain ⟨x_5, e_x_5, hp⟩ := hp
  refine WL.val (rv_shr rfl rfl e_x_5) rfl ?_
  refine WL.val (rv_conv Try.underlying3 Try.underlying5 rfl (wrap_u8 _)) rfl ?_
  refine WL.world (rw_buildSlice (sz := 1) (R := (RInt .u8)) (es := [.int .u8 (wu8 (len sdu_1)), .int .u8 (wu8 x_5)]) (dt := [wu8 (len sdu_1), wu8 x_5]) Try.underlying24 Try.sizeOf5 Try.zeroValue5 rfl rfl rfl rfl rfl rfl rfl rfl ⟨_, _, rfl, rfl, rfl, ⟨_, _, rfl, rfl, rfl, rfl⟩⟩ C) rfl ?_
  rintro v w ⟨A_7, k_8, rfl, f_9, C', T⟩
  replace C' : Ctx U0 [] w0 [ob A_7] _ := C'
  replace T : TR U0 [] _ [ob A_7] _ _ := T
  replace f_9 : Own 1 5 (RInt .u8) (Mu U0 [ob A_7]) _ A_7 k_8 [wu8 (len sdu_1), wu8 x_5] := f_9
  replace f_4 := T.sl f_4
  clear T; replace C := C'; clear C'
  refine WL.val (rv_move rfl) rfl ?_
  have f_10 : Sl 1 (RInt .u8) (Mu U0 []) _ A_7 k_8 [wu8 (len sdu_1), wu8 x_5] := f_9.toSl (C.off (i := 0) rfl [] rfl (by decide)) (Mu.weaken (mem_pick [] rfl))
  have T : TR U0 [ob A_7] w [] w [] := TR.pick [] rfl
  have C' : Ctx U0 [] w0 [] _ := C.pick [] (by decide) rfl
  replace f_4 := T.sl f_4
  clear T; replace C := C'; clear C'
  refine WL.world (rw_buildSlice (sz := 1) (R := (RSl 1 (RInt .u8))) (es := [.slice A_7 (List.length [wu8 (len sdu_1), wu8 x_5]) k_8, .slice A_2 (List.length sdu_1) k_3]) (dt := [[wu8 (len sdu_1), wu8 x_5], sdu_1]) Try.underlying23 Try.sizeOf24 Try.zeroValue24 rfl rfl rfl rfl rfl rfl rfl rfl ⟨_, _, rfl, rfl, ⟨_, _, rfl, f_10⟩, ⟨_, _, rfl, rfl, ⟨_, _, rfl, f_4⟩, rfl⟩⟩ C) rfl ?_
  rintro v w ⟨A_12, k_13, rfl, f_14, C', T⟩
  replace C' : Ctx U0 [] w0 [ob A_12] _ := C'
  replace T : TR U0 [] _ [ob A_12] _ _ := T
  replace f_14 : Own 1 24 (RSl 1 (RInt .u8)) (Mu U0 [ob A_12]) _ A_12 k_13 [[wu8 (len sdu_1), wu8 x_5], sdu_1] := f_14
  replace f_4 := T.sl f_4
  replace f_10 := T.sl f_10
  clear T; replace C := C'; clear C'
  have f_15 : Sl 1 (RSl 1 (RInt .u8)) (Mu U0 []) _ A_12 k_13 [[wu8 (len sdu_1), wu8 x_5], sdu_1] := f_14.toSl (C.off (i := 0) rfl [] rfl (by decide)) (Mu.weaken (mem_pick [] rfl))
  have T : TR U0 [ob A_12] w [] w [] := TR.pick [] rfl
  have C' : Ctx U0 [] w0 [] _ := C.pick [] (by decide) rfl
  replace f_4 := T.sl f_4
  replace f_10 := T.sl f_10
  clear T; replace C := C'; clear C'
  replace hp := bind_inv hp
  obtain ⟨x_16, e_x_16, hp⟩ := hp
  refine WL.call (rc_func Try.call37 rfl) (ok_octets_Join F (Mu U0 []) _ [[wu8 (len sdu_1), wu8 x_5], sdu_1] A_12 k_13 (C.give [] [] (by decide) rfl rfl (by decide)) (f_15.mu (mu_give [] [] rfl rfl)) _ e_x_16) rfl ?_
  rintro v w ⟨A_17, k_18, rfl, D, f_19⟩
  obtain ⟨C', T⟩ := C.join D [] [] (by decide) rfl rfl (by decide)
  replace C' : Ctx U0 [] w0 [] _ := C'
  replace T : TR U0 [] _ [] _ [] := T
  replace f_19 : Sl 1 (RInt .u8) (Mu U0 []) _ A_17 k_18 x_16 := f_19.mu (mu_join (R := []) (L2 := []) (fun b h => h))
  replace f_4 := T.sl f_4
  replace f_10 := T.sl f_10
  replace f_15 := T.sl f_15
  clear T; replace C := C'; clear C'
  clear D
  refine WL.val (rv_assign rfl) rfl ?_
  refine WL.nilThen ?_
  obtain rfl := some_inv' hp
  refine WC.ret (retK (rs := [.tmp 2]) (vs := [.slice A_17 (List.length x_16) k_18]) rfl ⟨rv1_tmp rfl, trivial⟩ ?_)
  exact ⟨_, rfl, A_17, k_18, rfl, C, f_19⟩

theorem ok_sdu_Output_1 (F : Nat) (U0 : Nat → Prop) (w0 : World) (p_1 : T_api_Channel) (p_9 : (List (List Int))) (A_2 : Option Addr) (k_3 : Nat) (A_5 : Option Addr) (k_6 : Nat) (b_8 : Nat) (A_10 : Option Addr) (k_11 : Nat) (b_14 : Nat) (C : Ctx U0 [some b_8, some b_14, ob A_10] w0 [some b_8, some b_14, ob A_10] w0) (f_4 : Sl 1 (RSl 1 (RInt .u8)) (Mu U0 [some b_8, some b_14, ob A_10]) w0 A_2 k_3 p_1.Out) (f_7 : Sl 1 (RInt .u8) (Mu U0 [some b_8, some b_14, ob A_10]) w0 A_5 k_6 p_1.In) (hb_8 : Blk w0 b_8 26 [.int .u16 p_1.Local, .int .u16 p_1.Remote, .int .u16 p_1.PSM, .int .i64 p_1.MTU, .int .i64 p_1.MPS, .int .i64 p_1.PeerMTU, .int .i64 p_1.PeerMPS, .int .i64 p_1.TxCredits, .int .i64 p_1.RxCredits, .int .i64 p_1.Given, .slice A_2 (List.length p_1.Out) k_3, .int .i64 p_1.Sent, .slice A_5 (List.length p_1.In) k_6, .int .i64 p_1.Want, .bool p_1.Failed]) (hb_14 : Blk w0 b_14 23 [.slice A_10 (List.length p_9) k_11]) (f_12 : Own 1 24 (RSl 1 (RInt .u8)) (Mu U0 [some b_8, some b_14, ob A_10]) w0 A_10 k_11 p_9) (r : T_api_Channel × (List (List Int))) (hp : sdu_Output_1 F p_1 p_9 = some r) :
    Calls Try.prog 33 #[.pointer (some ⟨b_8, 0, none⟩), .pointer (some ⟨b_14, 0, none⟩)] w0 fun e w => ∃ v, e = .returned v ∧ ∃ (A_50 : Option Addr) (k_51 : Nat) (A_53 : Option Addr) (k_54 : Nat) (A_56 : Option Addr) (k_57 : Nat), (v = .tuple #[]) ∧ (Ctx U0 [some b_8, some b_14, ob A_10] w0 [some b_8, some b_14, ob A_56] w) ∧ (Sl 1 (RSl 1 (RInt .u8)) (Mu U0 [some b_8, some b_14, ob A_56]) w A_50 k_51 r.1.Out) ∧ (Sl 1 (RInt .u8) (Mu U0 [some b_8, some b_14, ob A_56]) w A_53 k_54 r.1.In) ∧ (Blk w b_8 26 [.int .u16 r.1.Local, .int .u16 r.1.Remote, .int .u16 r.1.PSM, .int .i64 r.1.MTU, .int .i64 r.1.MPS, .int .i64 r.1.PeerMTU, .int .i64 r.1.PeerMPS, .int .i64 r.1.TxCredits, .int .i64 r.1.RxCredits, .int .i64 r.1.Given, .slice A_50 (List.length r.1.Out) k_51, .int .i64 r.1.Sent, .slice A_53 (List.length r.1.In) k_54, .int .i64 r.1.Want, .bool r.1.Failed]) ∧ (Blk w b_14 23 [.slice A_56 (List.length r.2) k_57]) ∧ (Own 1 24 (RSl 1 (RInt .u8)) (Mu U0 [some b_8, some b_14, ob A_56]) w A_56 k_57 r.2) := by
  refine calls_enter (vs := [.pointer (some ⟨b_8, 0, none⟩), .pointer (some ⟨b_14, 0, none⟩)]) Try.func33 rfl Try.ntmps33 rfl ?_
  refine WC.prune (l' := [(0, .pointer (some ⟨b_8, 0, none⟩)), (1, .pointer (some ⟨b_14, 0, none⟩))]) ⟨rfl, rfl, trivial⟩ ?_
  skip
  refine WC.seq ?_
  refine WC.region ?_
  refine WL.val (rv_fieldAddr FA26_10 rfl rfl) rfl ?_
  refine WL.val (rv_load1 Try.isAgg23 rfl hb_8 rfl) rfl ?_
  replace hp := bind_inv hp
  obtain ⟨x_15, e_x_15, hp⟩ := hp
  refine WL.ixSl (dt := p_1.Out) Try.underlying23 Try.sizeOf24 rfl rfl rfl f_4 e_x_15 rfl ?_
  intro d_16 es_17 f_18 hl hr
  obtain ⟨A_19, k_20, rfl, f_21⟩ := hr
  clear hl
  refine WL.val (rv_loadA1 (ad := d_16) (o := 0) Try.isAgg24 rfl f_18 rfl) rfl ?_
  replace hp := bind_inv hp
  obtain ⟨x_22, e_x_22, hp⟩ := hp
  refine WL.call (rc_func Try.call34 rfl) (ok_sdu_form F (Mu U0 [some b_8, some b_14, ob A_10]) _ x_15 A_19 k_20 (C.give [0, 1, 2] [] (by decide) rfl rfl (by decide)) (f_21.mu (mu_give [0, 1, 2] [] rfl rfl)) _ e_x_22) rfl ?_
  rintro v w ⟨A_23, k_24, rfl, D, f_25⟩
  obtain ⟨C', T⟩ := C.join D [0, 1, 2] [] (by decide) rfl rfl (by decide)
  replace C' : Ctx U0 [some b_8, some b_14, ob A_10] w0 [some b_8, some b_14, ob A_10] _ := C'
  replace T : TR U0 [some b_8, some b_14, ob A_10] _ [some b_8, some b_14, ob A_10] _ [] := T
  replace f_25 : Sl 1 (RInt .u8) (Mu U0 [some b_8, some b_14, ob A_10]) _ A_23 k_24 x_22 := f_25.mu (mu_join (R := []) (L2 := [some b_8, some b_14, ob A_10]) (fun b h => h))
  replace f_4 := T.sl f_4
  replace f_7 := T.sl f_7
  replace f_21 := T.sl f_21
  replace f_18 := T.at_ f_18 (by simp)
  replace hb_8 := T.blk ne0 hb_8
  replace hb_14 := T.blk ne0 hb_14
  replace f_12 := T.own ne0 f_12
  clear T; replace C := C'; clear C'
  clear D
  refine WL.val (rv_assign rfl) rfl ?_
  refine WL.nilThen ?_
  refine WC.seq ?_
  refine WC.region ?_
  refine WL.val (rv_fieldAddr FA26_11 rfl rfl) rfl ?_
  refine WL.val (rv_load1 Try.isAgg3 rfl hb_8 rfl) rfl ?_
  refine WL.val (rv_move rfl) rfl ?_
  refine WL.val (rv_len (dt := x_22) Try.underlying24 rfl) rfl ?_
  refine WL.val (rv_min rfl rfl) rfl ?_
  refine WL.val (rv_max rfl rfl) rfl ?_
  refine WL.val (rv_assign rfl) rfl ?_
  refine WL.nilThen ?_
  refine WC.seq ?_
  refine WC.region ?_
  refine WL.val (rv_fieldAddr FA26_6 rfl rfl) rfl ?_
  refine WL.val (rv_load1 Try.isAgg3 rfl hb_8 rfl) rfl ?_
  refine WL.val (rv_move rfl) rfl ?_
  refine WL.val (rv_len (dt := x_22) Try.underlying24 rfl) rfl ?_
  refine WL.val (rv_move rfl) rfl ?_
  refine WL.val (rv_sub rfl rfl (wrap_i64 _)) rfl ?_
  refine WL.val (rv_min rfl rfl) rfl ?_
  refine WL.val (rv_max rfl rfl) rfl ?_
  refine WL.val (rv_assign rfl) rfl ?_
  refine WL.nilThen ?_
  refine WC.seq ?_
  refine WC.region ?_
  refine WL.val (rv_move rfl) rfl ?_
  refine WL.val (rv_move rfl) rfl ?_
  refine WL.val (rv_len (dt := x_22) Try.underlying24 rfl) rfl ?_
  refine WL.val (rv_move rfl) rfl ?_
  refine WL.val (rv_sub rfl rfl (wrap_i64 _)) rfl ?_
  refine WL.val (rv_min rfl rfl) rfl ?_
  replace hp := bind_inv hp
  obtain ⟨l_26, e_l_26, hp⟩ := hp
  refine WL.world (rw_make (sz := 1) (zs := [.int .u8 0]) (R := (RInt .u8)) Try.underlying24 I5 rfl rfl rfl rfl rfl rfl rfl (fun _ _ => rfl) e_l_26 C) rfl ?_
  rintro v w ⟨A_28, k_29, rfl, f_30, C', T⟩
  replace C' : Ctx U0 [some b_8, some b_14, ob A_10] w0 [ob A_28, some b_8, some b_14, ob A_10] _ := C'
  replace T : TR U0 [some b_8, some b_14, ob A_10] _ [ob A_28, some b_8, some b_14, ob A_10] _ _ := T
  replace f_30 : Own 1 5 (RInt .u8) (Mu U0 [ob A_28, some b_8, some b_14, ob A_10]) _ A_28 k_29 l_26 := f_30
  replace f_4 := T.sl f_4
  replace f_7 := T.sl f_7
  replace f_25 := T.sl f_25
  replace hb_8 := T.blk ne0 hb_8
  replace hb_14 := T.blk ne0 hb_14
  replace f_12 := T.own ne0 f_12
  clear T; replace C := C'; clear C'
  refine WL.val (rv_assign rfl) rfl ?_
  refine WL.nilThen ?_
  refine WC.seq ?_
  refine WC.region ?_
  refine WL.val (rv_move rfl) rfl ?_
  refine WL.val (rv_move rfl) rfl ?_
  refine WL.val (rv_move rfl) rfl ?_
  replace hp := bind_inv hp
  obtain ⟨l_31, e_l_31, hp⟩ := hp
  refine WL.subSl Try.underlying24 Try.sizeOf5 rfl rfl rfl (.inr ⟨_, rfl⟩) (.inl ⟨rfl, rfl⟩) f_25 e_l_31 rfl ?_
  intro A_32 k_33 f_34
  refine WL.world (rw_copy (i := 0) (dt := l_26) Try.underlying24 (congrArg (Option.map (·.size)) I5) rfl rfl rfl f_30 (f_34.src) rfl C) rfl ?_
  rintro v w ⟨rfl, f_30, C', T⟩
  replace f_4 := T.sl f_4
  replace f_7 := T.sl f_7
  replace f_25 := T.sl f_25
  replace f_34 := T.sl f_34
  replace hb_8 := T.blk (C.ne (i := 1) rfl [0] rfl (by decide)) hb_8
  replace hb_14 := T.blk (C.ne (i := 2) rfl [0] rfl (by decide)) hb_14
  replace f_12 := T.own (C.ne (i := 3) rfl [0] rfl (by decide)) f_12
  clear T; replace C := C'; clear C'
  refine WL.prune (l' := [(0, .pointer (some ⟨b_8, 0, none⟩)), (1, .pointer (some ⟨b_14, 0, none⟩)), (2, .slice A_23 (List.length x_22) k_24), (3, .int .i64 (imax 0 (imin p_1.Sent (len x_22)))), (4, .int .i64 (imax 1 (imin p_1.PeerMPS (w64 ((len x_22) - (imax 0 (imin p_1.Sent (len x_22)))))))), (5, .slice A_28 (List.length (cpy l_26 l_31)) k_29), (32, .slice A_28 (List.length (cpy l_26 l_31)) k_29), (33, .slice A_23 (List.length x_22) k_24), (34, .int .i64 (imax 0 (imin p_1.Sent (len x_22)))), (35, .slice A_32 (List.length l_31) k_33)]) ⟨rfl, rfl, rfl, rfl, rfl, (by rw [show List.length (cpy l_26 l_31) = List.length l_26 from cpy_eq]; rfl), (by rw [show List.length (cpy l_26 l_31) = List.length l_26 from cpy_eq]; rfl), rfl, rfl, rfl, trivial⟩ ?_
  refine WL.nilThen ?_
  refine WC.seq ?_
  refine WC.region ?_
  refine WL.val (rv_load1 Try.isAgg23 rfl hb_14 rfl) rfl ?_
  refine WL.val (rv_move rfl) rfl ?_
  have f_36 : Sl 1 (RInt .u8) (Mu U0 [some b_8, some b_14, ob A_10]) _ A_28 k_29 (cpy l_26 l_31) := f_30.toSl (C.off (i := 0) rfl [1, 2, 3] rfl (by decide)) (Mu.weaken (mem_pick [1, 2, 3] rfl))
  have T : TR U0 [ob A_28, some b_8, some b_14, ob A_10] w [some b_8, some b_14, ob A_10] w [] := TR.pick [1, 2, 3] rfl
  have C' : Ctx U0 [some b_8, some b_14, ob A_10] w0 [some b_8, some b_14, ob A_10] _ := C.pick [1, 2, 3] (by decide) rfl
  replace f_4 := T.sl f_4
  replace f_7 := T.sl f_7
  replace f_25 := T.sl f_25
  replace hb_8 := T.blk ne0 hb_8
  replace hb_14 := T.blk ne0 hb_14
  replace f_12 := T.own ne0 f_12
  clear T; replace C := C'; clear C'
  refine WL.world (rw_buildSlice (sz := 1) (R := (RSl 1 (RInt .u8))) (es := [.slice A_28 (List.length (cpy l_26 l_31)) k_29]) (dt := [cpy l_26 l_31]) Try.underlying23 Try.sizeOf24 Try.zeroValue24 rfl rfl rfl rfl rfl rfl rfl rfl ⟨_, _, rfl, rfl, ⟨_, _, rfl, f_36⟩, rfl⟩ C) rfl ?_
  rintro v w ⟨A_38, k_39, rfl, f_40, C', T⟩
  replace C' : Ctx U0 [some b_8, some b_14, ob A_10] w0 [ob A_38, some b_8, some b_14, ob A_10] _ := C'
  replace T : TR U0 [some b_8, some b_14, ob A_10] _ [ob A_38, some b_8, some b_14, ob A_10] _ _ := T
  replace f_40 : Own 1 24 (RSl 1 (RInt .u8)) (Mu U0 [ob A_38, some b_8, some b_14, ob A_10]) _ A_38 k_39 [cpy l_26 l_31] := f_40
  replace f_4 := T.sl f_4
  replace f_7 := T.sl f_7
  replace f_25 := T.sl f_25
  replace f_36 := T.sl f_36
  replace hb_8 := T.blk ne0 hb_8
  replace hb_14 := T.blk ne0 hb_14
  replace f_12 := T.own ne0 f_12
  clear T; replace C := C'; clear C'
  replace hp := bind_inv hp
  obtain ⟨l_41, e_l_41, hp⟩ := hp
  refine WL.world (rw_append (i := 3) (dt := p_9) Try.underlying23 I24 rfl rfl rfl rfl rfl rfl rfl rfl f_12 (f_40.src) e_l_41 rfl C) rfl ?_
  rintro v w ⟨A_42, k_43, rfl, f_44, C', T⟩
  replace C' : Ctx U0 [some b_8, some b_14, ob A_10] w0 [ob A_38, some b_8, some b_14, ob A_42] _ := C'
  replace T : TR U0 [ob A_38, some b_8, some b_14, ob A_10] _ [ob A_38, some b_8, some b_14, ob A_42] _ _ := T
  replace f_44 : Own 1 24 (RSl 1 (RInt .u8)) (Mu U0 [ob A_38, some b_8, some b_14, ob A_42]) _ A_42 k_43 l_41 := f_44
  replace f_4 := T.sl f_4
  replace f_7 := T.sl f_7
  replace f_25 := T.sl f_25
  replace f_36 := T.sl f_36
  replace hb_8 := T.blk (C.ne (i := 1) rfl [3] rfl (by decide)) hb_8
  replace hb_14 := T.blk (C.ne (i := 2) rfl [3] rfl (by decide)) hb_14
  replace f_40 := T.own (C.ne (i := 0) rfl [3] rfl (by decide)) f_40
  clear T; replace C := C'; clear C'
  refine WL.storeK (rs_store (i := 2) (cs' := [.slice A_42 (List.length l_41) k_43]) Try.sizeOf23 rfl rfl rfl rfl rfl hb_14 rfl C rfl rfl) ?_
  rintro w ⟨hb_14, C', T⟩
  replace f_4 := T.sl f_4
  replace f_7 := T.sl f_7
  replace f_25 := T.sl f_25
  replace f_36 := T.sl f_36
  replace hb_8 := T.blk (C.ne (i := 1) rfl [2] rfl (by decide)) hb_8
  replace f_40 := T.own (C.ne (i := 0) rfl [2] rfl (by decide)) f_40
  replace f_44 := T.own (C.ne (i := 3) rfl [2] rfl (by decide)) f_44
  clear T; replace C := C'; clear C'
  refine WL.nilThen ?_
  refine WC.seq ?_
  refine WC.region ?_
  refine WL.val (rv_fieldAddr FA26_7 rfl rfl) rfl ?_
  refine WL.val (rv_load1 Try.isAgg3 rfl hb_8 rfl) rfl ?_
  refine WL.val (rv_sub rfl rfl (wrap_i64 _)) rfl ?_
  refine WL.val (rv_fieldAddr FA26_7 rfl rfl) rfl ?_
  refine WL.storeK (rs_store (i := 1) (cs' := [.int .u16 p_1.Local, .int .u16 p_1.Remote, .int .u16 p_1.PSM, .int .i64 p_1.MTU, .int .i64 p_1.MPS, .int .i64 p_1.PeerMTU, .int .i64 p_1.PeerMPS, .int .i64 (w64 (p_1.TxCredits - 1)), .int .i64 p_1.RxCredits, .int .i64 p_1.Given, .slice A_2 (List.length p_1.Out) k_3, .int .i64 p_1.Sent, .slice A_5 (List.length p_1.In) k_6, .int .i64 p_1.Want, .bool p_1.Failed]) Try.sizeOf3 rfl rfl rfl rfl rfl hb_8 rfl C rfl rfl) ?_
  rintro w ⟨hb_8, C', T⟩
  replace f_4 := T.sl f_4
  replace f_7 := T.sl f_7
  replace f_25 := T.sl f_25
  replace hb_14 := T.blk (C.ne (i := 2) rfl [1] rfl (by decide)) hb_14
  replace f_44 := T.own (C.ne (i := 3) rfl [1] rfl (by decide)) f_44
  clear T; replace C := C'; clear C'
  refine WL.nilThen ?_
  refine WC.seq ?_
  refine WC.region ?_
  refine WL.val (rv_move rfl) rfl ?_
  refine WL.val (rv_move rfl) rfl ?_
  refine WL.val (rv_add rfl rfl (wrap_i64 _)) rfl ?_
  refine WL.val (rv_fieldAddr FA26_11 rfl rfl) rfl ?_
  refine WL.storeK (rs_store (i := 1) (cs' := [.int .u16 p_1.Local, .int .u16 p_1.Remote, .int .u16 p_1.PSM, .int .i64 p_1.MTU, .int .i64 p_1.MPS, .int .i64 p_1.PeerMTU, .int .i64 p_1.PeerMPS, .int .i64 (w64 (p_1.TxCredits - 1)), .int .i64 p_1.RxCredits, .int .i64 p_1.Given, .slice A_2 (List.length p_1.Out) k_3, .int .i64 (w64 ((imax 0 (imin p_1.Sent (len x_22))) + (imax 1 (imin p_1.PeerMPS (w64 ((len x_22) - (imax 0 (imin p_1.Sent (len x_22))))))))), .slice A_5 (List.length p_1.In) k_6, .int .i64 p_1.Want, .bool p_1.Failed]) Try.sizeOf3 rfl rfl rfl rfl rfl hb_8 rfl C rfl rfl) ?_
  rintro w ⟨hb_8, C', T⟩
  replace f_4 := T.sl f_4
  replace f_7 := T.sl f_7
  replace f_25 := T.sl f_25
  replace hb_14 := T.blk (C.ne (i := 2) rfl [1] rfl (by decide)) hb_14
  replace f_44 := T.own (C.ne (i := 3) rfl [1] rfl (by decide)) f_44
  clear T; replace C := C'; clear C'
  refine WL.nilThen ?_
  refine WC.seq ?_
  refine WC.region ?_
  refine WL.val (rv_fieldAddr FA26_11 rfl rfl) rfl ?_
  refine WL.val (rv_load1 Try.isAgg3 rfl hb_8 rfl) rfl ?_
  refine WL.val (rv_move rfl) rfl ?_
  refine WL.val (rv_len (dt := x_22) Try.underlying24 rfl) rfl ?_
  refine WL.val (rv_geq rfl rfl) rfl ?_
  refine WL.nilThen ?_
  refine WC.cond rfl (fun hc => ?_) (fun hc => ?_)
  · replace hp := if_t hp hc
    clear hc
    refine WC.region ?_
    refine WL.val (rv_fieldAddr FA26_10 rfl rfl) rfl ?_
    refine WL.val (rv_load1 Try.isAgg23 rfl hb_8 rfl) rfl ?_
    replace hp := bind_inv hp
    obtain ⟨l_46, e_l_46, hp⟩ := hp
    refine WL.subSl Try.underlying23 Try.sizeOf24 rfl rfl rfl (.inr ⟨_, rfl⟩) (.inl ⟨rfl, rfl⟩) f_4 e_l_46 rfl ?_
    intro A_47 k_48 f_49
    refine WL.val (rv_fieldAddr FA26_10 rfl rfl) rfl ?_
    refine WL.storeK (rs_store (i := 1) (cs' := [.int .u16 p_1.Local, .int .u16 p_1.Remote, .int .u16 p_1.PSM, .int .i64 p_1.MTU, .int .i64 p_1.MPS, .int .i64 p_1.PeerMTU, .int .i64 p_1.PeerMPS, .int .i64 (w64 (p_1.TxCredits - 1)), .int .i64 p_1.RxCredits, .int .i64 p_1.Given, .slice A_47 (List.length l_46) k_48, .int .i64 (w64 ((imax 0 (imin p_1.Sent (len x_22))) + (imax 1 (imin p_1.PeerMPS (w64 ((len x_22) - (imax 0 (imin p_1.Sent (len x_22))))))))), .slice A_5 (List.length p_1.In) k_6, .int .i64 p_1.Want, .bool p_1.Failed]) Try.sizeOf23 rfl rfl rfl rfl rfl hb_8 rfl C rfl rfl) ?_
    rintro w ⟨hb_8, C', T⟩
    replace f_4 := T.sl f_4
    replace f_7 := T.sl f_7
    replace f_49 := T.sl f_49
    replace hb_14 := T.blk (C.ne (i := 2) rfl [1] rfl (by decide)) hb_14
    replace f_44 := T.own (C.ne (i := 3) rfl [1] rfl (by decide)) f_44
    clear T; replace C := C'; clear C'
    refine WL.val (rv_fieldAddr FA26_11 rfl rfl) rfl ?_
    refine WL.storeK (rs_store (i := 1) (cs' := [.int .u16 p_1.Local, .int .u16 p_1.Remote, .int .u16 p_1.PSM, .int .i64 p_1.MTU, .int .i64 p_1.MPS, .int .i64 p_1.PeerMTU, .int .i64 p_1.PeerMPS, .int .i64 (w64 (p_1.TxCredits - 1)), .int .i64 p_1.RxCredits, .int .i64 p_1.Given, .slice A_47 (List.length l_46) k_48, .int .i64 0, .slice A_5 (List.length p_1.In) k_6, .int .i64 p_1.Want, .bool p_1.Failed]) Try.sizeOf3 rfl rfl rfl rfl rfl hb_8 rfl C rfl rfl) ?_
    rintro w ⟨hb_8, C', T⟩
    replace f_4 := T.sl f_4
    replace f_7 := T.sl f_7
    replace f_49 := T.sl f_49
    replace hb_14 := T.blk (C.ne (i := 2) rfl [1] rfl (by decide)) hb_14
    replace f_44 := T.own (C.ne (i := 3) rfl [1] rfl (by decide)) f_44
    clear T; replace C := C'; clear C'
    refine WL.nil (fun a ha => ?_)
    obtain rfl := some_inv' hp
    refine (retK (rs := []) (vs := []) rfl trivial ?_) a ha
    have T : TR U0 [ob A_38, some b_8, some b_14, ob A_42] w [some b_8, some b_14, ob A_42] w [] := TR.pick [1, 2, 3] rfl
    have C' : Ctx U0 [some b_8, some b_14, ob A_10] w0 [some b_8, some b_14, ob A_42] _ := C.pick [1, 2, 3] (by decide) rfl
    replace f_7 := T.sl f_7
    replace f_49 := T.sl f_49
    replace hb_8 := T.blk ne0 hb_8
    replace hb_14 := T.blk ne0 hb_14
    replace f_44 := T.own ne0 f_44
    clear T; replace C := C'; clear C'
    exact ⟨_, rfl, A_47, k_48, A_5, k_6, A_42, k_43, rfl, C, f_49, f_7, hb_8, hb_14, f_44⟩
  · replace hp := if_f hp hc
    clear hc
    refine WC.skip (fun a ha => ?_)
    obtain rfl := some_inv' hp
    refine (retK (rs := []) (vs := []) rfl trivial ?_) a ha
    have T : TR U0 [ob A_38, some b_8, some b_14, ob A_42] w [some b_8, some b_14, ob A_42] w [] := TR.pick [1, 2, 3] rfl
    have C' : Ctx U0 [some b_8, some b_14, ob A_10] w0 [some b_8, some b_14, ob A_42] _ := C.pick [1, 2, 3] (by decide) rfl
    replace f_4 := T.sl f_4
    replace f_7 := T.sl f_7
    replace hb_8 := T.blk ne0 hb_8
    replace hb_14 := T.blk ne0 hb_14
    replace f_44 := T.own ne0 f_44
    clear T; replace C := C'; clear C'
    exact ⟨_, rfl, A_2, k_3, A_5, k_6, A_42, k_43, rfl, C, f_4, f_7, hb_8, hb_14, f_44⟩

theorem ok_sdu_Output (F : Nat) (U0 : Nat → Prop) (w0 : World) (c_1 : T_api_Channel) (A_2 : Option Addr) (k_3 : Nat) (A_5 : Option Addr) (k_6 : Nat) (C : Ctx U0 [] w0 [] w0) (f_4 : Sl 1 (RSl 1 (RInt .u8)) (Mu U0 []) w0 A_2 k_3 c_1.Out) (f_7 : Sl 1 (RInt .u8) (Mu U0 []) w0 A_5 k_6 c_1.In) (r : T_api_Channel × (List (List Int))) (hp : sdu_Output F c_1 = some r) :
    Calls Try.prog 12 #[.agg #[.int .u16 c_1.Local, .int .u16 c_1.Remote, .int .u16 c_1.PSM, .int .i64 c_1.MTU, .int .i64 c_1.MPS, .int .i64 c_1.PeerMTU, .int .i64 c_1.PeerMPS, .int .i64 c_1.TxCredits, .int .i64 c_1.RxCredits, .int .i64 c_1.Given, .slice A_2 (List.length c_1.Out) k_3, .int .i64 c_1.Sent, .slice A_5 (List.length c_1.In) k_6, .int .i64 c_1.Want, .bool c_1.Failed]] w0 fun e w => ∃ v, e = .returned v ∧ ∃ (A_89 : Option Addr) (k_90 : Nat) (A_92 : Option Addr) (k_93 : Nat) (A_95 : Option Addr) (k_96 : Nat), (v = .tuple #[.agg #[.int .u16 r.1.Local, .int .u16 r.1.Remote, .int .u16 r.1.PSM, .int .i64 r.1.MTU, .int .i64 r.1.MPS, .int .i64 r.1.PeerMTU, .int .i64 r.1.PeerMPS, .int .i64 r.1.TxCredits, .int .i64 r.1.RxCredits, .int .i64 r.1.Given, .slice A_89 (List.length r.1.Out) k_90, .int .i64 r.1.Sent, .slice A_92 (List.length r.1.In) k_93, .int .i64 r.1.Want, .bool r.1.Failed], .slice A_95 (List.length r.2) k_96]) ∧ (Ctx U0 [] w0 [] w) ∧ (Sl 1 (RSl 1 (RInt .u8)) (Mu U0 []) w A_89 k_90 r.1.Out) ∧ (Sl 1 (RInt .u8) (Mu U0 []) w A_92 k_93 r.1.In) ∧ (Sl 1 (RSl 1 (RInt .u8)) (Mu U0 []) w A_95 k_96 r.2) := by
  refine calls_enter (vs := [.agg #[.int .u16 c_1.Local, .int .u16 c_1.Remote, .int .u16 c_1.PSM, .int .i64 c_1.MTU, .int .i64 c_1.MPS, .int .i64 c_1.PeerMTU, .int .i64 c_1.PeerMPS, .int .i64 c_1.TxCredits, .int .i64 c_1.RxCredits, .int .i64 c_1.Given, .slice A_2 (List.length c_1.Out) k_3, .int .i64 c_1.Sent, .slice A_5 (List.length c_1.In) k_6, .int .i64 c_1.Want, .bool c_1.Failed]]) Try.func12 rfl Try.ntmps12 rfl ?_
  refine WC.prune (l' := [(0, .agg #[.int .u16 c_1.Local, .int .u16 c_1.Remote, .int .u16 c_1.PSM, .int .i64 c_1.MTU, .int .i64 c_1.MPS, .int .i64 c_1.PeerMTU, .int .i64 c_1.PeerMPS, .int .i64 c_1.TxCredits, .int .i64 c_1.RxCredits, .int .i64 c_1.Given, .slice A_2 (List.length c_1.Out) k_3, .int .i64 c_1.Sent, .slice A_5 (List.length c_1.In) k_6, .int .i64 c_1.Want, .bool c_1.Failed])]) ⟨rfl, trivial⟩ ?_
  skip
  refine WC.seq ?_
  refine WC.region ?_
  refine WL.world (rw_box rfl rfl C) rfl ?_
  rintro v w ⟨b_8, rfl, hb_8, C', T⟩
  replace C' : Ctx U0 [] w0 [some b_8] _ := C'
  replace T : TR U0 [] _ [some b_8] _ [] := T
  replace hb_8 : Blk _ b_8 26 [.int .u16 c_1.Local, .int .u16 c_1.Remote, .int .u16 c_1.PSM, .int .i64 c_1.MTU, .int .i64 c_1.MPS, .int .i64 c_1.PeerMTU, .int .i64 c_1.PeerMPS, .int .i64 c_1.TxCredits, .int .i64 c_1.RxCredits, .int .i64 c_1.Given, .slice A_2 (List.length c_1.Out) k_3, .int .i64 c_1.Sent, .slice A_5 (List.length c_1.In) k_6, .int .i64 c_1.Want, .bool c_1.Failed] := hb_8
  replace f_4 := T.sl f_4
  replace f_7 := T.sl f_7
  clear T; replace C := C'; clear C'
  refine WL.world (rw_alloc Try.zeroValue26 rfl C) rfl ?_
  rintro v w ⟨b_9, rfl, hb_9, C', T⟩
  replace C' : Ctx U0 [] w0 [some b_9, some b_8] _ := C'
  replace T : TR U0 [some b_8] _ [some b_9, some b_8] _ [] := T
  replace hb_9 : Blk _ b_9 26 [.int .u16 0, .int .u16 0, .int .u16 0, .int .i64 0, .int .i64 0, .int .i64 0, .int .i64 0, .int .i64 0, .int .i64 0, .int .i64 0, .slice none 0 0, .int .i64 0, .slice none 0 0, .int .i64 0, .bool false] := hb_9
  replace f_4 := T.sl f_4
  replace f_7 := T.sl f_7
  replace hb_8 := T.blk ne0 hb_8
  clear T; replace C := C'; clear C'
  refine WL.val (rv_assign rfl) rfl ?_
  refine WL.nilThen ?_
  refine WC.seq ?_
  refine WC.region ?_
  refine WL.val (rv_loadN Try.isAgg26 Try.sizeOf26 rfl hb_8 rfl rfl) rfl ?_
  replace hp := bind_inv hp
  obtain ⟨x_10, e_x_10, hp⟩ := hp
  refine WL.call (rc_func Try.call32 rfl) (ok_sdu_copied F (Mu U0 [some b_9, some b_8]) _ c_1 A_2 k_3 A_5 k_6 (C.give [0, 1] [] (by decide) rfl rfl (by decide)) (f_4.mu (mu_give [0, 1] [] rfl rfl)) (f_7.mu (mu_give [0, 1] [] rfl rfl)) _ e_x_10) rfl ?_
  rintro v w ⟨A_11, k_12, A_15, k_16, rfl, D, f_17, f_13⟩
  obtain ⟨C', T⟩ := C.join D [0, 1] [] (by decide) rfl rfl (by decide)
  replace C' : Ctx U0 [] w0 [ob A_11, some b_9, some b_8] _ := C'
  replace T : TR U0 [some b_9, some b_8] _ [ob A_11, some b_9, some b_8] _ [] := T
  replace f_17 : Sl 1 (RInt .u8) (Mu U0 [ob A_11, some b_9, some b_8]) _ A_15 k_16 x_10.In := f_17.mu (mu_join (R := [ob A_11]) (L2 := [some b_9, some b_8]) (fun b h => h))
  replace f_13 : Own 1 24 (RSl 1 (RInt .u8)) (Mu U0 [ob A_11, some b_9, some b_8]) _ A_11 k_12 x_10.Out := f_13.mu (mu_join (R := [ob A_11]) (L2 := [some b_9, some b_8]) (fun b h => h))
  replace f_4 := T.sl f_4
  replace f_7 := T.sl f_7
  replace hb_8 := T.blk ne0 hb_8
  replace hb_9 := T.blk ne0 hb_9
  clear T; replace C := C'; clear C'
  clear D
  refine WL.storeK (rs_store (i := 2) (cs' := [.int .u16 x_10.Local, .int .u16 x_10.Remote, .int .u16 x_10.PSM, .int .i64 x_10.MTU, .int .i64 x_10.MPS, .int .i64 x_10.PeerMTU, .int .i64 x_10.PeerMPS, .int .i64 x_10.TxCredits, .int .i64 x_10.RxCredits, .int .i64 x_10.Given, .slice A_11 (List.length x_10.Out) k_12, .int .i64 x_10.Sent, .slice A_15 (List.length x_10.In) k_16, .int .i64 x_10.Want, .bool x_10.Failed]) Try.sizeOf26 rfl rfl rfl rfl rfl hb_8 rfl C rfl rfl) ?_
  rintro w ⟨hb_8, C', T⟩
  replace f_4 := T.sl f_4
  replace f_7 := T.sl f_7
  replace f_17 := T.sl f_17
  replace hb_9 := T.blk (C.ne (i := 1) rfl [2] rfl (by decide)) hb_9
  replace f_13 := T.own (C.ne (i := 0) rfl [2] rfl (by decide)) f_13
  clear T; replace C := C'; clear C'
  refine WL.nilThen ?_
  refine WC.seq ?_
  refine WC.seq ?_
  refine WC.region ?_
  refine WL.val (rv_fieldAddr FA26_14 rfl rfl) rfl ?_
  refine WL.val (rv_load1 Try.isAgg4 rfl hb_8 rfl) rfl ?_
  refine WL.nilThen ?_
  refine WC.cond rfl (fun hc => ?_) (fun hc => ?_)
  · replace hp := if_t hp hc
    clear hc
    refine WC.seq ?_
    refine WC.region ?_
    refine WL.val (rv_loadN Try.isAgg26 Try.sizeOf26 rfl hb_8 rfl rfl) rfl ?_
    refine WL.storeK (rs_store (i := 1) (cs' := [.int .u16 x_10.Local, .int .u16 x_10.Remote, .int .u16 x_10.PSM, .int .i64 x_10.MTU, .int .i64 x_10.MPS, .int .i64 x_10.PeerMTU, .int .i64 x_10.PeerMPS, .int .i64 x_10.TxCredits, .int .i64 x_10.RxCredits, .int .i64 x_10.Given, .slice A_11 (List.length x_10.Out) k_12, .int .i64 x_10.Sent, .slice A_15 (List.length x_10.In) k_16, .int .i64 x_10.Want, .bool x_10.Failed]) Try.sizeOf26 rfl rfl rfl rfl rfl hb_9 rfl C rfl rfl) ?_
    rintro w ⟨hb_9, C', T⟩
    replace f_17 := T.sl f_17
    replace hb_8 := T.blk (C.ne (i := 2) rfl [1] rfl (by decide)) hb_8
    replace f_13 := T.own (C.ne (i := 0) rfl [1] rfl (by decide)) f_13
    clear T; replace C := C'; clear C'
    refine WL.val (rv_assign rfl) rfl ?_
    refine WL.nilThen ?_
    obtain rfl := some_inv' hp
    refine WC.ret (retK (rs := [.cell 2 26, .tmp 3]) (vs := [.agg #[.int .u16 x_10.Local, .int .u16 x_10.Remote, .int .u16 x_10.PSM, .int .i64 x_10.MTU, .int .i64 x_10.MPS, .int .i64 x_10.PeerMTU, .int .i64 x_10.PeerMPS, .int .i64 x_10.TxCredits, .int .i64 x_10.RxCredits, .int .i64 x_10.Given, .slice A_11 (List.length x_10.Out) k_12, .int .i64 x_10.Sent, .slice A_15 (List.length x_10.In) k_16, .int .i64 x_10.Want, .bool x_10.Failed], .slice none 0 0]) rfl ⟨rv1_cell Try.isAgg26 Try.sizeOf26 rfl hb_9 rfl, rv1_tmp rfl, trivial⟩ ?_)
    have f_27 : Sl 1 (RSl 1 (RInt .u8)) (Mu U0 [some b_9, some b_8]) _ A_11 k_12 x_10.Out := f_13.toSl (C.off (i := 0) rfl [1, 2] rfl (by decide)) (Mu.weaken (mem_pick [1, 2] rfl))
    have T : TR U0 [ob A_11, some b_9, some b_8] w [some b_9, some b_8] w [] := TR.pick [1, 2] rfl
    have C' : Ctx U0 [] w0 [some b_9, some b_8] _ := C.pick [1, 2] (by decide) rfl
    replace f_17 := T.sl f_17
    clear T; replace C := C'; clear C'
    have T : TR U0 [some b_9, some b_8] w [] w [] := TR.pick [] rfl
    have C' : Ctx U0 [] w0 [] _ := C.pick [] (by decide) rfl
    replace f_17 := T.sl f_17
    replace f_27 := T.sl f_27
    clear T; replace C := C'; clear C'
    exact ⟨_, rfl, A_11, k_12, A_15, k_16, none, 0, rfl, C, f_27, f_17, Sl.nil0⟩
  · replace hp := if_f hp hc
    clear hc
    refine WC.skipThen ?_
    refine WC.seq ?_
    refine WC.region ?_
    refine WL.world (rw_alloc Try.zeroValue23 rfl C) rfl ?_
    rintro v w ⟨b_18, rfl, hb_18, C', T⟩
    replace C' : Ctx U0 [] w0 [some b_18, ob A_11, some b_9, some b_8] _ := C'
    replace T : TR U0 [ob A_11, some b_9, some b_8] _ [some b_18, ob A_11, some b_9, some b_8] _ [] := T
    replace hb_18 : Blk _ b_18 23 [.slice none 0 0] := hb_18
    replace f_17 := T.sl f_17
    replace hb_8 := T.blk ne0 hb_8
    replace hb_9 := T.blk ne0 hb_9
    replace f_13 := T.own ne0 f_13
    clear T; replace C := C'; clear C'
    refine WL.nilThen ?_
    refine WC.seq ?_
    refine WC.region ?_
    refine WL.val (rv_makeFunc rfl) rfl ?_
    refine WL.val (rv_assign rfl) rfl ?_
    refine WL.nilThen ?_
    refine WC.seqCut (fun a w => ∃ (c_45 : T_api_Channel) (l_40 : (List (List Int))) (A_30 : Option Addr) (k_31 : Nat) (A_35 : Option Addr) (k_36 : Nat) (A_41 : Option Addr) (k_42 : Nat), (sdu_Output_j1 F c_45 l_40 = some r) ∧ (Holds 25 [(1, .pointer (some ⟨b_8, 0, none⟩)), (2, .pointer (some ⟨b_9, 0, none⟩)), (4, .pointer (some ⟨b_18, 0, none⟩))] a) ∧ (Ctx U0 [] w0 [some b_18, some b_9, some b_8, ob A_41] w) ∧ (Sl 1 (RSl 1 (RInt .u8)) (Mu U0 [some b_18, some b_9, some b_8, ob A_41]) w A_30 k_31 c_45.Out) ∧ (Sl 1 (RInt .u8) (Mu U0 [some b_18, some b_9, some b_8, ob A_41]) w A_35 k_36 c_45.In) ∧ (Blk w b_8 26 [.int .u16 c_45.Local, .int .u16 c_45.Remote, .int .u16 c_45.PSM, .int .i64 c_45.MTU, .int .i64 c_45.MPS, .int .i64 c_45.PeerMTU, .int .i64 c_45.PeerMPS, .int .i64 c_45.TxCredits, .int .i64 c_45.RxCredits, .int .i64 c_45.Given, .slice A_30 (List.length c_45.Out) k_31, .int .i64 c_45.Sent, .slice A_35 (List.length c_45.In) k_36, .int .i64 c_45.Want, .bool c_45.Failed]) ∧ (Blk w b_9 26 [.int .u16 0, .int .u16 0, .int .u16 0, .int .i64 0, .int .i64 0, .int .i64 0, .int .i64 0, .int .i64 0, .int .i64 0, .int .i64 0, .slice none 0 0, .int .i64 0, .slice none 0 0, .int .i64 0, .bool false]) ∧ (Blk w b_18 23 [.slice A_41 (List.length l_40) k_42]) ∧ (Own 1 24 (RSl 1 (RInt .u8)) (Mu U0 [some b_18, some b_9, some b_8, ob A_41]) w A_41 k_42 l_40)) ?_ ?_
    · refine WC.block ?_
      obtain ⟨o_73, hi_73, hpo_73⟩ := bind_inv hp
      clear hp
      refine WC.loop (fun n a w => ∃ (c_72 : T_api_Channel) (l_67 : (List (List Int))) (A_57 : Option Addr) (k_58 : Nat) (A_62 : Option Addr) (k_63 : Nat) (A_68 : Option Addr) (k_69 : Nat), (iter (fun s => sdu_Output_l73 F s.1 s.2) n (c_72, l_67) = some o_73) ∧ (Holds 25 [(1, .pointer (some ⟨b_8, 0, none⟩)), (2, .pointer (some ⟨b_9, 0, none⟩)), (4, .pointer (some ⟨b_18, 0, none⟩)), (5, .func (.func 33) #[] #[.pointer (some ⟨b_8, 0, none⟩), .pointer (some ⟨b_18, 0, none⟩)])] a) ∧ (Ctx U0 [] w0 [some b_18, some b_9, some b_8, ob A_68] w) ∧ (Sl 1 (RSl 1 (RInt .u8)) (Mu U0 [some b_18, some b_9, some b_8, ob A_68]) w A_57 k_58 c_72.Out) ∧ (Sl 1 (RInt .u8) (Mu U0 [some b_18, some b_9, some b_8, ob A_68]) w A_62 k_63 c_72.In) ∧ (Blk w b_8 26 [.int .u16 c_72.Local, .int .u16 c_72.Remote, .int .u16 c_72.PSM, .int .i64 c_72.MTU, .int .i64 c_72.MPS, .int .i64 c_72.PeerMTU, .int .i64 c_72.PeerMPS, .int .i64 c_72.TxCredits, .int .i64 c_72.RxCredits, .int .i64 c_72.Given, .slice A_57 (List.length c_72.Out) k_58, .int .i64 c_72.Sent, .slice A_62 (List.length c_72.In) k_63, .int .i64 c_72.Want, .bool c_72.Failed]) ∧ (Blk w b_9 26 [.int .u16 0, .int .u16 0, .int .u16 0, .int .i64 0, .int .i64 0, .int .i64 0, .int .i64 0, .int .i64 0, .int .i64 0, .int .i64 0, .slice none 0 0, .int .i64 0, .slice none 0 0, .int .i64 0, .bool false]) ∧ (Blk w b_18 23 [.slice A_68 (List.length l_67) k_69]) ∧ (Own 1 24 (RSl 1 (RInt .u8)) (Mu U0 [some b_18, some b_9, some b_8, ob A_68]) w A_68 k_69 l_67)) F ?_ ?_
      · intro a ha
        have f_88 : Sl 1 (RSl 1 (RInt .u8)) (Mu U0 [some b_18, some b_9, some b_8]) _ A_11 k_12 x_10.Out := f_13.toSl (C.off (i := 1) rfl [0, 2, 3] rfl (by decide)) (Mu.weaken (mem_pick [0, 2, 3] rfl))
        have T : TR U0 [some b_18, ob A_11, some b_9, some b_8] w [some b_18, some b_9, some b_8] w [] := TR.pick [0, 2, 3] rfl
        have C' : Ctx U0 [] w0 [some b_18, some b_9, some b_8] _ := C.pick [0, 2, 3] (by decide) rfl
        replace f_17 := T.sl f_17
        replace hb_8 := T.blk ne0 hb_8
        replace hb_9 := T.blk ne0 hb_9
        replace hb_18 := T.blk ne0 hb_18
        clear T; replace C := C'; clear C'
        obtain ⟨C', T⟩ := C.addNone
        replace f_17 := T.sl f_17
        replace f_88 := T.sl f_88
        replace hb_8 := T.blk ne0 hb_8
        replace hb_9 := T.blk ne0 hb_9
        replace hb_18 := T.blk ne0 hb_18
        clear T; replace C := C'; clear C'
        have T : TR U0 [ob none, some b_18, some b_9, some b_8] w [some b_18, some b_9, some b_8, ob none] w [] := TR.pick [1, 2, 3, 0] rfl
        have C' : Ctx U0 [] w0 [some b_18, some b_9, some b_8, ob none] _ := C.pick [1, 2, 3, 0] (by decide) rfl
        replace f_17 := T.sl f_17
        replace f_88 := T.sl f_88
        replace hb_8 := T.blk ne0 hb_8
        replace hb_9 := T.blk ne0 hb_9
        replace hb_18 := T.blk ne0 hb_18
        clear T; replace C := C'; clear C'
        exact ⟨x_10, [], A_11, k_12, A_15, k_16, none, 0, hi_73, ha.sub ⟨rfl, rfl, rfl, rfl, trivial⟩, C, f_88, f_17, hb_8, hb_9, hb_18, Own.nil⟩
      · rintro n_73 a w ⟨c_72, l_67, A_57, k_58, A_62, k_63, A_68, k_69, hi_73, ha, C, f_59, f_64, hb_8, hb_9, hb_18, f_70⟩
        obtain ⟨n_73, q_73, rfl, hp, hs_73⟩ := iter_inv hi_73
        replace hp : sdu_Output_l73 F c_72 l_67 = some q_73 := hp
        clear hi_73
        refine WC.ofJ (l := [(1, .pointer (some ⟨b_8, 0, none⟩)), (2, .pointer (some ⟨b_9, 0, none⟩)), (4, .pointer (some ⟨b_18, 0, none⟩)), (5, .func (.func 33) #[] #[.pointer (some ⟨b_8, 0, none⟩), .pointer (some ⟨b_18, 0, none⟩)])]) ?_ ha
        refine WC.seq ?_
        refine WC.seq ?_
        refine WC.region ?_
        refine WL.val (rv_fieldAddr FA26_10 rfl rfl) rfl ?_
        refine WL.val (rv_load1 Try.isAgg23 rfl hb_8 rfl) rfl ?_
        refine WL.val (rv_len (dt := c_72.Out) Try.underlying23 rfl) rfl ?_
        refine WL.val (rv_gtr rfl rfl) rfl ?_
        refine WL.val (rv_move rfl) rfl ?_
        refine WL.cutAt 4 (fun a w' => w = w' ∧ Holds 25 [(1, .pointer (some ⟨b_8, 0, none⟩)), (2, .pointer (some ⟨b_9, 0, none⟩)), (4, .pointer (some ⟨b_18, 0, none⟩)), (5, .func (.func 33) #[] #[.pointer (some ⟨b_8, 0, none⟩), .pointer (some ⟨b_18, 0, none⟩)]), (20, .bool ((decide ((len c_72.Out) > 0)) && (decide (c_72.TxCredits > 0))))] a) ?_ ?_
        · rcases Bool.eq_false_or_eq_true (decide ((len c_72.Out) > 0)) with hg_74 | hg_74
          · refine WL.yes rfl rfl hg_74 ?_
            refine WL.val (rv_fieldAddr FA26_7 rfl rfl) rfl ?_
            refine WL.yes rfl rfl hg_74 ?_
            refine WL.val (rv_load1 Try.isAgg3 rfl hb_8 rfl) rfl ?_
            refine WL.yes rfl rfl hg_74 ?_
            refine WL.val (rv_gtr rfl rfl) rfl ?_
            refine WL.val (rv_pick_t rfl hg_74 rfl) rfl ?_
            refine WL.nil (fun a ha => ?_)
            exact ⟨rfl, ha.sub ⟨rfl, rfl, rfl, rfl, and_t hg_74, trivial⟩⟩
          · refine WL.no rfl rfl hg_74 rfl ?_
            refine WL.no rfl rfl hg_74 rfl ?_
            refine WL.no rfl rfl hg_74 rfl ?_
            refine WL.val (rv_pick_f rfl hg_74 rfl) rfl ?_
            refine WL.nil (fun a ha => ?_)
            exact ⟨rfl, ha.sub ⟨rfl, rfl, rfl, rfl, and_f hg_74, trivial⟩⟩
        · rintro a w' ⟨rfl, ha⟩
          refine WL.ofJ (l := [(1, .pointer (some ⟨b_8, 0, none⟩)), (2, .pointer (some ⟨b_9, 0, none⟩)), (4, .pointer (some ⟨b_18, 0, none⟩)), (5, .func (.func 33) #[] #[.pointer (some ⟨b_8, 0, none⟩), .pointer (some ⟨b_18, 0, none⟩)]), (20, .bool ((decide ((len c_72.Out) > 0)) && (decide (c_72.TxCredits > 0))))]) ?_ ha
          refine WL.nilThen ?_
          refine WC.cond rfl (fun hc => ?_) (fun hc => ?_)
          · replace hp := if_t hp hc
            clear hc
            refine WC.skipThen ?_
            refine WC.block ?_
            refine WC.region ?_
            refine WL.val (rv_move rfl) rfl ?_
            replace hp := bind_inv hp
            obtain ⟨x_75, e_x_75, hp⟩ := hp
            refine WL.call (rc_val Try.call33 rfl rfl) (ok_sdu_Output_1 F (Mu U0 [some b_9]) _ c_72 l_67 A_57 k_58 A_62 k_63 b_8 A_68 k_69 b_18 (C.give [1] [2, 0, 3] (by decide) rfl rfl (by decide)) (f_59.mu (mu_give [1] [2, 0, 3] rfl rfl)) (f_64.mu (mu_give [1] [2, 0, 3] rfl rfl)) hb_8 hb_18 (f_70.mu (mu_give [1] [2, 0, 3] rfl rfl)) _ e_x_75) rfl ?_
            rintro v w ⟨A_76, k_77, A_79, k_80, A_83, k_84, rfl, D, f_78, f_81, hb_8, hb_18, f_85⟩
            obtain ⟨C', T⟩ := C.join D [1] [2, 0, 3] (by decide) rfl rfl (by decide)
            replace C' : Ctx U0 [] w0 [some b_8, some b_18, ob A_83, some b_9] _ := C'
            replace T : TR U0 [some b_18, some b_9, some b_8, ob A_68] _ [some b_8, some b_18, ob A_83, some b_9] _ [some b_8, some b_18, ob A_68] := T
            replace f_78 : Sl 1 (RSl 1 (RInt .u8)) (Mu U0 [some b_8, some b_18, ob A_83, some b_9]) _ A_76 k_77 x_75.1.Out := f_78.mu (mu_join (R := [some b_8, some b_18, ob A_83]) (L2 := [some b_9]) (fun b h => h))
            replace f_81 : Sl 1 (RInt .u8) (Mu U0 [some b_8, some b_18, ob A_83, some b_9]) _ A_79 k_80 x_75.1.In := f_81.mu (mu_join (R := [some b_8, some b_18, ob A_83]) (L2 := [some b_9]) (fun b h => h))
            replace f_85 : Own 1 24 (RSl 1 (RInt .u8)) (Mu U0 [some b_8, some b_18, ob A_83, some b_9]) _ A_83 k_84 x_75.2 := f_85.mu (mu_join (R := [some b_8, some b_18, ob A_83]) (L2 := [some b_9]) (fun b h => h))
            replace f_59 := T.sl f_59
            replace f_64 := T.sl f_64
            replace hb_9 := T.blk (C.ne (i := 1) rfl [2, 0, 3] rfl (by decide)) hb_9
            clear T; replace C := C'; clear C'
            clear D
            refine WL.nil (fun a ha => ?_)
            have ho := next_inv hp hs_73
            have T : TR U0 [some b_8, some b_18, ob A_83, some b_9] w [some b_18, some b_9, some b_8, ob A_83] w [] := TR.pick [1, 3, 0, 2] rfl
            have C' : Ctx U0 [] w0 [some b_18, some b_9, some b_8, ob A_83] _ := C.pick [1, 3, 0, 2] (by decide) rfl
            replace f_78 := T.sl f_78
            replace f_81 := T.sl f_81
            replace hb_8 := T.blk ne0 hb_8
            replace hb_9 := T.blk ne0 hb_9
            replace hb_18 := T.blk ne0 hb_18
            replace f_85 := T.own ne0 f_85
            clear T; replace C := C'; clear C'
            exact ⟨n_73, Nat.lt_succ_self _, ⟨x_75.1, x_75.2, A_76, k_77, A_79, k_80, A_83, k_84, ho, ha.sub ⟨rfl, rfl, rfl, rfl, trivial⟩, C, f_78, f_81, hb_8, hb_9, hb_18, f_85⟩⟩
          · replace hp := if_f hp hc
            clear hc
            refine WC.exitJ rfl (fun a ha => ?_)
            have ho := done_inv hp hs_73
            replace hp := hpo_73
            try rw [ho] at hp
            exact ⟨c_72, l_67, A_57, k_58, A_62, k_63, A_68, k_69, hp, ha.sub ⟨rfl, rfl, rfl, trivial⟩, C, f_59, f_64, hb_8, hb_9, hb_18, f_70⟩
    · rintro a w ⟨c_45, l_40, A_30, k_31, A_35, k_36, A_41, k_42, hp, ha, C, f_32, f_37, hb_8, hb_9, hb_18, f_43⟩
      refine WC.ofJ (l := [(1, .pointer (some ⟨b_8, 0, none⟩)), (2, .pointer (some ⟨b_9, 0, none⟩)), (4, .pointer (some ⟨b_18, 0, none⟩))]) ?_ ha
      refine WC.seqCut (fun a w => (sdu_Output_j2 F l_40 c_45 = some r) ∧ (Holds 25 [(2, .pointer (some ⟨b_9, 0, none⟩)), (3, .slice A_41 (List.length l_40) k_42)] a) ∧ (Ctx U0 [] w0 [some b_9, ob A_41] w) ∧ (Sl 1 (RSl 1 (RInt .u8)) (Mu U0 [some b_9, ob A_41]) w A_30 k_31 c_45.Out) ∧ (Sl 1 (RInt .u8) (Mu U0 [some b_9, ob A_41]) w A_35 k_36 c_45.In) ∧ (Blk w b_9 26 [.int .u16 c_45.Local, .int .u16 c_45.Remote, .int .u16 c_45.PSM, .int .i64 c_45.MTU, .int .i64 c_45.MPS, .int .i64 c_45.PeerMTU, .int .i64 c_45.PeerMPS, .int .i64 c_45.TxCredits, .int .i64 c_45.RxCredits, .int .i64 c_45.Given, .slice A_30 (List.length c_45.Out) k_31, .int .i64 c_45.Sent, .slice A_35 (List.length c_45.In) k_36, .int .i64 c_45.Want, .bool c_45.Failed]) ∧ (Own 1 24 (RSl 1 (RInt .u8)) (Mu U0 [some b_9, ob A_41]) w A_41 k_42 l_40)) ?_ ?_
      · refine WC.draw (fun w => (Blk w b_18 23 [.slice A_41 (List.length l_40) k_42]) ∧ (Blk w b_8 26 [.int .u16 c_45.Local, .int .u16 c_45.Remote, .int .u16 c_45.PSM, .int .i64 c_45.MTU, .int .i64 c_45.MPS, .int .i64 c_45.PeerMTU, .int .i64 c_45.PeerMPS, .int .i64 c_45.TxCredits, .int .i64 c_45.RxCredits, .int .i64 c_45.Given, .slice A_30 (List.length c_45.Out) k_31, .int .i64 c_45.Sent, .slice A_35 (List.length c_45.In) k_36, .int .i64 c_45.Want, .bool c_45.Failed])) MO C ?_
        rintro w C' T
        replace f_32 := T.sl f_32
        replace f_37 := T.sl f_37
        replace hb_8 := T.blk ne0 hb_8
        replace hb_9 := T.blk ne0 hb_9
        replace hb_18 := T.blk ne0 hb_18
        replace f_43 := T.own ne0 f_43
        clear T; replace C := C'; clear C'
        refine WA.take (i := 0) (bs' := [true, false, false, false]) rfl (by kernel_rfl) (by kernel_rfl) (by kernel_rfl) (fun w hS => by obtain ⟨hb_18, hb_8⟩ := hS; exact rv_loadN Try.isAgg26 Try.sizeOf26 rfl hb_8 rfl rfl) ⟨hb_18, hb_8⟩ rfl rfl ?_
        refine WA.take (i := 1) (bs' := [true, true, false, false]) rfl (by kernel_rfl) (by kernel_rfl) (by kernel_rfl) (fun w hS => by obtain ⟨hb_18, hb_8⟩ := hS; exact rv_load1 Try.isAgg23 rfl hb_18 rfl) ⟨hb_18, hb_8⟩ rfl rfl ?_
        refine WA.all1 (i := 2) (by kernel_rfl) ?_
        refine WS.storeK (i := 2) (bs' := [true, true, true, false]) rfl (rs_store (i := 1) (cs' := [.int .u16 c_45.Local, .int .u16 c_45.Remote, .int .u16 c_45.PSM, .int .i64 c_45.MTU, .int .i64 c_45.MPS, .int .i64 c_45.PeerMTU, .int .i64 c_45.PeerMPS, .int .i64 c_45.TxCredits, .int .i64 c_45.RxCredits, .int .i64 c_45.Given, .slice A_30 (List.length c_45.Out) k_31, .int .i64 c_45.Sent, .slice A_35 (List.length c_45.In) k_36, .int .i64 c_45.Want, .bool c_45.Failed]) Try.sizeOf26 rfl rfl rfl rfl rfl hb_9 rfl C rfl rfl) rfl ?_
        rintro w ⟨hb_9, C', T⟩
        replace f_32 := T.sl f_32
        replace f_37 := T.sl f_37
        replace hb_8 := T.blk (C.ne (i := 2) rfl [1] rfl (by decide)) hb_8
        replace hb_18 := T.blk (C.ne (i := 0) rfl [1] rfl (by decide)) hb_18
        replace f_43 := T.own (C.ne (i := 3) rfl [1] rfl (by decide)) f_43
        clear T; replace C := C'; clear C'
        refine ⟨⟨hb_18, hb_8⟩, ?_⟩
        refine WA.take (i := 3) (bs' := [true, true, true, true]) rfl (by kernel_rfl) (by kernel_rfl) (by kernel_rfl) (fun _ _ => rv_assign rfl) ⟨hb_18, hb_8⟩ rfl rfl ?_
        refine WA.done (by kernel_rfl) (fun a ha => ?_)
        have T : TR U0 [some b_18, some b_9, some b_8, ob A_41] w [some b_9, ob A_41] w [] := TR.pick [1, 3] rfl
        have C' : Ctx U0 [] w0 [some b_9, ob A_41] _ := C.pick [1, 3] (by decide) rfl
        replace f_32 := T.sl f_32
        replace f_37 := T.sl f_37
        replace hb_9 := T.blk ne0 hb_9
        replace f_43 := T.own ne0 f_43
        clear T; replace C := C'; clear C'
        exact ⟨hp, ha.sub ⟨rfl, rfl, trivial⟩, C, f_32, f_37, hb_9, f_43⟩
      · rintro a w ⟨hp, ha, C, f_32, f_37, hb_9, f_43⟩
        refine WC.ofJ (l := [(2, .pointer (some ⟨b_9, 0, none⟩)), (3, .slice A_41 (List.length l_40) k_42)]) ?_ ha
        obtain rfl := some_inv' hp
        refine WC.ret (retK (rs := [.cell 2 26, .tmp 3]) (vs := [.agg #[.int .u16 c_45.Local, .int .u16 c_45.Remote, .int .u16 c_45.PSM, .int .i64 c_45.MTU, .int .i64 c_45.MPS, .int .i64 c_45.PeerMTU, .int .i64 c_45.PeerMPS, .int .i64 c_45.TxCredits, .int .i64 c_45.RxCredits, .int .i64 c_45.Given, .slice A_30 (List.length c_45.Out) k_31, .int .i64 c_45.Sent, .slice A_35 (List.length c_45.In) k_36, .int .i64 c_45.Want, .bool c_45.Failed], .slice A_41 (List.length l_40) k_42]) rfl ⟨rv1_cell Try.isAgg26 Try.sizeOf26 rfl hb_9 rfl, rv1_tmp rfl, trivial⟩ ?_)
        have f_55 : Sl 1 (RSl 1 (RInt .u8)) (Mu U0 [some b_9]) _ A_41 k_42 l_40 := f_43.toSl (C.off (i := 1) rfl [0] rfl (by decide)) (Mu.weaken (mem_pick [0] rfl))
        have T : TR U0 [some b_9, ob A_41] w [some b_9] w [] := TR.pick [0] rfl
        have C' : Ctx U0 [] w0 [some b_9] _ := C.pick [0] (by decide) rfl
        replace f_32 := T.sl f_32
        replace f_37 := T.sl f_37
        clear T; replace C := C'; clear C'
        have T : TR U0 [some b_9] w [] w [] := TR.pick [] rfl
        have C' : Ctx U0 [] w0 [] _ := C.pick [] (by decide) rfl
        replace f_32 := T.sl f_32
        replace f_37 := T.sl f_37
        replace f_55 := T.sl f_55
        clear T; replace C := C'; clear C'
        exact ⟨_, rfl, A_30, k_31, A_35, k_36, A_41, k_42, rfl, C, f_32, f_37, f_55⟩

theorem ok_wirelesslaw33_end (F : Nat) (U0 : Nat → Prop) (w0 : World) (mtu_1 : Int) (mps_2 : Int) (credits_3 : Int) (C : Ctx U0 [] w0 [] w0)  (r : T_api_Channel) (hp : wirelesslaw33_end F mtu_1 mps_2 credits_3 = some r) :
    Calls Try.prog 19 #[.int .i64 mtu_1, .int .i64 mps_2, .int .i64 credits_3] w0 fun e w => ∃ v, e = .returned v ∧ ∃ (A_5 : Option Addr) (k_6 : Nat) (A_8 : Option Addr) (k_9 : Nat), (v = .agg #[.int .u16 r.Local, .int .u16 r.Remote, .int .u16 r.PSM, .int .i64 r.MTU, .int .i64 r.MPS, .int .i64 r.PeerMTU, .int .i64 r.PeerMPS, .int .i64 r.TxCredits, .int .i64 r.RxCredits, .int .i64 r.Given, .slice A_5 (List.length r.Out) k_6, .int .i64 r.Sent, .slice A_8 (List.length r.In) k_9, .int .i64 r.Want, .bool r.Failed]) ∧ (Ctx U0 [] w0 [] w) ∧ (Sl 1 (RSl 1 (RInt .u8)) (Mu U0 []) w A_5 k_6 r.Out) ∧ (Sl 1 (RInt .u8) (Mu U0 []) w A_8 k_9 r.In) := by
  refine calls_enter (vs := [.int .i64 mtu_1, .int .i64 mps_2, .int .i64 credits_3]) Try.func19 rfl Try.ntmps19 rfl ?_
  refine WC.prune (l' := [(0, .int .i64 mtu_1), (1, .int .i64 mps_2), (2, .int .i64 credits_3)]) ⟨rfl, rfl, rfl, trivial⟩ ?_
  skip
  refine WC.seq ?_
  refine WC.region ?_
  refine WL.world (rw_alloc Try.zeroValue26 rfl C) rfl ?_
  rintro v w ⟨b_4, rfl, hb_4, C', T⟩
  replace C' : Ctx U0 [] w0 [some b_4] _ := C'
  replace T : TR U0 [] _ [some b_4] _ [] := T
  replace hb_4 : Blk _ b_4 26 [.int .u16 0, .int .u16 0, .int .u16 0, .int .i64 0, .int .i64 0, .int .i64 0, .int .i64 0, .int .i64 0, .int .i64 0, .int .i64 0, .slice none 0 0, .int .i64 0, .slice none 0 0, .int .i64 0, .bool false] := hb_4
  clear T; replace C := C'; clear C'
  refine WL.nilThen ?_
  refine WC.seq ?_
  refine WC.region ?_
  refine WL.val (rv_move rfl) rfl ?_
  refine WL.val (rv_move rfl) rfl ?_
  refine WL.val (rv_move rfl) rfl ?_
  refine WL.val (rv_move rfl) rfl ?_
  refine WL.val (rv_move rfl) rfl ?_
  refine WL.val (rv_move rfl) rfl ?_
  refine WL.val (rv_build (cs := [.int .u16 64, .int .u16 65, .int .u16 1, .int .i64 mtu_1, .int .i64 mps_2, .int .i64 mtu_1, .int .i64 mps_2, .int .i64 credits_3, .int .i64 credits_3, .int .i64 0, .slice none 0 0, .int .i64 0, .slice none 0 0, .int .i64 (-1), .bool false]) (vs := [(0, .int .u16 64), (1, .int .u16 65), (2, .int .u16 1), (3, .int .i64 mtu_1), (4, .int .i64 mps_2), (5, .int .i64 mtu_1), (6, .int .i64 mps_2), (7, .int .i64 credits_3), (8, .int .i64 credits_3), (13, .int .i64 (-1))]) Try.zeroValue26 Try.underlying26 (PL26 _ (Try.underlying26).symm) rfl (by kernel_rfl)) rfl ?_
  refine WL.storeK (rs_store (i := 0) (cs' := [.int .u16 64, .int .u16 65, .int .u16 1, .int .i64 mtu_1, .int .i64 mps_2, .int .i64 mtu_1, .int .i64 mps_2, .int .i64 credits_3, .int .i64 credits_3, .int .i64 0, .slice none 0 0, .int .i64 0, .slice none 0 0, .int .i64 (-1), .bool false]) Try.sizeOf26 rfl rfl rfl rfl rfl hb_4 rfl C rfl rfl) ?_
  rintro w ⟨hb_4, C', T⟩
  clear T; replace C := C'; clear C'
  refine WL.nilThen ?_
  obtain rfl := some_inv' hp
  refine WC.ret (retK (rs := [.cell 6 26]) (vs := [.agg #[.int .u16 64, .int .u16 65, .int .u16 1, .int .i64 mtu_1, .int .i64 mps_2, .int .i64 mtu_1, .int .i64 mps_2, .int .i64 credits_3, .int .i64 credits_3, .int .i64 0, .slice none 0 0, .int .i64 0, .slice none 0 0, .int .i64 (-1), .bool false]]) rfl ⟨rv1_cell Try.isAgg26 Try.sizeOf26 rfl hb_4 rfl, trivial⟩ ?_)
  have T : TR U0 [some b_4] w [] w [] := TR.pick [] rfl
  have C' : Ctx U0 [] w0 [] _ := C.pick [] (by decide) rfl
  clear T; replace C := C'; clear C'
  exact ⟨_, rfl, none, 0, none, 0, rfl, C, Sl.nil0, Sl.nil0⟩

theorem ok_wirelesslaw33_exampleHolds (F : Nat) (U0 : Nat → Prop) (w0 : World) (C : Ctx U0 [] w0 [] w0)  (r : Bool) (hp : wirelesslaw33_exampleHolds F = some r) :
    Calls Try.prog 11 #[] w0 fun e w => ∃ v, e = .returned v ∧ (v = .bool r) ∧ (Ctx U0 [] w0 [] w) := by
  refine calls_enter (vs := []) Try.func11 rfl Try.ntmps11 rfl ?_
  refine WC.prune (l' := []) trivial ?_
  skip
  refine WC.seq ?_
  refine WC.region ?_
  refine WL.val (rv_assign rfl) rfl ?_
  refine WL.nilThen ?_
  refine WC.seqCut (fun a w => ∃ (c_24 : T_api_Channel) (x_23 : Int) (b_1 : Nat) (A_13 : Option Addr) (k_14 : Nat) (A_18 : Option Addr) (k_19 : Nat), (wirelesslaw33_exampleHolds_j1 F c_24 x_23 = some r) ∧ (Holds 107 [(1, .pointer (some ⟨b_1, 0, none⟩)), (2, .int .i64 x_23)] a) ∧ (Ctx U0 [] w0 [some b_1] w) ∧ (Sl 1 (RSl 1 (RInt .u8)) (Mu U0 [some b_1]) w A_13 k_14 c_24.Out) ∧ (Sl 1 (RInt .u8) (Mu U0 [some b_1]) w A_18 k_19 c_24.In) ∧ (Blk w b_1 26 [.int .u16 c_24.Local, .int .u16 c_24.Remote, .int .u16 c_24.PSM, .int .i64 c_24.MTU, .int .i64 c_24.MPS, .int .i64 c_24.PeerMTU, .int .i64 c_24.PeerMPS, .int .i64 c_24.TxCredits, .int .i64 c_24.RxCredits, .int .i64 c_24.Given, .slice A_13 (List.length c_24.Out) k_14, .int .i64 c_24.Sent, .slice A_18 (List.length c_24.In) k_19, .int .i64 c_24.Want, .bool c_24.Failed])) ?_ ?_
  · refine WC.draw (fun _ => True) MO C ?_
    rintro w C' T
    clear T; replace C := C'; clear C'
    refine WA.all3 (i := 0) (j := 1) (k := 6) (by kernel_rfl) ?_ ?_ ?_
    · replace hp := bind_inv hp
      obtain ⟨x_155, e_x_155, hp⟩ := hp
      refine WS.call (i := 0) (bs' := [true, false, false, false, false, false, false, false, false]) rfl (rc_func Try.call19 rfl) (ok_wirelesslaw33_end F (Mu U0 []) _ 40 23 5 (C.give [] [] (by decide) rfl rfl (by decide)) _ e_x_155) rfl rfl ?_
      rintro v w ⟨A_156, k_157, A_159, k_160, rfl, D, f_158, f_161⟩
      obtain ⟨C', T⟩ := C.join D [] [] (by decide) rfl rfl (by decide)
      replace C' : Ctx U0 [] w0 [] _ := C'
      replace T : TR U0 [] _ [] _ [] := T
      replace f_158 : Sl 1 (RSl 1 (RInt .u8)) (Mu U0 []) _ A_156 k_157 x_155.Out := f_158.mu (mu_join (R := []) (L2 := []) (fun b h => h))
      replace f_161 : Sl 1 (RInt .u8) (Mu U0 []) _ A_159 k_160 x_155.In := f_161.mu (mu_join (R := []) (L2 := []) (fun b h => h))
      clear T; replace C := C'; clear C'
      clear D
      refine ⟨trivial, ?_⟩
      refine WA.all2 (i := 1) (j := 6) (by kernel_rfl) ?_ ?_
      · replace hp := bind_inv hp
        obtain ⟨l_162, e_l_162, hp⟩ := hp
        refine WS.world (i := 1) (bs' := [true, true, false, false, false, false, false, false, false]) rfl (rw_make (sz := 1) (zs := [.int .u8 0]) (R := (RInt .u8)) Try.underlying24 I5 rfl rfl rfl rfl rfl rfl rfl (fun _ _ => rfl) e_l_162 C) rfl rfl ?_
        rintro v w ⟨A_164, k_165, rfl, f_166, C', T⟩
        replace C' : Ctx U0 [] w0 [ob A_164] _ := C'
        replace T : TR U0 [] _ [ob A_164] _ _ := T
        replace f_166 : Own 1 5 (RInt .u8) (Mu U0 [ob A_164]) _ A_164 k_165 l_162 := f_166
        replace f_158 := T.sl f_158
        replace f_161 := T.sl f_161
        clear T; replace C := C'; clear C'
        refine ⟨trivial, ?_⟩
        refine WA.all2 (i := 2) (j := 6) (by kernel_rfl) ?_ ?_
        · have f_167 : Sl 1 (RInt .u8) (Mu U0 []) _ A_164 k_165 l_162 := f_166.toSl (C.off (i := 0) rfl [] rfl (by decide)) (Mu.weaken (mem_pick [] rfl))
          have T : TR U0 [ob A_164] w [] w [] := TR.pick [] rfl
          have C' : Ctx U0 [] w0 [] _ := C.pick [] (by decide) rfl
          replace f_158 := T.sl f_158
          replace f_161 := T.sl f_161
          clear T; replace C := C'; clear C'
          replace hp := bind_inv hp
          obtain ⟨x_168, e_x_168, hp⟩ := hp
          refine WS.call (i := 2) (bs' := [true, true, true, false, false, false, false, false, false]) rfl (rc_func Try.call18 rfl) (ok_sdu_Queue F (Mu U0 []) _ x_155 l_162 A_156 k_157 A_159 k_160 A_164 k_165 (C.give [] [] (by decide) rfl rfl (by decide)) (f_158.mu (mu_give [] [] rfl rfl)) (f_161.mu (mu_give [] [] rfl rfl)) (f_167.mu (mu_give [] [] rfl rfl)) _ e_x_168) rfl rfl ?_
          rintro v w ⟨A_169, k_170, A_172, k_173, rfl, D, f_171, f_174⟩
          obtain ⟨C', T⟩ := C.join D [] [] (by decide) rfl rfl (by decide)
          replace C' : Ctx U0 [] w0 [] _ := C'
          replace T : TR U0 [] _ [] _ [] := T
          replace f_171 : Sl 1 (RSl 1 (RInt .u8)) (Mu U0 []) _ A_169 k_170 x_168.1.Out := f_171.mu (mu_join (R := []) (L2 := []) (fun b h => h))
          replace f_174 : Sl 1 (RInt .u8) (Mu U0 []) _ A_172 k_173 x_168.1.In := f_174.mu (mu_join (R := []) (L2 := []) (fun b h => h))
          replace f_158 := T.sl f_158
          replace f_161 := T.sl f_161
          replace f_167 := T.sl f_167
          clear T; replace C := C'; clear C'
          clear D
          refine ⟨trivial, ?_⟩
          refine WA.take (i := 3) (bs' := [true, true, true, true, false, false, false, false, false]) rfl (by kernel_rfl) (by kernel_rfl) (by kernel_rfl) (fun _ _ => rv_move rfl) trivial rfl rfl ?_
          refine WA.take (i := 4) (bs' := [true, true, true, true, true, false, false, false, false]) rfl (by kernel_rfl) (by kernel_rfl) (by kernel_rfl) (fun _ _ => rv_extract rfl rfl) trivial rfl rfl ?_
          refine WA.take (i := 5) (bs' := [true, true, true, true, true, true, false, false, false]) rfl (by kernel_rfl) (by kernel_rfl) (by kernel_rfl) (fun _ _ => rv_extract rfl rfl) trivial rfl rfl ?_
          refine WA.all1 (i := 6) (by kernel_rfl) ?_
          refine WS.world (i := 6) (bs' := [true, true, true, true, true, true, true, false, false]) rfl (rw_alloc Try.zeroValue26 rfl C) rfl rfl ?_
          rintro v w ⟨b_175, rfl, hb_175, C', T⟩
          replace C' : Ctx U0 [] w0 [some b_175] _ := C'
          replace T : TR U0 [] _ [some b_175] _ [] := T
          replace hb_175 : Blk _ b_175 26 [.int .u16 0, .int .u16 0, .int .u16 0, .int .i64 0, .int .i64 0, .int .i64 0, .int .i64 0, .int .i64 0, .int .i64 0, .int .i64 0, .slice none 0 0, .int .i64 0, .slice none 0 0, .int .i64 0, .bool false] := hb_175
          replace f_158 := T.sl f_158
          replace f_161 := T.sl f_161
          replace f_167 := T.sl f_167
          replace f_171 := T.sl f_171
          replace f_174 := T.sl f_174
          clear T; replace C := C'; clear C'
          refine ⟨trivial, ?_⟩
          refine WA.all1 (i := 7) (by kernel_rfl) ?_
          refine WS.storeK (i := 7) (bs' := [true, true, true, true, true, true, true, true, false]) rfl (rs_store (i := 0) (cs' := [.int .u16 x_168.1.Local, .int .u16 x_168.1.Remote, .int .u16 x_168.1.PSM, .int .i64 x_168.1.MTU, .int .i64 x_168.1.MPS, .int .i64 x_168.1.PeerMTU, .int .i64 x_168.1.PeerMPS, .int .i64 x_168.1.TxCredits, .int .i64 x_168.1.RxCredits, .int .i64 x_168.1.Given, .slice A_169 (List.length x_168.1.Out) k_170, .int .i64 x_168.1.Sent, .slice A_172 (List.length x_168.1.In) k_173, .int .i64 x_168.1.Want, .bool x_168.1.Failed]) Try.sizeOf26 rfl rfl rfl rfl rfl hb_175 rfl C rfl rfl) rfl ?_
          rintro w ⟨hb_175, C', T⟩
          replace f_158 := T.sl f_158
          replace f_161 := T.sl f_161
          replace f_167 := T.sl f_167
          replace f_171 := T.sl f_171
          replace f_174 := T.sl f_174
          clear T; replace C := C'; clear C'
          refine ⟨trivial, ?_⟩
          refine WA.take (i := 8) (bs' := [true, true, true, true, true, true, true, true, true]) rfl (by kernel_rfl) (by kernel_rfl) (by kernel_rfl) (fun _ _ => rv_assign rfl) trivial rfl rfl ?_
          refine WA.done (by kernel_rfl) (fun a ha => ?_)
          exact ⟨x_168.1, x_168.2, b_175, A_169, k_170, A_172, k_173, hp, ha.sub ⟨rfl, rfl, trivial⟩, C, f_171, f_174, hb_175⟩
        · refine WS.world (i := 6) (bs' := [true, true, false, false, false, false, true, false, false]) rfl (rw_alloc Try.zeroValue26 rfl C) rfl rfl ?_
          rintro v w ⟨b_176, rfl, hb_176, C', T⟩
          replace C' : Ctx U0 [] w0 [some b_176, ob A_164] _ := C'
          replace T : TR U0 [ob A_164] _ [some b_176, ob A_164] _ [] := T
          replace hb_176 : Blk _ b_176 26 [.int .u16 0, .int .u16 0, .int .u16 0, .int .i64 0, .int .i64 0, .int .i64 0, .int .i64 0, .int .i64 0, .int .i64 0, .int .i64 0, .slice none 0 0, .int .i64 0, .slice none 0 0, .int .i64 0, .bool false] := hb_176
          replace f_158 := T.sl f_158
          replace f_161 := T.sl f_161
          replace f_166 := T.own ne0 f_166
          clear T; replace C := C'; clear C'
          refine ⟨trivial, ?_⟩
          refine WA.all1 (i := 2) (by kernel_rfl) ?_
          have f_177 : Sl 1 (RInt .u8) (Mu U0 [some b_176]) _ A_164 k_165 l_162 := f_166.toSl (C.off (i := 1) rfl [0] rfl (by decide)) (Mu.weaken (mem_pick [0] rfl))
          have T : TR U0 [some b_176, ob A_164] w [some b_176] w [] := TR.pick [0] rfl
          have C' : Ctx U0 [] w0 [some b_176] _ := C.pick [0] (by decide) rfl
          replace f_158 := T.sl f_158
          replace f_161 := T.sl f_161
          replace hb_176 := T.blk ne0 hb_176
          clear T; replace C := C'; clear C'
          replace hp := bind_inv hp
          obtain ⟨x_178, e_x_178, hp⟩ := hp
          refine WS.call (i := 2) (bs' := [true, true, true, false, false, false, true, false, false]) rfl (rc_func Try.call18 rfl) (ok_sdu_Queue F (Mu U0 [some b_176]) _ x_155 l_162 A_156 k_157 A_159 k_160 A_164 k_165 (C.give [0] [] (by decide) rfl rfl (by decide)) (f_158.mu (mu_give [0] [] rfl rfl)) (f_161.mu (mu_give [0] [] rfl rfl)) (f_177.mu (mu_give [0] [] rfl rfl)) _ e_x_178) rfl rfl ?_
          rintro v w ⟨A_179, k_180, A_182, k_183, rfl, D, f_181, f_184⟩
          obtain ⟨C', T⟩ := C.join D [0] [] (by decide) rfl rfl (by decide)
          replace C' : Ctx U0 [] w0 [some b_176] _ := C'
          replace T : TR U0 [some b_176] _ [some b_176] _ [] := T
          replace f_181 : Sl 1 (RSl 1 (RInt .u8)) (Mu U0 [some b_176]) _ A_179 k_180 x_178.1.Out := f_181.mu (mu_join (R := []) (L2 := [some b_176]) (fun b h => h))
          replace f_184 : Sl 1 (RInt .u8) (Mu U0 [some b_176]) _ A_182 k_183 x_178.1.In := f_184.mu (mu_join (R := []) (L2 := [some b_176]) (fun b h => h))
          replace f_158 := T.sl f_158
          replace f_161 := T.sl f_161
          replace f_177 := T.sl f_177
          replace hb_176 := T.blk ne0 hb_176
          clear T; replace C := C'; clear C'
          clear D
          refine ⟨trivial, ?_⟩
          refine WA.take (i := 3) (bs' := [true, true, true, true, false, false, true, false, false]) rfl (by kernel_rfl) (by kernel_rfl) (by kernel_rfl) (fun _ _ => rv_move rfl) trivial rfl rfl ?_
          refine WA.take (i := 4) (bs' := [true, true, true, true, true, false, true, false, false]) rfl (by kernel_rfl) (by kernel_rfl) (by kernel_rfl) (fun _ _ => rv_extract rfl rfl) trivial rfl rfl ?_
          refine WA.take (i := 5) (bs' := [true, true, true, true, true, true, true, false, false]) rfl (by kernel_rfl) (by kernel_rfl) (by kernel_rfl) (fun _ _ => rv_extract rfl rfl) trivial rfl rfl ?_
          refine WA.all1 (i := 7) (by kernel_rfl) ?_
          refine WS.storeK (i := 7) (bs' := [true, true, true, true, true, true, true, true, false]) rfl (rs_store (i := 0) (cs' := [.int .u16 x_178.1.Local, .int .u16 x_178.1.Remote, .int .u16 x_178.1.PSM, .int .i64 x_178.1.MTU, .int .i64 x_178.1.MPS, .int .i64 x_178.1.PeerMTU, .int .i64 x_178.1.PeerMPS, .int .i64 x_178.1.TxCredits, .int .i64 x_178.1.RxCredits, .int .i64 x_178.1.Given, .slice A_179 (List.length x_178.1.Out) k_180, .int .i64 x_178.1.Sent, .slice A_182 (List.length x_178.1.In) k_183, .int .i64 x_178.1.Want, .bool x_178.1.Failed]) Try.sizeOf26 rfl rfl rfl rfl rfl hb_176 rfl C rfl rfl) rfl ?_
          rintro w ⟨hb_176, C', T⟩
          replace f_158 := T.sl f_158
          replace f_161 := T.sl f_161
          replace f_177 := T.sl f_177
          replace f_181 := T.sl f_181
          replace f_184 := T.sl f_184
          clear T; replace C := C'; clear C'
          refine ⟨trivial, ?_⟩
          refine WA.take (i := 8) (bs' := [true, true, true, true, true, true, true, true, true]) rfl (by kernel_rfl) (by kernel_rfl) (by kernel_rfl) (fun _ _ => rv_assign rfl) trivial rfl rfl ?_
          refine WA.done (by kernel_rfl) (fun a ha => ?_)
          exact ⟨x_178.1, x_178.2, b_176, A_179, k_180, A_182, k_183, hp, ha.sub ⟨rfl, rfl, trivial⟩, C, f_181, f_184, hb_176⟩
      · refine WS.world (i := 6) (bs' := [true, false, false, false, false, false, true, false, false]) rfl (rw_alloc Try.zeroValue26 rfl C) rfl rfl ?_
        rintro v w ⟨b_185, rfl, hb_185, C', T⟩
        replace C' : Ctx U0 [] w0 [some b_185] _ := C'
        replace T : TR U0 [] _ [some b_185] _ [] := T
        replace hb_185 : Blk _ b_185 26 [.int .u16 0, .int .u16 0, .int .u16 0, .int .i64 0, .int .i64 0, .int .i64 0, .int .i64 0, .int .i64 0, .int .i64 0, .int .i64 0, .slice none 0 0, .int .i64 0, .slice none 0 0, .int .i64 0, .bool false] := hb_185
        replace f_158 := T.sl f_158
        replace f_161 := T.sl f_161
        clear T; replace C := C'; clear C'
        refine ⟨trivial, ?_⟩
        refine WA.all1 (i := 1) (by kernel_rfl) ?_
        replace hp := bind_inv hp
        obtain ⟨l_186, e_l_186, hp⟩ := hp
        refine WS.world (i := 1) (bs' := [true, true, false, false, false, false, true, false, false]) rfl (rw_make (sz := 1) (zs := [.int .u8 0]) (R := (RInt .u8)) Try.underlying24 I5 rfl rfl rfl rfl rfl rfl rfl (fun _ _ => rfl) e_l_186 C) rfl rfl ?_
        rintro v w ⟨A_188, k_189, rfl, f_190, C', T⟩
        replace C' : Ctx U0 [] w0 [ob A_188, some b_185] _ := C'
        replace T : TR U0 [some b_185] _ [ob A_188, some b_185] _ _ := T
        replace f_190 : Own 1 5 (RInt .u8) (Mu U0 [ob A_188, some b_185]) _ A_188 k_189 l_186 := f_190
        replace f_158 := T.sl f_158
        replace f_161 := T.sl f_161
        replace hb_185 := T.blk ne0 hb_185
        clear T; replace C := C'; clear C'
        refine ⟨trivial, ?_⟩
        refine WA.all1 (i := 2) (by kernel_rfl) ?_
        have f_191 : Sl 1 (RInt .u8) (Mu U0 [some b_185]) _ A_188 k_189 l_186 := f_190.toSl (C.off (i := 0) rfl [1] rfl (by decide)) (Mu.weaken (mem_pick [1] rfl))
        have T : TR U0 [ob A_188, some b_185] w [some b_185] w [] := TR.pick [1] rfl
        have C' : Ctx U0 [] w0 [some b_185] _ := C.pick [1] (by decide) rfl
        replace f_158 := T.sl f_158
        replace f_161 := T.sl f_161
        replace hb_185 := T.blk ne0 hb_185
        clear T; replace C := C'; clear C'
        replace hp := bind_inv hp
        obtain ⟨x_192, e_x_192, hp⟩ := hp
        refine WS.call (i := 2) (bs' := [true, true, true, false, false, false, true, false, false]) rfl (rc_func Try.call18 rfl) (ok_sdu_Queue F (Mu U0 [some b_185]) _ x_155 l_186 A_156 k_157 A_159 k_160 A_188 k_189 (C.give [0] [] (by decide) rfl rfl (by decide)) (f_158.mu (mu_give [0] [] rfl rfl)) (f_161.mu (mu_give [0] [] rfl rfl)) (f_191.mu (mu_give [0] [] rfl rfl)) _ e_x_192) rfl rfl ?_
        rintro v w ⟨A_193, k_194, A_196, k_197, rfl, D, f_195, f_198⟩
        obtain ⟨C', T⟩ := C.join D [0] [] (by decide) rfl rfl (by decide)
        replace C' : Ctx U0 [] w0 [some b_185] _ := C'
        replace T : TR U0 [some b_185] _ [some b_185] _ [] := T
        replace f_195 : Sl 1 (RSl 1 (RInt .u8)) (Mu U0 [some b_185]) _ A_193 k_194 x_192.1.Out := f_195.mu (mu_join (R := []) (L2 := [some b_185]) (fun b h => h))
        replace f_198 : Sl 1 (RInt .u8) (Mu U0 [some b_185]) _ A_196 k_197 x_192.1.In := f_198.mu (mu_join (R := []) (L2 := [some b_185]) (fun b h => h))
        replace f_158 := T.sl f_158
        replace f_161 := T.sl f_161
        replace f_191 := T.sl f_191
        replace hb_185 := T.blk ne0 hb_185
        clear T; replace C := C'; clear C'
        clear D
        refine ⟨trivial, ?_⟩
        refine WA.take (i := 3) (bs' := [true, true, true, true, false, false, true, false, false]) rfl (by kernel_rfl) (by kernel_rfl) (by kernel_rfl) (fun _ _ => rv_move rfl) trivial rfl rfl ?_
        refine WA.take (i := 4) (bs' := [true, true, true, true, true, false, true, false, false]) rfl (by kernel_rfl) (by kernel_rfl) (by kernel_rfl) (fun _ _ => rv_extract rfl rfl) trivial rfl rfl ?_
        refine WA.take (i := 5) (bs' := [true, true, true, true, true, true, true, false, false]) rfl (by kernel_rfl) (by kernel_rfl) (by kernel_rfl) (fun _ _ => rv_extract rfl rfl) trivial rfl rfl ?_
        refine WA.all1 (i := 7) (by kernel_rfl) ?_
        refine WS.storeK (i := 7) (bs' := [true, true, true, true, true, true, true, true, false]) rfl (rs_store (i := 0) (cs' := [.int .u16 x_192.1.Local, .int .u16 x_192.1.Remote, .int .u16 x_192.1.PSM, .int .i64 x_192.1.MTU, .int .i64 x_192.1.MPS, .int .i64 x_192.1.PeerMTU, .int .i64 x_192.1.PeerMPS, .int .i64 x_192.1.TxCredits, .int .i64 x_192.1.RxCredits, .int .i64 x_192.1.Given, .slice A_193 (List.length x_192.1.Out) k_194, .int .i64 x_192.1.Sent, .slice A_196 (List.length x_192.1.In) k_197, .int .i64 x_192.1.Want, .bool x_192.1.Failed]) Try.sizeOf26 rfl rfl rfl rfl rfl hb_185 rfl C rfl rfl) rfl ?_
        rintro w ⟨hb_185, C', T⟩
        replace f_158 := T.sl f_158
        replace f_161 := T.sl f_161
        replace f_191 := T.sl f_191
        replace f_195 := T.sl f_195
        replace f_198 := T.sl f_198
        clear T; replace C := C'; clear C'
        refine ⟨trivial, ?_⟩
        refine WA.take (i := 8) (bs' := [true, true, true, true, true, true, true, true, true]) rfl (by kernel_rfl) (by kernel_rfl) (by kernel_rfl) (fun _ _ => rv_assign rfl) trivial rfl rfl ?_
        refine WA.done (by kernel_rfl) (fun a ha => ?_)
        exact ⟨x_192.1, x_192.2, b_185, A_193, k_194, A_196, k_197, hp, ha.sub ⟨rfl, rfl, trivial⟩, C, f_195, f_198, hb_185⟩
    · replace hp := bind_swap hp
      replace hp := bind_inv hp
      obtain ⟨l_199, e_l_199, hp⟩ := hp
      refine WS.world (i := 1) (bs' := [false, true, false, false, false, false, false, false, false]) rfl (rw_make (sz := 1) (zs := [.int .u8 0]) (R := (RInt .u8)) Try.underlying24 I5 rfl rfl rfl rfl rfl rfl rfl (fun _ _ => rfl) e_l_199 C) rfl rfl ?_
      rintro v w ⟨A_201, k_202, rfl, f_203, C', T⟩
      replace C' : Ctx U0 [] w0 [ob A_201] _ := C'
      replace T : TR U0 [] _ [ob A_201] _ _ := T
      replace f_203 : Own 1 5 (RInt .u8) (Mu U0 [ob A_201]) _ A_201 k_202 l_199 := f_203
      clear T; replace C := C'; clear C'
      refine ⟨trivial, ?_⟩
      refine WA.all2 (i := 0) (j := 6) (by kernel_rfl) ?_ ?_
      · replace hp := bind_inv hp
        obtain ⟨x_204, e_x_204, hp⟩ := hp
        refine WS.call (i := 0) (bs' := [true, true, false, false, false, false, false, false, false]) rfl (rc_func Try.call19 rfl) (ok_wirelesslaw33_end F (Mu U0 [ob A_201]) _ 40 23 5 (C.give [0] [] (by decide) rfl rfl (by decide)) _ e_x_204) rfl rfl ?_
        rintro v w ⟨A_205, k_206, A_208, k_209, rfl, D, f_207, f_210⟩
        obtain ⟨C', T⟩ := C.join D [0] [] (by decide) rfl rfl (by decide)
        replace C' : Ctx U0 [] w0 [ob A_201] _ := C'
        replace T : TR U0 [ob A_201] _ [ob A_201] _ [] := T
        replace f_207 : Sl 1 (RSl 1 (RInt .u8)) (Mu U0 [ob A_201]) _ A_205 k_206 x_204.Out := f_207.mu (mu_join (R := []) (L2 := [ob A_201]) (fun b h => h))
        replace f_210 : Sl 1 (RInt .u8) (Mu U0 [ob A_201]) _ A_208 k_209 x_204.In := f_210.mu (mu_join (R := []) (L2 := [ob A_201]) (fun b h => h))
        replace f_203 := T.own ne0 f_203
        clear T; replace C := C'; clear C'
        clear D
        refine ⟨trivial, ?_⟩
        refine WA.all2 (i := 2) (j := 6) (by kernel_rfl) ?_ ?_
        · have f_211 : Sl 1 (RInt .u8) (Mu U0 []) _ A_201 k_202 l_199 := f_203.toSl (C.off (i := 0) rfl [] rfl (by decide)) (Mu.weaken (mem_pick [] rfl))
          have T : TR U0 [ob A_201] w [] w [] := TR.pick [] rfl
          have C' : Ctx U0 [] w0 [] _ := C.pick [] (by decide) rfl
          replace f_207 := T.sl f_207
          replace f_210 := T.sl f_210
          clear T; replace C := C'; clear C'
          replace hp := bind_inv hp
          obtain ⟨x_212, e_x_212, hp⟩ := hp
          refine WS.call (i := 2) (bs' := [true, true, true, false, false, false, false, false, false]) rfl (rc_func Try.call18 rfl) (ok_sdu_Queue F (Mu U0 []) _ x_204 l_199 A_205 k_206 A_208 k_209 A_201 k_202 (C.give [] [] (by decide) rfl rfl (by decide)) (f_207.mu (mu_give [] [] rfl rfl)) (f_210.mu (mu_give [] [] rfl rfl)) (f_211.mu (mu_give [] [] rfl rfl)) _ e_x_212) rfl rfl ?_
          rintro v w ⟨A_213, k_214, A_216, k_217, rfl, D, f_215, f_218⟩
          obtain ⟨C', T⟩ := C.join D [] [] (by decide) rfl rfl (by decide)
          replace C' : Ctx U0 [] w0 [] _ := C'
          replace T : TR U0 [] _ [] _ [] := T
          replace f_215 : Sl 1 (RSl 1 (RInt .u8)) (Mu U0 []) _ A_213 k_214 x_212.1.Out := f_215.mu (mu_join (R := []) (L2 := []) (fun b h => h))
          replace f_218 : Sl 1 (RInt .u8) (Mu U0 []) _ A_216 k_217 x_212.1.In := f_218.mu (mu_join (R := []) (L2 := []) (fun b h => h))
          replace f_207 := T.sl f_207
          replace f_210 := T.sl f_210
          replace f_211 := T.sl f_211
          clear T; replace C := C'; clear C'
          clear D
          refine ⟨trivial, ?_⟩
          refine WA.take (i := 3) (bs' := [true, true, true, true, false, false, false, false, false]) rfl (by kernel_rfl) (by kernel_rfl) (by kernel_rfl) (fun _ _ => rv_move rfl) trivial rfl rfl ?_
          refine WA.take (i := 4) (bs' := [true, true, true, true, true, false, false, false, false]) rfl (by kernel_rfl) (by kernel_rfl) (by kernel_rfl) (fun _ _ => rv_extract rfl rfl) trivial rfl rfl ?_
          refine WA.take (i := 5) (bs' := [true, true, true, true, true, true, false, false, false]) rfl (by kernel_rfl) (by kernel_rfl) (by kernel_rfl) (fun _ _ => rv_extract rfl rfl) trivial rfl rfl ?_
          refine WA.all1 (i := 6) (by kernel_rfl) ?_
          refine WS.world (i := 6) (bs' := [true, true, true, true, true, true, true, false, false]) rfl (rw_alloc Try.zeroValue26 rfl C) rfl rfl ?_
          rintro v w ⟨b_219, rfl, hb_219, C', T⟩
          replace C' : Ctx U0 [] w0 [some b_219] _ := C'
          replace T : TR U0 [] _ [some b_219] _ [] := T
          replace hb_219 : Blk _ b_219 26 [.int .u16 0, .int .u16 0, .int .u16 0, .int .i64 0, .int .i64 0, .int .i64 0, .int .i64 0, .int .i64 0, .int .i64 0, .int .i64 0, .slice none 0 0, .int .i64 0, .slice none 0 0, .int .i64 0, .bool false] := hb_219
          replace f_207 := T.sl f_207
          replace f_210 := T.sl f_210
          replace f_211 := T.sl f_211
          replace f_215 := T.sl f_215
          replace f_218 := T.sl f_218
          clear T; replace C := C'; clear C'
          refine ⟨trivial, ?_⟩
          refine WA.all1 (i := 7) (by kernel_rfl) ?_
          refine WS.storeK (i := 7) (bs' := [true, true, true, true, true, true, true, true, false]) rfl (rs_store (i := 0) (cs' := [.int .u16 x_212.1.Local, .int .u16 x_212.1.Remote, .int .u16 x_212.1.PSM, .int .i64 x_212.1.MTU, .int .i64 x_212.1.MPS, .int .i64 x_212.1.PeerMTU, .int .i64 x_212.1.PeerMPS, .int .i64 x_212.1.TxCredits, .int .i64 x_212.1.RxCredits, .int .i64 x_212.1.Given, .slice A_213 (List.length x_212.1.Out) k_214, .int .i64 x_212.1.Sent, .slice A_216 (List.length x_212.1.In) k_217, .int .i64 x_212.1.Want, .bool x_212.1.Failed]) Try.sizeOf26 rfl rfl rfl rfl rfl hb_219 rfl C rfl rfl) rfl ?_
          rintro w ⟨hb_219, C', T⟩
          replace f_207 := T.sl f_207
          replace f_210 := T.sl f_210
          replace f_211 := T.sl f_211
          replace f_215 := T.sl f_215
          replace f_218 := T.sl f_218
          clear T; replace C := C'; clear C'
          refine ⟨trivial, ?_⟩
          refine WA.take (i := 8) (bs' := [true, true, true, true, true, true, true, true, true]) rfl (by kernel_rfl) (by kernel_rfl) (by kernel_rfl) (fun _ _ => rv_assign rfl) trivial rfl rfl ?_
          refine WA.done (by kernel_rfl) (fun a ha => ?_)
          exact ⟨x_212.1, x_212.2, b_219, A_213, k_214, A_216, k_217, hp, ha.sub ⟨rfl, rfl, trivial⟩, C, f_215, f_218, hb_219⟩
        · refine WS.world (i := 6) (bs' := [true, true, false, false, false, false, true, false, false]) rfl (rw_alloc Try.zeroValue26 rfl C) rfl rfl ?_
          rintro v w ⟨b_220, rfl, hb_220, C', T⟩
          replace C' : Ctx U0 [] w0 [some b_220, ob A_201] _ := C'
          replace T : TR U0 [ob A_201] _ [some b_220, ob A_201] _ [] := T
          replace hb_220 : Blk _ b_220 26 [.int .u16 0, .int .u16 0, .int .u16 0, .int .i64 0, .int .i64 0, .int .i64 0, .int .i64 0, .int .i64 0, .int .i64 0, .int .i64 0, .slice none 0 0, .int .i64 0, .slice none 0 0, .int .i64 0, .bool false] := hb_220
          replace f_207 := T.sl f_207
          replace f_210 := T.sl f_210
          replace f_203 := T.own ne0 f_203
          clear T; replace C := C'; clear C'
          refine ⟨trivial, ?_⟩
          refine WA.all1 (i := 2) (by kernel_rfl) ?_
          have f_221 : Sl 1 (RInt .u8) (Mu U0 [some b_220]) _ A_201 k_202 l_199 := f_203.toSl (C.off (i := 1) rfl [0] rfl (by decide)) (Mu.weaken (mem_pick [0] rfl))
          have T : TR U0 [some b_220, ob A_201] w [some b_220] w [] := TR.pick [0] rfl
          have C' : Ctx U0 [] w0 [some b_220] _ := C.pick [0] (by decide) rfl
          replace f_207 := T.sl f_207
          replace f_210 := T.sl f_210
          replace hb_220 := T.blk ne0 hb_220
          clear T; replace C := C'; clear C'
          replace hp := bind_inv hp
          obtain ⟨x_222, e_x_222, hp⟩ := hp
          refine WS.call (i := 2) (bs' := [true, true, true, false, false, false, true, false, false]) rfl (rc_func Try.call18 rfl) (ok_sdu_Queue F (Mu U0 [some b_220]) _ x_204 l_199 A_205 k_206 A_208 k_209 A_201 k_202 (C.give [0] [] (by decide) rfl rfl (by decide)) (f_207.mu (mu_give [0] [] rfl rfl)) (f_210.mu (mu_give [0] [] rfl rfl)) (f_221.mu (mu_give [0] [] rfl rfl)) _ e_x_222) rfl rfl ?_
          rintro v w ⟨A_223, k_224, A_226, k_227, rfl, D, f_225, f_228⟩
          obtain ⟨C', T⟩ := C.join D [0] [] (by decide) rfl rfl (by decide)
          replace C' : Ctx U0 [] w0 [some b_220] _ := C'
          replace T : TR U0 [some b_220] _ [some b_220] _ [] := T
          replace f_225 : Sl 1 (RSl 1 (RInt .u8)) (Mu U0 [some b_220]) _ A_223 k_224 x_222.1.Out := f_225.mu (mu_join (R := []) (L2 := [some b_220]) (fun b h => h))
          replace f_228 : Sl 1 (RInt .u8) (Mu U0 [some b_220]) _ A_226 k_227 x_222.1.In := f_228.mu (mu_join (R := []) (L2 := [some b_220]) (fun b h => h))
          replace f_207 := T.sl f_207
          replace f_210 := T.sl f_210
          replace f_221 := T.sl f_221
          replace hb_220 := T.blk ne0 hb_220
          clear T; replace C := C'; clear C'
          clear D
          refine ⟨trivial, ?_⟩
          refine WA.take (i := 3) (bs' := [true, true, true, true, false, false, true, false, false]) rfl (by kernel_rfl) (by kernel_rfl) (by kernel_rfl) (fun _ _ => rv_move rfl) trivial rfl rfl ?_
          refine WA.take (i := 4) (bs' := [true, true, true, true, true, false, true, false, false]) rfl (by kernel_rfl) (by kernel_rfl) (by kernel_rfl) (fun _ _ => rv_extract rfl rfl) trivial rfl rfl ?_
          refine WA.take (i := 5) (bs' := [true, true, true, true, true, true, true, false, false]) rfl (by kernel_rfl) (by kernel_rfl) (by kernel_rfl) (fun _ _ => rv_extract rfl rfl) trivial rfl rfl ?_
          refine WA.all1 (i := 7) (by kernel_rfl) ?_
          refine WS.storeK (i := 7) (bs' := [true, true, true, true, true, true, true, true, false]) rfl (rs_store (i := 0) (cs' := [.int .u16 x_222.1.Local, .int .u16 x_222.1.Remote, .int .u16 x_222.1.PSM, .int .i64 x_222.1.MTU, .int .i64 x_222.1.MPS, .int .i64 x_222.1.PeerMTU, .int .i64 x_222.1.PeerMPS, .int .i64 x_222.1.TxCredits, .int .i64 x_222.1.RxCredits, .int .i64 x_222.1.Given, .slice A_223 (List.length x_222.1.Out) k_224, .int .i64 x_222.1.Sent, .slice A_226 (List.length x_222.1.In) k_227, .int .i64 x_222.1.Want, .bool x_222.1.Failed]) Try.sizeOf26 rfl rfl rfl rfl rfl hb_220 rfl C rfl rfl) rfl ?_
          rintro w ⟨hb_220, C', T⟩
          replace f_207 := T.sl f_207
          replace f_210 := T.sl f_210
          replace f_221 := T.sl f_221
          replace f_225 := T.sl f_225
          replace f_228 := T.sl f_228
          clear T; replace C := C'; clear C'
          refine ⟨trivial, ?_⟩
          refine WA.take (i := 8) (bs' := [true, true, true, true, true, true, true, true, true]) rfl (by kernel_rfl) (by kernel_rfl) (by kernel_rfl) (fun _ _ => rv_assign rfl) trivial rfl rfl ?_
          refine WA.done (by kernel_rfl) (fun a ha => ?_)
          exact ⟨x_222.1, x_222.2, b_220, A_223, k_224, A_226, k_227, hp, ha.sub ⟨rfl, rfl, trivial⟩, C, f_225, f_228, hb_220⟩
      · refine WS.world (i := 6) (bs' := [false, true, false, false, false, false, true, false, false]) rfl (rw_alloc Try.zeroValue26 rfl C) rfl rfl ?_
        rintro v w ⟨b_229, rfl, hb_229, C', T⟩
        replace C' : Ctx U0 [] w0 [some b_229, ob A_201] _ := C'
        replace T : TR U0 [ob A_201] _ [some b_229, ob A_201] _ [] := T
        replace hb_229 : Blk _ b_229 26 [.int .u16 0, .int .u16 0, .int .u16 0, .int .i64 0, .int .i64 0, .int .i64 0, .int .i64 0, .int .i64 0, .int .i64 0, .int .i64 0, .slice none 0 0, .int .i64 0, .slice none 0 0, .int .i64 0, .bool false] := hb_229
        replace f_203 := T.own ne0 f_203
        clear T; replace C := C'; clear C'
        refine ⟨trivial, ?_⟩
        refine WA.all1 (i := 0) (by kernel_rfl) ?_
        replace hp := bind_inv hp
        obtain ⟨x_230, e_x_230, hp⟩ := hp
        refine WS.call (i := 0) (bs' := [true, true, false, false, false, false, true, false, false]) rfl (rc_func Try.call19 rfl) (ok_wirelesslaw33_end F (Mu U0 [some b_229, ob A_201]) _ 40 23 5 (C.give [0, 1] [] (by decide) rfl rfl (by decide)) _ e_x_230) rfl rfl ?_
        rintro v w ⟨A_231, k_232, A_234, k_235, rfl, D, f_233, f_236⟩
        obtain ⟨C', T⟩ := C.join D [0, 1] [] (by decide) rfl rfl (by decide)
        replace C' : Ctx U0 [] w0 [some b_229, ob A_201] _ := C'
        replace T : TR U0 [some b_229, ob A_201] _ [some b_229, ob A_201] _ [] := T
        replace f_233 : Sl 1 (RSl 1 (RInt .u8)) (Mu U0 [some b_229, ob A_201]) _ A_231 k_232 x_230.Out := f_233.mu (mu_join (R := []) (L2 := [some b_229, ob A_201]) (fun b h => h))
        replace f_236 : Sl 1 (RInt .u8) (Mu U0 [some b_229, ob A_201]) _ A_234 k_235 x_230.In := f_236.mu (mu_join (R := []) (L2 := [some b_229, ob A_201]) (fun b h => h))
        replace hb_229 := T.blk ne0 hb_229
        replace f_203 := T.own ne0 f_203
        clear T; replace C := C'; clear C'
        clear D
        refine ⟨trivial, ?_⟩
        refine WA.all1 (i := 2) (by kernel_rfl) ?_
        have f_237 : Sl 1 (RInt .u8) (Mu U0 [some b_229]) _ A_201 k_202 l_199 := f_203.toSl (C.off (i := 1) rfl [0] rfl (by decide)) (Mu.weaken (mem_pick [0] rfl))
        have T : TR U0 [some b_229, ob A_201] w [some b_229] w [] := TR.pick [0] rfl
        have C' : Ctx U0 [] w0 [some b_229] _ := C.pick [0] (by decide) rfl
        replace f_233 := T.sl f_233
        replace f_236 := T.sl f_236
        replace hb_229 := T.blk ne0 hb_229
        clear T; replace C := C'; clear C'
        replace hp := bind_inv hp
        obtain ⟨x_238, e_x_238, hp⟩ := hp
        refine WS.call (i := 2) (bs' := [true, true, true, false, false, false, true, false, false]) rfl (rc_func Try.call18 rfl) (ok_sdu_Queue F (Mu U0 [some b_229]) _ x_230 l_199 A_231 k_232 A_234 k_235 A_201 k_202 (C.give [0] [] (by decide) rfl rfl (by decide)) (f_233.mu (mu_give [0] [] rfl rfl)) (f_236.mu (mu_give [0] [] rfl rfl)) (f_237.mu (mu_give [0] [] rfl rfl)) _ e_x_238) rfl rfl ?_
        rintro v w ⟨A_239, k_240, A_242, k_243, rfl, D, f_241, f_244⟩
        obtain ⟨C', T⟩ := C.join D [0] [] (by decide) rfl rfl (by decide)
        replace C' : Ctx U0 [] w0 [some b_229] _ := C'
        replace T : TR U0 [some b_229] _ [some b_229] _ [] := T
        replace f_241 : Sl 1 (RSl 1 (RInt .u8)) (Mu U0 [some b_229]) _ A_239 k_240 x_238.1.Out := f_241.mu (mu_join (R := []) (L2 := [some b_229]) (fun b h => h))
        replace f_244 : Sl 1 (RInt .u8) (Mu U0 [some b_229]) _ A_242 k_243 x_238.1.In := f_244.mu (mu_join (R := []) (L2 := [some b_229]) (fun b h => h))
        replace f_233 := T.sl f_233
        replace f_236 := T.sl f_236
        replace f_237 := T.sl f_237
        replace hb_229 := T.blk ne0 hb_229
        clear T; replace C := C'; clear C'
        clear D
        refine ⟨trivial, ?_⟩
        refine WA.take (i := 3) (bs' := [true, true, true, true, false, false, true, false, false]) rfl (by kernel_rfl) (by kernel_rfl) (by kernel_rfl) (fun _ _ => rv_move rfl) trivial rfl rfl ?_
        refine WA.take (i := 4) (bs' := [true, true, true, true, true, false, true, false, false]) rfl (by kernel_rfl) (by kernel_rfl) (by kernel_rfl) (fun _ _ => rv_extract rfl rfl) trivial rfl rfl ?_
        refine WA.take (i := 5) (bs' := [true, true, true, true, true, true, true, false, false]) rfl (by kernel_rfl) (by kernel_rfl) (by kernel_rfl) (fun _ _ => rv_extract rfl rfl) trivial rfl rfl ?_
        refine WA.all1 (i := 7) (by kernel_rfl) ?_
        refine WS.storeK (i := 7) (bs' := [true, true, true, true, true, true, true, true, false]) rfl (rs_store (i := 0) (cs' := [.int .u16 x_238.1.Local, .int .u16 x_238.1.Remote, .int .u16 x_238.1.PSM, .int .i64 x_238.1.MTU, .int .i64 x_238.1.MPS, .int .i64 x_238.1.PeerMTU, .int .i64 x_238.1.PeerMPS, .int .i64 x_238.1.TxCredits, .int .i64 x_238.1.RxCredits, .int .i64 x_238.1.Given, .slice A_239 (List.length x_238.1.Out) k_240, .int .i64 x_238.1.Sent, .slice A_242 (List.length x_238.1.In) k_243, .int .i64 x_238.1.Want, .bool x_238.1.Failed]) Try.sizeOf26 rfl rfl rfl rfl rfl hb_229 rfl C rfl rfl) rfl ?_
        rintro w ⟨hb_229, C', T⟩
        replace f_233 := T.sl f_233
        replace f_236 := T.sl f_236
        replace f_237 := T.sl f_237
        replace f_241 := T.sl f_241
        replace f_244 := T.sl f_244
        clear T; replace C := C'; clear C'
        refine ⟨trivial, ?_⟩
        refine WA.take (i := 8) (bs' := [true, true, true, true, true, true, true, true, true]) rfl (by kernel_rfl) (by kernel_rfl) (by kernel_rfl) (fun _ _ => rv_assign rfl) trivial rfl rfl ?_
        refine WA.done (by kernel_rfl) (fun a ha => ?_)
        exact ⟨x_238.1, x_238.2, b_229, A_239, k_240, A_242, k_243, hp, ha.sub ⟨rfl, rfl, trivial⟩, C, f_241, f_244, hb_229⟩
    · refine WS.world (i := 6) (bs' := [false, false, false, false, false, false, true, false, false]) rfl (rw_alloc Try.zeroValue26 rfl C) rfl rfl ?_
      rintro v w ⟨b_245, rfl, hb_245, C', T⟩
      replace C' : Ctx U0 [] w0 [some b_245] _ := C'
      replace T : TR U0 [] _ [some b_245] _ [] := T
      replace hb_245 : Blk _ b_245 26 [.int .u16 0, .int .u16 0, .int .u16 0, .int .i64 0, .int .i64 0, .int .i64 0, .int .i64 0, .int .i64 0, .int .i64 0, .int .i64 0, .slice none 0 0, .int .i64 0, .slice none 0 0, .int .i64 0, .bool false] := hb_245
      clear T; replace C := C'; clear C'
      refine ⟨trivial, ?_⟩
      refine WA.all2 (i := 0) (j := 1) (by kernel_rfl) ?_ ?_
      · replace hp := bind_inv hp
        obtain ⟨x_246, e_x_246, hp⟩ := hp
        refine WS.call (i := 0) (bs' := [true, false, false, false, false, false, true, false, false]) rfl (rc_func Try.call19 rfl) (ok_wirelesslaw33_end F (Mu U0 [some b_245]) _ 40 23 5 (C.give [0] [] (by decide) rfl rfl (by decide)) _ e_x_246) rfl rfl ?_
        rintro v w ⟨A_247, k_248, A_250, k_251, rfl, D, f_249, f_252⟩
        obtain ⟨C', T⟩ := C.join D [0] [] (by decide) rfl rfl (by decide)
        replace C' : Ctx U0 [] w0 [some b_245] _ := C'
        replace T : TR U0 [some b_245] _ [some b_245] _ [] := T
        replace f_249 : Sl 1 (RSl 1 (RInt .u8)) (Mu U0 [some b_245]) _ A_247 k_248 x_246.Out := f_249.mu (mu_join (R := []) (L2 := [some b_245]) (fun b h => h))
        replace f_252 : Sl 1 (RInt .u8) (Mu U0 [some b_245]) _ A_250 k_251 x_246.In := f_252.mu (mu_join (R := []) (L2 := [some b_245]) (fun b h => h))
        replace hb_245 := T.blk ne0 hb_245
        clear T; replace C := C'; clear C'
        clear D
        refine ⟨trivial, ?_⟩
        refine WA.all1 (i := 1) (by kernel_rfl) ?_
        replace hp := bind_inv hp
        obtain ⟨l_253, e_l_253, hp⟩ := hp
        refine WS.world (i := 1) (bs' := [true, true, false, false, false, false, true, false, false]) rfl (rw_make (sz := 1) (zs := [.int .u8 0]) (R := (RInt .u8)) Try.underlying24 I5 rfl rfl rfl rfl rfl rfl rfl (fun _ _ => rfl) e_l_253 C) rfl rfl ?_
        rintro v w ⟨A_255, k_256, rfl, f_257, C', T⟩
        replace C' : Ctx U0 [] w0 [ob A_255, some b_245] _ := C'
        replace T : TR U0 [some b_245] _ [ob A_255, some b_245] _ _ := T
        replace f_257 : Own 1 5 (RInt .u8) (Mu U0 [ob A_255, some b_245]) _ A_255 k_256 l_253 := f_257
        replace f_249 := T.sl f_249
        replace f_252 := T.sl f_252
        replace hb_245 := T.blk ne0 hb_245
        clear T; replace C := C'; clear C'
        refine ⟨trivial, ?_⟩
        refine WA.all1 (i := 2) (by kernel_rfl) ?_
        have f_258 : Sl 1 (RInt .u8) (Mu U0 [some b_245]) _ A_255 k_256 l_253 := f_257.toSl (C.off (i := 0) rfl [1] rfl (by decide)) (Mu.weaken (mem_pick [1] rfl))
        have T : TR U0 [ob A_255, some b_245] w [some b_245] w [] := TR.pick [1] rfl
        have C' : Ctx U0 [] w0 [some b_245] _ := C.pick [1] (by decide) rfl
        replace f_249 := T.sl f_249
        replace f_252 := T.sl f_252
        replace hb_245 := T.blk ne0 hb_245
        clear T; replace C := C'; clear C'
        replace hp := bind_inv hp
        obtain ⟨x_259, e_x_259, hp⟩ := hp
        refine WS.call (i := 2) (bs' := [true, true, true, false, false, false, true, false, false]) rfl (rc_func Try.call18 rfl) (ok_sdu_Queue F (Mu U0 [some b_245]) _ x_246 l_253 A_247 k_248 A_250 k_251 A_255 k_256 (C.give [0] [] (by decide) rfl rfl (by decide)) (f_249.mu (mu_give [0] [] rfl rfl)) (f_252.mu (mu_give [0] [] rfl rfl)) (f_258.mu (mu_give [0] [] rfl rfl)) _ e_x_259) rfl rfl ?_
        rintro v w ⟨A_260, k_261, A_263, k_264, rfl, D, f_262, f_265⟩
        obtain ⟨C', T⟩ := C.join D [0] [] (by decide) rfl rfl (by decide)
        replace C' : Ctx U0 [] w0 [some b_245] _ := C'
        replace T : TR U0 [some b_245] _ [some b_245] _ [] := T
        replace f_262 : Sl 1 (RSl 1 (RInt .u8)) (Mu U0 [some b_245]) _ A_260 k_261 x_259.1.Out := f_262.mu (mu_join (R := []) (L2 := [some b_245]) (fun b h => h))
        replace f_265 : Sl 1 (RInt .u8) (Mu U0 [some b_245]) _ A_263 k_264 x_259.1.In := f_265.mu (mu_join (R := []) (L2 := [some b_245]) (fun b h => h))
        replace f_249 := T.sl f_249
        replace f_252 := T.sl f_252
        replace f_258 := T.sl f_258
        replace hb_245 := T.blk ne0 hb_245
        clear T; replace C := C'; clear C'
        clear D
        refine ⟨trivial, ?_⟩
        refine WA.take (i := 3) (bs' := [true, true, true, true, false, false, true, false, false]) rfl (by kernel_rfl) (by kernel_rfl) (by kernel_rfl) (fun _ _ => rv_move rfl) trivial rfl rfl ?_
        refine WA.take (i := 4) (bs' := [true, true, true, true, true, false, true, false, false]) rfl (by kernel_rfl) (by kernel_rfl) (by kernel_rfl) (fun _ _ => rv_extract rfl rfl) trivial rfl rfl ?_
        refine WA.take (i := 5) (bs' := [true, true, true, true, true, true, true, false, false]) rfl (by kernel_rfl) (by kernel_rfl) (by kernel_rfl) (fun _ _ => rv_extract rfl rfl) trivial rfl rfl ?_
        refine WA.all1 (i := 7) (by kernel_rfl) ?_
        refine WS.storeK (i := 7) (bs' := [true, true, true, true, true, true, true, true, false]) rfl (rs_store (i := 0) (cs' := [.int .u16 x_259.1.Local, .int .u16 x_259.1.Remote, .int .u16 x_259.1.PSM, .int .i64 x_259.1.MTU, .int .i64 x_259.1.MPS, .int .i64 x_259.1.PeerMTU, .int .i64 x_259.1.PeerMPS, .int .i64 x_259.1.TxCredits, .int .i64 x_259.1.RxCredits, .int .i64 x_259.1.Given, .slice A_260 (List.length x_259.1.Out) k_261, .int .i64 x_259.1.Sent, .slice A_263 (List.length x_259.1.In) k_264, .int .i64 x_259.1.Want, .bool x_259.1.Failed]) Try.sizeOf26 rfl rfl rfl rfl rfl hb_245 rfl C rfl rfl) rfl ?_
        rintro w ⟨hb_245, C', T⟩
        replace f_249 := T.sl f_249
        replace f_252 := T.sl f_252
        replace f_258 := T.sl f_258
        replace f_262 := T.sl f_262
        replace f_265 := T.sl f_265
        clear T; replace C := C'; clear C'
        refine ⟨trivial, ?_⟩
        refine WA.take (i := 8) (bs' := [true, true, true, true, true, true, true, true, true]) rfl (by kernel_rfl) (by kernel_rfl) (by kernel_rfl) (fun _ _ => rv_assign rfl) trivial rfl rfl ?_
        refine WA.done (by kernel_rfl) (fun a ha => ?_)
        exact ⟨x_259.1, x_259.2, b_245, A_260, k_261, A_263, k_264, hp, ha.sub ⟨rfl, rfl, trivial⟩, C, f_262, f_265, hb_245⟩
      · replace hp := bind_swap hp
        replace hp := bind_inv hp
        obtain ⟨l_266, e_l_266, hp⟩ := hp
        refine WS.world (i := 1) (bs' := [false, true, false, false, false, false, true, false, false]) rfl (rw_make (sz := 1) (zs := [.int .u8 0]) (R := (RInt .u8)) Try.underlying24 I5 rfl rfl rfl rfl rfl rfl rfl (fun _ _ => rfl) e_l_266 C) rfl rfl ?_
        rintro v w ⟨A_268, k_269, rfl, f_270, C', T⟩
        replace C' : Ctx U0 [] w0 [ob A_268, some b_245] _ := C'
        replace T : TR U0 [some b_245] _ [ob A_268, some b_245] _ _ := T
        replace f_270 : Own 1 5 (RInt .u8) (Mu U0 [ob A_268, some b_245]) _ A_268 k_269 l_266 := f_270
        replace hb_245 := T.blk ne0 hb_245
        clear T; replace C := C'; clear C'
        refine ⟨trivial, ?_⟩
        refine WA.all1 (i := 0) (by kernel_rfl) ?_
        replace hp := bind_inv hp
        obtain ⟨x_271, e_x_271, hp⟩ := hp
        refine WS.call (i := 0) (bs' := [true, true, false, false, false, false, true, false, false]) rfl (rc_func Try.call19 rfl) (ok_wirelesslaw33_end F (Mu U0 [ob A_268, some b_245]) _ 40 23 5 (C.give [0, 1] [] (by decide) rfl rfl (by decide)) _ e_x_271) rfl rfl ?_
        rintro v w ⟨A_272, k_273, A_275, k_276, rfl, D, f_274, f_277⟩
        obtain ⟨C', T⟩ := C.join D [0, 1] [] (by decide) rfl rfl (by decide)
        replace C' : Ctx U0 [] w0 [ob A_268, some b_245] _ := C'
        replace T : TR U0 [ob A_268, some b_245] _ [ob A_268, some b_245] _ [] := T
        replace f_274 : Sl 1 (RSl 1 (RInt .u8)) (Mu U0 [ob A_268, some b_245]) _ A_272 k_273 x_271.Out := f_274.mu (mu_join (R := []) (L2 := [ob A_268, some b_245]) (fun b h => h))
        replace f_277 : Sl 1 (RInt .u8) (Mu U0 [ob A_268, some b_245]) _ A_275 k_276 x_271.In := f_277.mu (mu_join (R := []) (L2 := [ob A_268, some b_245]) (fun b h => h))
        replace hb_245 := T.blk ne0 hb_245
        replace f_270 := T.own ne0 f_270
        clear T; replace C := C'; clear C'
        clear D
        refine ⟨trivial, ?_⟩
        refine WA.all1 (i := 2) (by kernel_rfl) ?_
        have f_278 : Sl 1 (RInt .u8) (Mu U0 [some b_245]) _ A_268 k_269 l_266 := f_270.toSl (C.off (i := 0) rfl [1] rfl (by decide)) (Mu.weaken (mem_pick [1] rfl))
        have T : TR U0 [ob A_268, some b_245] w [some b_245] w [] := TR.pick [1] rfl
        have C' : Ctx U0 [] w0 [some b_245] _ := C.pick [1] (by decide) rfl
        replace f_274 := T.sl f_274
        replace f_277 := T.sl f_277
        replace hb_245 := T.blk ne0 hb_245
        clear T; replace C := C'; clear C'
        replace hp := bind_inv hp
        obtain ⟨x_279, e_x_279, hp⟩ := hp
        refine WS.call (i := 2) (bs' := [true, true, true, false, false, false, true, false, false]) rfl (rc_func Try.call18 rfl) (ok_sdu_Queue F (Mu U0 [some b_245]) _ x_271 l_266 A_272 k_273 A_275 k_276 A_268 k_269 (C.give [0] [] (by decide) rfl rfl (by decide)) (f_274.mu (mu_give [0] [] rfl rfl)) (f_277.mu (mu_give [0] [] rfl rfl)) (f_278.mu (mu_give [0] [] rfl rfl)) _ e_x_279) rfl rfl ?_
        rintro v w ⟨A_280, k_281, A_283, k_284, rfl, D, f_282, f_285⟩
        obtain ⟨C', T⟩ := C.join D [0] [] (by decide) rfl rfl (by decide)
        replace C' : Ctx U0 [] w0 [some b_245] _ := C'
        replace T : TR U0 [some b_245] _ [some b_245] _ [] := T
        replace f_282 : Sl 1 (RSl 1 (RInt .u8)) (Mu U0 [some b_245]) _ A_280 k_281 x_279.1.Out := f_282.mu (mu_join (R := []) (L2 := [some b_245]) (fun b h => h))
        replace f_285 : Sl 1 (RInt .u8) (Mu U0 [some b_245]) _ A_283 k_284 x_279.1.In := f_285.mu (mu_join (R := []) (L2 := [some b_245]) (fun b h => h))
        replace f_274 := T.sl f_274
        replace f_277 := T.sl f_277
        replace f_278 := T.sl f_278
        replace hb_245 := T.blk ne0 hb_245
        clear T; replace C := C'; clear C'
        clear D
        refine ⟨trivial, ?_⟩
        refine WA.take (i := 3) (bs' := [true, true, true, true, false, false, true, false, false]) rfl (by kernel_rfl) (by kernel_rfl) (by kernel_rfl) (fun _ _ => rv_move rfl) trivial rfl rfl ?_
        refine WA.take (i := 4) (bs' := [true, true, true, true, true, false, true, false, false]) rfl (by kernel_rfl) (by kernel_rfl) (by kernel_rfl) (fun _ _ => rv_extract rfl rfl) trivial rfl rfl ?_
        refine WA.take (i := 5) (bs' := [true, true, true, true, true, true, true, false, false]) rfl (by kernel_rfl) (by kernel_rfl) (by kernel_rfl) (fun _ _ => rv_extract rfl rfl) trivial rfl rfl ?_
        refine WA.all1 (i := 7) (by kernel_rfl) ?_
        refine WS.storeK (i := 7) (bs' := [true, true, true, true, true, true, true, true, false]) rfl (rs_store (i := 0) (cs' := [.int .u16 x_279.1.Local, .int .u16 x_279.1.Remote, .int .u16 x_279.1.PSM, .int .i64 x_279.1.MTU, .int .i64 x_279.1.MPS, .int .i64 x_279.1.PeerMTU, .int .i64 x_279.1.PeerMPS, .int .i64 x_279.1.TxCredits, .int .i64 x_279.1.RxCredits, .int .i64 x_279.1.Given, .slice A_280 (List.length x_279.1.Out) k_281, .int .i64 x_279.1.Sent, .slice A_283 (List.length x_279.1.In) k_284, .int .i64 x_279.1.Want, .bool x_279.1.Failed]) Try.sizeOf26 rfl rfl rfl rfl rfl hb_245 rfl C rfl rfl) rfl ?_
        rintro w ⟨hb_245, C', T⟩
        replace f_274 := T.sl f_274
        replace f_277 := T.sl f_277
        replace f_278 := T.sl f_278
        replace f_282 := T.sl f_282
        replace f_285 := T.sl f_285
        clear T; replace C := C'; clear C'
        refine ⟨trivial, ?_⟩
        refine WA.take (i := 8) (bs' := [true, true, true, true, true, true, true, true, true]) rfl (by kernel_rfl) (by kernel_rfl) (by kernel_rfl) (fun _ _ => rv_assign rfl) trivial rfl rfl ?_
        refine WA.done (by kernel_rfl) (fun a ha => ?_)
        exact ⟨x_279.1, x_279.2, b_245, A_280, k_281, A_283, k_284, hp, ha.sub ⟨rfl, rfl, trivial⟩, C, f_282, f_285, hb_245⟩
  · rintro a w ⟨c_24, x_23, b_1, A_13, k_14, A_18, k_19, hp, ha, C, f_15, f_20, hb_1⟩
    refine WC.ofJ (l := [(1, .pointer (some ⟨b_1, 0, none⟩)), (2, .int .i64 x_23)]) ?_ ha
    refine WC.seq ?_
    refine WC.region ?_
    refine WL.val (rv_loadN Try.isAgg26 Try.sizeOf26 rfl hb_1 rfl rfl) rfl ?_
    replace hp := bind_inv hp
    obtain ⟨x_25, e_x_25, hp⟩ := hp
    refine WL.call (rc_func Try.call12 rfl) (ok_sdu_Output F (Mu U0 [some b_1]) _ c_24 A_13 k_14 A_18 k_19 (C.give [0] [] (by decide) rfl rfl (by decide)) (f_15.mu (mu_give [0] [] rfl rfl)) (f_20.mu (mu_give [0] [] rfl rfl)) _ e_x_25) rfl ?_
    rintro v w ⟨A_26, k_27, A_29, k_30, A_32, k_33, rfl, D, f_28, f_31, f_34⟩
    obtain ⟨C', T⟩ := C.join D [0] [] (by decide) rfl rfl (by decide)
    replace C' : Ctx U0 [] w0 [some b_1] _ := C'
    replace T : TR U0 [some b_1] _ [some b_1] _ [] := T
    replace f_28 : Sl 1 (RSl 1 (RInt .u8)) (Mu U0 [some b_1]) _ A_26 k_27 x_25.1.Out := f_28.mu (mu_join (R := []) (L2 := [some b_1]) (fun b h => h))
    replace f_31 : Sl 1 (RInt .u8) (Mu U0 [some b_1]) _ A_29 k_30 x_25.1.In := f_31.mu (mu_join (R := []) (L2 := [some b_1]) (fun b h => h))
    replace f_34 : Sl 1 (RSl 1 (RInt .u8)) (Mu U0 [some b_1]) _ A_32 k_33 x_25.2 := f_34.mu (mu_join (R := []) (L2 := [some b_1]) (fun b h => h))
    replace f_15 := T.sl f_15
    replace f_20 := T.sl f_20
    replace hb_1 := T.blk ne0 hb_1
    clear T; replace C := C'; clear C'
    clear D
    refine WL.val (rv_move rfl) rfl ?_
    refine WL.val (rv_extract rfl rfl) rfl ?_
    refine WL.val (rv_extract rfl rfl) rfl ?_
    refine WL.storeK (rs_store (i := 0) (cs' := [.int .u16 x_25.1.Local, .int .u16 x_25.1.Remote, .int .u16 x_25.1.PSM, .int .i64 x_25.1.MTU, .int .i64 x_25.1.MPS, .int .i64 x_25.1.PeerMTU, .int .i64 x_25.1.PeerMPS, .int .i64 x_25.1.TxCredits, .int .i64 x_25.1.RxCredits, .int .i64 x_25.1.Given, .slice A_26 (List.length x_25.1.Out) k_27, .int .i64 x_25.1.Sent, .slice A_29 (List.length x_25.1.In) k_30, .int .i64 x_25.1.Want, .bool x_25.1.Failed]) Try.sizeOf26 rfl rfl rfl rfl rfl hb_1 rfl C rfl rfl) ?_
    rintro w ⟨hb_1, C', T⟩
    replace f_15 := T.sl f_15
    replace f_20 := T.sl f_20
    replace f_28 := T.sl f_28
    replace f_31 := T.sl f_31
    replace f_34 := T.sl f_34
    clear T; replace C := C'; clear C'
    refine WL.val (rv_assign rfl) rfl ?_
    refine WL.nilThen ?_
    refine WC.seq ?_
    refine WC.region ?_
    replace hp := bind_inv hp
    obtain ⟨x_35, e_x_35, hp⟩ := hp
    refine WL.call (rc_func Try.call19 rfl) (ok_wirelesslaw33_end F (Mu U0 [some b_1]) _ 40 23 0 (C.give [0] [] (by decide) rfl rfl (by decide)) _ e_x_35) rfl ?_
    rintro v w ⟨A_36, k_37, A_39, k_40, rfl, D, f_38, f_41⟩
    obtain ⟨C', T⟩ := C.join D [0] [] (by decide) rfl rfl (by decide)
    replace C' : Ctx U0 [] w0 [some b_1] _ := C'
    replace T : TR U0 [some b_1] _ [some b_1] _ [] := T
    replace f_38 : Sl 1 (RSl 1 (RInt .u8)) (Mu U0 [some b_1]) _ A_36 k_37 x_35.Out := f_38.mu (mu_join (R := []) (L2 := [some b_1]) (fun b h => h))
    replace f_41 : Sl 1 (RInt .u8) (Mu U0 [some b_1]) _ A_39 k_40 x_35.In := f_41.mu (mu_join (R := []) (L2 := [some b_1]) (fun b h => h))
    replace f_28 := T.sl f_28
    replace f_31 := T.sl f_31
    replace f_34 := T.sl f_34
    replace hb_1 := T.blk ne0 hb_1
    clear T; replace C := C'; clear C'
    clear D
    refine WL.world (rw_buildSlice (sz := 1) (R := (RInt .u8)) (es := [.int .u8 0, .int .u8 0]) (dt := [0, 0]) Try.underlying24 Try.sizeOf5 Try.zeroValue5 rfl rfl rfl rfl rfl rfl rfl rfl ⟨_, _, rfl, rfl, rfl, ⟨_, _, rfl, rfl, rfl, rfl⟩⟩ C) rfl ?_
    rintro v w ⟨A_43, k_44, rfl, f_45, C', T⟩
    replace C' : Ctx U0 [] w0 [ob A_43, some b_1] _ := C'
    replace T : TR U0 [some b_1] _ [ob A_43, some b_1] _ _ := T
    replace f_45 : Own 1 5 (RInt .u8) (Mu U0 [ob A_43, some b_1]) _ A_43 k_44 [0, 0] := f_45
    replace f_28 := T.sl f_28
    replace f_31 := T.sl f_31
    replace f_34 := T.sl f_34
    replace f_38 := T.sl f_38
    replace f_41 := T.sl f_41
    replace hb_1 := T.blk ne0 hb_1
    clear T; replace C := C'; clear C'
    have f_46 : Sl 1 (RInt .u8) (Mu U0 [some b_1]) _ A_43 k_44 [0, 0] := f_45.toSl (C.off (i := 0) rfl [1] rfl (by decide)) (Mu.weaken (mem_pick [1] rfl))
    have T : TR U0 [ob A_43, some b_1] w [some b_1] w [] := TR.pick [1] rfl
    have C' : Ctx U0 [] w0 [some b_1] _ := C.pick [1] (by decide) rfl
    replace f_28 := T.sl f_28
    replace f_31 := T.sl f_31
    replace f_34 := T.sl f_34
    replace f_38 := T.sl f_38
    replace f_41 := T.sl f_41
    replace hb_1 := T.blk ne0 hb_1
    clear T; replace C := C'; clear C'
    replace hp := bind_inv hp
    obtain ⟨x_47, e_x_47, hp⟩ := hp
    refine WL.call (rc_func Try.call16 rfl) (ok_sdu_Input F (Mu U0 [some b_1]) _ x_35 [0, 0] A_36 k_37 A_39 k_40 A_43 k_44 (C.give [0] [] (by decide) rfl rfl (by decide)) (f_38.mu (mu_give [0] [] rfl rfl)) (f_41.mu (mu_give [0] [] rfl rfl)) (f_46.mu (mu_give [0] [] rfl rfl)) _ e_x_47) rfl ?_
    rintro v w ⟨A_48, k_49, A_51, k_52, A_54, k_55, rfl, D, f_50, f_53, f_56⟩
    obtain ⟨C', T⟩ := C.join D [0] [] (by decide) rfl rfl (by decide)
    replace C' : Ctx U0 [] w0 [some b_1] _ := C'
    replace T : TR U0 [some b_1] _ [some b_1] _ [] := T
    replace f_50 : Sl 1 (RSl 1 (RInt .u8)) (Mu U0 [some b_1]) _ A_48 k_49 x_47.1.Out := f_50.mu (mu_join (R := []) (L2 := [some b_1]) (fun b h => h))
    replace f_53 : Sl 1 (RInt .u8) (Mu U0 [some b_1]) _ A_51 k_52 x_47.1.In := f_53.mu (mu_join (R := []) (L2 := [some b_1]) (fun b h => h))
    replace f_56 : Sl 1 (RSl 1 (RInt .u8)) (Mu U0 [some b_1]) _ A_54 k_55 x_47.2.1 := f_56.mu (mu_join (R := []) (L2 := [some b_1]) (fun b h => h))
    replace f_28 := T.sl f_28
    replace f_31 := T.sl f_31
    replace f_34 := T.sl f_34
    replace f_38 := T.sl f_38
    replace f_41 := T.sl f_41
    replace f_46 := T.sl f_46
    replace hb_1 := T.blk ne0 hb_1
    clear T; replace C := C'; clear C'
    clear D
    refine WL.val (rv_move rfl) rfl ?_
    refine WL.val (rv_extract rfl rfl) rfl ?_
    refine WL.val (rv_extract rfl rfl) rfl ?_
    refine WL.val (rv_extract rfl rfl) rfl ?_
    refine WL.world (rw_alloc Try.zeroValue26 rfl C) rfl ?_
    rintro v w ⟨b_57, rfl, hb_57, C', T⟩
    replace C' : Ctx U0 [] w0 [some b_57, some b_1] _ := C'
    replace T : TR U0 [some b_1] _ [some b_57, some b_1] _ [] := T
    replace hb_57 : Blk _ b_57 26 [.int .u16 0, .int .u16 0, .int .u16 0, .int .i64 0, .int .i64 0, .int .i64 0, .int .i64 0, .int .i64 0, .int .i64 0, .int .i64 0, .slice none 0 0, .int .i64 0, .slice none 0 0, .int .i64 0, .bool false] := hb_57
    replace f_28 := T.sl f_28
    replace f_31 := T.sl f_31
    replace f_34 := T.sl f_34
    replace f_38 := T.sl f_38
    replace f_41 := T.sl f_41
    replace f_46 := T.sl f_46
    replace f_50 := T.sl f_50
    replace f_53 := T.sl f_53
    replace f_56 := T.sl f_56
    replace hb_1 := T.blk ne0 hb_1
    clear T; replace C := C'; clear C'
    refine WL.storeK (rs_store (i := 0) (cs' := [.int .u16 x_47.1.Local, .int .u16 x_47.1.Remote, .int .u16 x_47.1.PSM, .int .i64 x_47.1.MTU, .int .i64 x_47.1.MPS, .int .i64 x_47.1.PeerMTU, .int .i64 x_47.1.PeerMPS, .int .i64 x_47.1.TxCredits, .int .i64 x_47.1.RxCredits, .int .i64 x_47.1.Given, .slice A_48 (List.length x_47.1.Out) k_49, .int .i64 x_47.1.Sent, .slice A_51 (List.length x_47.1.In) k_52, .int .i64 x_47.1.Want, .bool x_47.1.Failed]) Try.sizeOf26 rfl rfl rfl rfl rfl hb_57 rfl C rfl rfl) ?_
    rintro w ⟨hb_57, C', T⟩
    replace f_28 := T.sl f_28
    replace f_31 := T.sl f_31
    replace f_34 := T.sl f_34
    replace f_38 := T.sl f_38
    replace f_41 := T.sl f_41
    replace f_46 := T.sl f_46
    replace f_50 := T.sl f_50
    replace f_53 := T.sl f_53
    replace f_56 := T.sl f_56
    replace hb_1 := T.blk (C.ne (i := 1) rfl [0] rfl (by decide)) hb_1
    clear T; replace C := C'; clear C'
    refine WL.val (rv_assign rfl) rfl ?_
    refine WL.val (rv_assign rfl) rfl ?_
    refine WL.nilThen ?_
    refine WC.seq ?_
    refine WC.region ?_
    replace hp := bind_inv hp
    obtain ⟨x_58, e_x_58, hp⟩ := hp
    refine WL.call (rc_func Try.call19 rfl) (ok_wirelesslaw33_end F (Mu U0 [some b_57, some b_1]) _ 40 23 1 (C.give [0, 1] [] (by decide) rfl rfl (by decide)) _ e_x_58) rfl ?_
    rintro v w ⟨A_59, k_60, A_62, k_63, rfl, D, f_61, f_64⟩
    obtain ⟨C', T⟩ := C.join D [0, 1] [] (by decide) rfl rfl (by decide)
    replace C' : Ctx U0 [] w0 [some b_57, some b_1] _ := C'
    replace T : TR U0 [some b_57, some b_1] _ [some b_57, some b_1] _ [] := T
    replace f_61 : Sl 1 (RSl 1 (RInt .u8)) (Mu U0 [some b_57, some b_1]) _ A_59 k_60 x_58.Out := f_61.mu (mu_join (R := []) (L2 := [some b_57, some b_1]) (fun b h => h))
    replace f_64 : Sl 1 (RInt .u8) (Mu U0 [some b_57, some b_1]) _ A_62 k_63 x_58.In := f_64.mu (mu_join (R := []) (L2 := [some b_57, some b_1]) (fun b h => h))
    replace f_28 := T.sl f_28
    replace f_31 := T.sl f_31
    replace f_34 := T.sl f_34
    replace f_50 := T.sl f_50
    replace f_53 := T.sl f_53
    replace hb_1 := T.blk ne0 hb_1
    replace hb_57 := T.blk ne0 hb_57
    clear T; replace C := C'; clear C'
    clear D
    refine WL.world (rw_buildSlice (sz := 1) (R := (RInt .u8)) (es := [.int .u8 0]) (dt := [0]) Try.underlying24 Try.sizeOf5 Try.zeroValue5 rfl rfl rfl rfl rfl rfl rfl rfl ⟨_, _, rfl, rfl, rfl, rfl⟩ C) rfl ?_
    rintro v w ⟨A_66, k_67, rfl, f_68, C', T⟩
    replace C' : Ctx U0 [] w0 [ob A_66, some b_57, some b_1] _ := C'
    replace T : TR U0 [some b_57, some b_1] _ [ob A_66, some b_57, some b_1] _ _ := T
    replace f_68 : Own 1 5 (RInt .u8) (Mu U0 [ob A_66, some b_57, some b_1]) _ A_66 k_67 [0] := f_68
    replace f_28 := T.sl f_28
    replace f_31 := T.sl f_31
    replace f_34 := T.sl f_34
    replace f_50 := T.sl f_50
    replace f_53 := T.sl f_53
    replace f_61 := T.sl f_61
    replace f_64 := T.sl f_64
    replace hb_1 := T.blk ne0 hb_1
    replace hb_57 := T.blk ne0 hb_57
    clear T; replace C := C'; clear C'
    have f_69 : Sl 1 (RInt .u8) (Mu U0 [some b_57, some b_1]) _ A_66 k_67 [0] := f_68.toSl (C.off (i := 0) rfl [1, 2] rfl (by decide)) (Mu.weaken (mem_pick [1, 2] rfl))
    have T : TR U0 [ob A_66, some b_57, some b_1] w [some b_57, some b_1] w [] := TR.pick [1, 2] rfl
    have C' : Ctx U0 [] w0 [some b_57, some b_1] _ := C.pick [1, 2] (by decide) rfl
    replace f_28 := T.sl f_28
    replace f_31 := T.sl f_31
    replace f_34 := T.sl f_34
    replace f_50 := T.sl f_50
    replace f_53 := T.sl f_53
    replace f_61 := T.sl f_61
    replace f_64 := T.sl f_64
    replace hb_1 := T.blk ne0 hb_1
    replace hb_57 := T.blk ne0 hb_57
    clear T; replace C := C'; clear C'
    replace hp := bind_inv hp
    obtain ⟨x_70, e_x_70, hp⟩ := hp
    refine WL.call (rc_func Try.call16 rfl) (ok_sdu_Input F (Mu U0 [some b_57, some b_1]) _ x_58 [0] A_59 k_60 A_62 k_63 A_66 k_67 (C.give [0, 1] [] (by decide) rfl rfl (by decide)) (f_61.mu (mu_give [0, 1] [] rfl rfl)) (f_64.mu (mu_give [0, 1] [] rfl rfl)) (f_69.mu (mu_give [0, 1] [] rfl rfl)) _ e_x_70) rfl ?_
    rintro v w ⟨A_71, k_72, A_74, k_75, A_77, k_78, rfl, D, f_73, f_76, f_79⟩
    obtain ⟨C', T⟩ := C.join D [0, 1] [] (by decide) rfl rfl (by decide)
    replace C' : Ctx U0 [] w0 [some b_57, some b_1] _ := C'
    replace T : TR U0 [some b_57, some b_1] _ [some b_57, some b_1] _ [] := T
    replace f_73 : Sl 1 (RSl 1 (RInt .u8)) (Mu U0 [some b_57, some b_1]) _ A_71 k_72 x_70.1.Out := f_73.mu (mu_join (R := []) (L2 := [some b_57, some b_1]) (fun b h => h))
    replace f_76 : Sl 1 (RInt .u8) (Mu U0 [some b_57, some b_1]) _ A_74 k_75 x_70.1.In := f_76.mu (mu_join (R := []) (L2 := [some b_57, some b_1]) (fun b h => h))
    replace f_79 : Sl 1 (RSl 1 (RInt .u8)) (Mu U0 [some b_57, some b_1]) _ A_77 k_78 x_70.2.1 := f_79.mu (mu_join (R := []) (L2 := [some b_57, some b_1]) (fun b h => h))
    replace f_28 := T.sl f_28
    replace f_31 := T.sl f_31
    replace f_34 := T.sl f_34
    replace f_50 := T.sl f_50
    replace f_53 := T.sl f_53
    replace f_61 := T.sl f_61
    replace f_64 := T.sl f_64
    replace f_69 := T.sl f_69
    replace hb_1 := T.blk ne0 hb_1
    replace hb_57 := T.blk ne0 hb_57
    clear T; replace C := C'; clear C'
    clear D
    refine WL.val (rv_move rfl) rfl ?_
    refine WL.val (rv_extract rfl rfl) rfl ?_
    refine WL.val (rv_extract rfl rfl) rfl ?_
    refine WL.val (rv_extract rfl rfl) rfl ?_
    refine WL.world (rw_alloc Try.zeroValue26 rfl C) rfl ?_
    rintro v w ⟨b_80, rfl, hb_80, C', T⟩
    replace C' : Ctx U0 [] w0 [some b_80, some b_57, some b_1] _ := C'
    replace T : TR U0 [some b_57, some b_1] _ [some b_80, some b_57, some b_1] _ [] := T
    replace hb_80 : Blk _ b_80 26 [.int .u16 0, .int .u16 0, .int .u16 0, .int .i64 0, .int .i64 0, .int .i64 0, .int .i64 0, .int .i64 0, .int .i64 0, .int .i64 0, .slice none 0 0, .int .i64 0, .slice none 0 0, .int .i64 0, .bool false] := hb_80
    replace f_28 := T.sl f_28
    replace f_31 := T.sl f_31
    replace f_34 := T.sl f_34
    replace f_50 := T.sl f_50
    replace f_53 := T.sl f_53
    replace f_61 := T.sl f_61
    replace f_64 := T.sl f_64
    replace f_69 := T.sl f_69
    replace f_73 := T.sl f_73
    replace f_76 := T.sl f_76
    replace f_79 := T.sl f_79
    replace hb_1 := T.blk ne0 hb_1
    replace hb_57 := T.blk ne0 hb_57
    clear T; replace C := C'; clear C'
    refine WL.storeK (rs_store (i := 0) (cs' := [.int .u16 x_70.1.Local, .int .u16 x_70.1.Remote, .int .u16 x_70.1.PSM, .int .i64 x_70.1.MTU, .int .i64 x_70.1.MPS, .int .i64 x_70.1.PeerMTU, .int .i64 x_70.1.PeerMPS, .int .i64 x_70.1.TxCredits, .int .i64 x_70.1.RxCredits, .int .i64 x_70.1.Given, .slice A_71 (List.length x_70.1.Out) k_72, .int .i64 x_70.1.Sent, .slice A_74 (List.length x_70.1.In) k_75, .int .i64 x_70.1.Want, .bool x_70.1.Failed]) Try.sizeOf26 rfl rfl rfl rfl rfl hb_80 rfl C rfl rfl) ?_
    rintro w ⟨hb_80, C', T⟩
    replace f_28 := T.sl f_28
    replace f_31 := T.sl f_31
    replace f_34 := T.sl f_34
    replace f_50 := T.sl f_50
    replace f_53 := T.sl f_53
    replace f_61 := T.sl f_61
    replace f_64 := T.sl f_64
    replace f_69 := T.sl f_69
    replace f_73 := T.sl f_73
    replace f_76 := T.sl f_76
    replace f_79 := T.sl f_79
    replace hb_1 := T.blk (C.ne (i := 2) rfl [0] rfl (by decide)) hb_1
    replace hb_57 := T.blk (C.ne (i := 1) rfl [0] rfl (by decide)) hb_57
    clear T; replace C := C'; clear C'
    refine WL.val (rv_assign rfl) rfl ?_
    refine WL.val (rv_assign rfl) rfl ?_
    refine WL.nilThen ?_
    refine WC.seq ?_
    refine WC.region ?_
    replace hp := bind_inv hp
    obtain ⟨x_81, e_x_81, hp⟩ := hp
    refine WL.call (rc_func Try.call19 rfl) (ok_wirelesslaw33_end F (Mu U0 [some b_80, some b_57, some b_1]) _ 40 23 1 (C.give [0, 1, 2] [] (by decide) rfl rfl (by decide)) _ e_x_81) rfl ?_
    rintro v w ⟨A_82, k_83, A_85, k_86, rfl, D, f_84, f_87⟩
    obtain ⟨C', T⟩ := C.join D [0, 1, 2] [] (by decide) rfl rfl (by decide)
    replace C' : Ctx U0 [] w0 [some b_80, some b_57, some b_1] _ := C'
    replace T : TR U0 [some b_80, some b_57, some b_1] _ [some b_80, some b_57, some b_1] _ [] := T
    replace f_84 : Sl 1 (RSl 1 (RInt .u8)) (Mu U0 [some b_80, some b_57, some b_1]) _ A_82 k_83 x_81.Out := f_84.mu (mu_join (R := []) (L2 := [some b_80, some b_57, some b_1]) (fun b h => h))
    replace f_87 : Sl 1 (RInt .u8) (Mu U0 [some b_80, some b_57, some b_1]) _ A_85 k_86 x_81.In := f_87.mu (mu_join (R := []) (L2 := [some b_80, some b_57, some b_1]) (fun b h => h))
    replace f_28 := T.sl f_28
    replace f_31 := T.sl f_31
    replace f_34 := T.sl f_34
    replace f_50 := T.sl f_50
    replace f_53 := T.sl f_53
    replace hb_1 := T.blk ne0 hb_1
    replace hb_57 := T.blk ne0 hb_57
    clear T; replace C := C'; clear C'
    clear D
    refine WL.world (rw_buildSlice (sz := 1) (R := (RInt .u8)) (es := [.int .u8 0, .int .u8 0]) (dt := [0, 0]) Try.underlying24 Try.sizeOf5 Try.zeroValue5 rfl rfl rfl rfl rfl rfl rfl rfl ⟨_, _, rfl, rfl, rfl, ⟨_, _, rfl, rfl, rfl, rfl⟩⟩ C) rfl ?_
    rintro v w ⟨A_89, k_90, rfl, f_91, C', T⟩
    replace C' : Ctx U0 [] w0 [ob A_89, some b_80, some b_57, some b_1] _ := C'
    replace T : TR U0 [some b_80, some b_57, some b_1] _ [ob A_89, some b_80, some b_57, some b_1] _ _ := T
    replace f_91 : Own 1 5 (RInt .u8) (Mu U0 [ob A_89, some b_80, some b_57, some b_1]) _ A_89 k_90 [0, 0] := f_91
    replace f_28 := T.sl f_28
    replace f_31 := T.sl f_31
    replace f_34 := T.sl f_34
    replace f_50 := T.sl f_50
    replace f_53 := T.sl f_53
    replace f_84 := T.sl f_84
    replace f_87 := T.sl f_87
    replace hb_1 := T.blk ne0 hb_1
    replace hb_57 := T.blk ne0 hb_57
    clear T; replace C := C'; clear C'
    have f_92 : Sl 1 (RInt .u8) (Mu U0 [some b_80, some b_57, some b_1]) _ A_89 k_90 [0, 0] := f_91.toSl (C.off (i := 0) rfl [1, 2, 3] rfl (by decide)) (Mu.weaken (mem_pick [1, 2, 3] rfl))
    have T : TR U0 [ob A_89, some b_80, some b_57, some b_1] w [some b_80, some b_57, some b_1] w [] := TR.pick [1, 2, 3] rfl
    have C' : Ctx U0 [] w0 [some b_80, some b_57, some b_1] _ := C.pick [1, 2, 3] (by decide) rfl
    replace f_28 := T.sl f_28
    replace f_31 := T.sl f_31
    replace f_34 := T.sl f_34
    replace f_50 := T.sl f_50
    replace f_53 := T.sl f_53
    replace f_84 := T.sl f_84
    replace f_87 := T.sl f_87
    replace hb_1 := T.blk ne0 hb_1
    replace hb_57 := T.blk ne0 hb_57
    clear T; replace C := C'; clear C'
    replace hp := bind_inv hp
    obtain ⟨x_93, e_x_93, hp⟩ := hp
    refine WL.call (rc_func Try.call16 rfl) (ok_sdu_Input F (Mu U0 [some b_80, some b_57, some b_1]) _ x_81 [0, 0] A_82 k_83 A_85 k_86 A_89 k_90 (C.give [0, 1, 2] [] (by decide) rfl rfl (by decide)) (f_84.mu (mu_give [0, 1, 2] [] rfl rfl)) (f_87.mu (mu_give [0, 1, 2] [] rfl rfl)) (f_92.mu (mu_give [0, 1, 2] [] rfl rfl)) _ e_x_93) rfl ?_
    rintro v w ⟨A_94, k_95, A_97, k_98, A_100, k_101, rfl, D, f_96, f_99, f_102⟩
    obtain ⟨C', T⟩ := C.join D [0, 1, 2] [] (by decide) rfl rfl (by decide)
    replace C' : Ctx U0 [] w0 [some b_80, some b_57, some b_1] _ := C'
    replace T : TR U0 [some b_80, some b_57, some b_1] _ [some b_80, some b_57, some b_1] _ [] := T
    replace f_96 : Sl 1 (RSl 1 (RInt .u8)) (Mu U0 [some b_80, some b_57, some b_1]) _ A_94 k_95 x_93.1.Out := f_96.mu (mu_join (R := []) (L2 := [some b_80, some b_57, some b_1]) (fun b h => h))
    replace f_99 : Sl 1 (RInt .u8) (Mu U0 [some b_80, some b_57, some b_1]) _ A_97 k_98 x_93.1.In := f_99.mu (mu_join (R := []) (L2 := [some b_80, some b_57, some b_1]) (fun b h => h))
    replace f_102 : Sl 1 (RSl 1 (RInt .u8)) (Mu U0 [some b_80, some b_57, some b_1]) _ A_100 k_101 x_93.2.1 := f_102.mu (mu_join (R := []) (L2 := [some b_80, some b_57, some b_1]) (fun b h => h))
    replace f_28 := T.sl f_28
    replace f_31 := T.sl f_31
    replace f_34 := T.sl f_34
    replace f_50 := T.sl f_50
    replace f_53 := T.sl f_53
    replace f_84 := T.sl f_84
    replace f_87 := T.sl f_87
    replace f_92 := T.sl f_92
    replace hb_1 := T.blk ne0 hb_1
    replace hb_57 := T.blk ne0 hb_57
    clear T; replace C := C'; clear C'
    clear D
    refine WL.val (rv_move rfl) rfl ?_
    refine WL.val (rv_extract rfl rfl) rfl ?_
    refine WL.val (rv_extract rfl rfl) rfl ?_
    refine WL.val (rv_extract rfl rfl) rfl ?_
    refine WL.world (rw_alloc Try.zeroValue26 rfl C) rfl ?_
    rintro v w ⟨b_103, rfl, hb_103, C', T⟩
    replace C' : Ctx U0 [] w0 [some b_103, some b_80, some b_57, some b_1] _ := C'
    replace T : TR U0 [some b_80, some b_57, some b_1] _ [some b_103, some b_80, some b_57, some b_1] _ [] := T
    replace hb_103 : Blk _ b_103 26 [.int .u16 0, .int .u16 0, .int .u16 0, .int .i64 0, .int .i64 0, .int .i64 0, .int .i64 0, .int .i64 0, .int .i64 0, .int .i64 0, .slice none 0 0, .int .i64 0, .slice none 0 0, .int .i64 0, .bool false] := hb_103
    replace f_28 := T.sl f_28
    replace f_31 := T.sl f_31
    replace f_34 := T.sl f_34
    replace f_50 := T.sl f_50
    replace f_53 := T.sl f_53
    replace f_84 := T.sl f_84
    replace f_87 := T.sl f_87
    replace f_92 := T.sl f_92
    replace f_96 := T.sl f_96
    replace f_99 := T.sl f_99
    replace f_102 := T.sl f_102
    replace hb_1 := T.blk ne0 hb_1
    replace hb_57 := T.blk ne0 hb_57
    clear T; replace C := C'; clear C'
    refine WL.storeK (rs_store (i := 0) (cs' := [.int .u16 x_93.1.Local, .int .u16 x_93.1.Remote, .int .u16 x_93.1.PSM, .int .i64 x_93.1.MTU, .int .i64 x_93.1.MPS, .int .i64 x_93.1.PeerMTU, .int .i64 x_93.1.PeerMPS, .int .i64 x_93.1.TxCredits, .int .i64 x_93.1.RxCredits, .int .i64 x_93.1.Given, .slice A_94 (List.length x_93.1.Out) k_95, .int .i64 x_93.1.Sent, .slice A_97 (List.length x_93.1.In) k_98, .int .i64 x_93.1.Want, .bool x_93.1.Failed]) Try.sizeOf26 rfl rfl rfl rfl rfl hb_103 rfl C rfl rfl) ?_
    rintro w ⟨hb_103, C', T⟩
    replace f_28 := T.sl f_28
    replace f_31 := T.sl f_31
    replace f_34 := T.sl f_34
    replace f_50 := T.sl f_50
    replace f_53 := T.sl f_53
    replace f_84 := T.sl f_84
    replace f_87 := T.sl f_87
    replace f_92 := T.sl f_92
    replace f_96 := T.sl f_96
    replace f_99 := T.sl f_99
    replace f_102 := T.sl f_102
    replace hb_1 := T.blk (C.ne (i := 3) rfl [0] rfl (by decide)) hb_1
    replace hb_57 := T.blk (C.ne (i := 2) rfl [0] rfl (by decide)) hb_57
    clear T; replace C := C'; clear C'
    refine WL.val (rv_assign rfl) rfl ?_
    refine WL.val (rv_assign rfl) rfl ?_
    refine WL.nilThen ?_
    refine WC.seq ?_
    refine WC.region ?_
    refine WL.val (rv_move rfl) rfl ?_
    refine WL.val (rv_eql rfl rfl) rfl ?_
    refine WL.val (rv_move rfl) rfl ?_
    refine WL.cutAt 4 (fun a w' => w = w' ∧ Holds 107 [(1, .pointer (some ⟨b_1, 0, none⟩)), (3, .slice A_32 (List.length x_25.2) k_33), (4, .pointer (some ⟨b_57, 0, none⟩)), (6, .int .i64 x_47.2.2), (9, .int .i64 x_70.2.2), (11, .slice A_100 (List.length x_93.2.1) k_101), (12, .int .i64 x_93.2.2), (51, .bool ((x_23 == 0) && ((len x_25.2) == 2)))] a) ?_ ?_
    · rcases Bool.eq_false_or_eq_true ((x_23 == 0)) with hg_104 | hg_104
      · refine WL.yes rfl rfl hg_104 ?_
        refine WL.val (rv_move rfl) rfl ?_
        refine WL.yes rfl rfl hg_104 ?_
        refine WL.val (rv_len (dt := x_25.2) Try.underlying23 rfl) rfl ?_
        refine WL.yes rfl rfl hg_104 ?_
        refine WL.val (rv_eql rfl rfl) rfl ?_
        refine WL.val (rv_pick_t rfl hg_104 rfl) rfl ?_
        refine WL.nil (fun a ha => ?_)
        exact ⟨rfl, ha.sub ⟨rfl, rfl, rfl, rfl, rfl, rfl, rfl, and_t hg_104, trivial⟩⟩
      · refine WL.no rfl rfl hg_104 rfl ?_
        refine WL.no rfl rfl hg_104 rfl ?_
        refine WL.no rfl rfl hg_104 rfl ?_
        refine WL.val (rv_pick_f rfl hg_104 rfl) rfl ?_
        refine WL.nil (fun a ha => ?_)
        exact ⟨rfl, ha.sub ⟨rfl, rfl, rfl, rfl, rfl, rfl, rfl, and_f hg_104, trivial⟩⟩
    · rintro a w' ⟨rfl, ha⟩
      refine WL.ofJ (l := [(1, .pointer (some ⟨b_1, 0, none⟩)), (3, .slice A_32 (List.length x_25.2) k_33), (4, .pointer (some ⟨b_57, 0, none⟩)), (6, .int .i64 x_47.2.2), (9, .int .i64 x_70.2.2), (11, .slice A_100 (List.length x_93.2.1) k_101), (12, .int .i64 x_93.2.2), (51, .bool ((x_23 == 0) && ((len x_25.2) == 2)))]) ?_ ha
      refine WL.val (rv_move rfl) rfl ?_
      obtain ⟨z_106, hz, hpr⟩ := bind_inv hp
      clear hp
      refine WL.cutAt 6 (fun a w => (True) ∧ (Holds 107 [(1, .pointer (some ⟨b_1, 0, none⟩)), (3, .slice A_32 (List.length x_25.2) k_33), (4, .pointer (some ⟨b_57, 0, none⟩)), (6, .int .i64 x_47.2.2), (9, .int .i64 x_70.2.2), (11, .slice A_100 (List.length x_93.2.1) k_101), (12, .int .i64 x_93.2.2), (58, .bool z_106)] a) ∧ (Ctx U0 [] w0 [some b_57, some b_1] w) ∧ (Sl 1 (RSl 1 (RInt .u8)) (Mu U0 [some b_57, some b_1]) w A_26 k_27 x_25.1.Out) ∧ (Sl 1 (RInt .u8) (Mu U0 [some b_57, some b_1]) w A_29 k_30 x_25.1.In) ∧ (Sl 1 (RSl 1 (RInt .u8)) (Mu U0 [some b_57, some b_1]) w A_32 k_33 x_25.2) ∧ (Sl 1 (RSl 1 (RInt .u8)) (Mu U0 [some b_57, some b_1]) w A_48 k_49 x_47.1.Out) ∧ (Sl 1 (RInt .u8) (Mu U0 [some b_57, some b_1]) w A_51 k_52 x_47.1.In) ∧ (Sl 1 (RSl 1 (RInt .u8)) (Mu U0 [some b_57, some b_1]) w A_100 k_101 x_93.2.1) ∧ (Blk w b_1 26 [.int .u16 x_25.1.Local, .int .u16 x_25.1.Remote, .int .u16 x_25.1.PSM, .int .i64 x_25.1.MTU, .int .i64 x_25.1.MPS, .int .i64 x_25.1.PeerMTU, .int .i64 x_25.1.PeerMPS, .int .i64 x_25.1.TxCredits, .int .i64 x_25.1.RxCredits, .int .i64 x_25.1.Given, .slice A_26 (List.length x_25.1.Out) k_27, .int .i64 x_25.1.Sent, .slice A_29 (List.length x_25.1.In) k_30, .int .i64 x_25.1.Want, .bool x_25.1.Failed]) ∧ (Blk w b_57 26 [.int .u16 x_47.1.Local, .int .u16 x_47.1.Remote, .int .u16 x_47.1.PSM, .int .i64 x_47.1.MTU, .int .i64 x_47.1.MPS, .int .i64 x_47.1.PeerMTU, .int .i64 x_47.1.PeerMPS, .int .i64 x_47.1.TxCredits, .int .i64 x_47.1.RxCredits, .int .i64 x_47.1.Given, .slice A_48 (List.length x_47.1.Out) k_49, .int .i64 x_47.1.Sent, .slice A_51 (List.length x_47.1.In) k_52, .int .i64 x_47.1.Want, .bool x_47.1.Failed])) ?_ ?_
      · have hp := hz
        rcases Bool.eq_false_or_eq_true (((x_23 == 0) && ((len x_25.2) == 2))) with hg_105 | hg_105
        · replace hp := if_t hp hg_105
          refine WL.yes rfl rfl hg_105 ?_
          refine WL.val (rv_move rfl) rfl ?_
          replace hp := bind_inv hp
          obtain ⟨x_148, e_x_148, hp⟩ := hp
          refine WL.yes rfl rfl hg_105 ?_
          refine WL.ixSl (dt := x_25.2) Try.underlying23 Try.sizeOf24 rfl rfl rfl f_34 e_x_148 rfl ?_
          intro d_149 es_150 f_151 hl hr
          obtain ⟨A_152, k_153, rfl, f_154⟩ := hr
          clear hl
          refine WL.yes rfl rfl hg_105 ?_
          refine WL.val (rv_loadA1 (ad := d_149) (o := 0) Try.isAgg24 rfl f_151 rfl) rfl ?_
          refine WL.yes rfl rfl hg_105 ?_
          refine WL.val (rv_len (dt := x_148) Try.underlying24 rfl) rfl ?_
          refine WL.yes rfl rfl hg_105 ?_
          refine WL.val (rv_eql rfl rfl) rfl ?_
          refine WL.val (rv_pick_t rfl hg_105 rfl) rfl ?_
          refine WL.nil (fun a ha => ?_)
          obtain rfl := some_inv' hp
          have T : TR U0 [some b_103, some b_80, some b_57, some b_1] w [some b_57, some b_1] w [] := TR.pick [2, 3] rfl
          have C' : Ctx U0 [] w0 [some b_57, some b_1] _ := C.pick [2, 3] (by decide) rfl
          replace f_28 := T.sl f_28
          replace f_31 := T.sl f_31
          replace f_34 := T.sl f_34
          replace f_50 := T.sl f_50
          replace f_53 := T.sl f_53
          replace f_102 := T.sl f_102
          replace hb_1 := T.blk ne0 hb_1
          replace hb_57 := T.blk ne0 hb_57
          clear T; replace C := C'; clear C'
          exact ⟨trivial, ha.sub ⟨rfl, rfl, rfl, rfl, rfl, rfl, rfl, rfl, trivial⟩, C, f_28, f_31, f_34, f_50, f_53, f_102, hb_1, hb_57⟩
        · replace hp := if_f hp hg_105
          refine WL.no rfl rfl hg_105 rfl ?_
          refine WL.no rfl rfl hg_105 rfl ?_
          refine WL.no rfl rfl hg_105 rfl ?_
          refine WL.no rfl rfl hg_105 rfl ?_
          refine WL.no rfl rfl hg_105 rfl ?_
          refine WL.val (rv_pick_f rfl hg_105 rfl) rfl ?_
          refine WL.nil (fun a ha => ?_)
          obtain rfl := some_inv' hp
          have T : TR U0 [some b_103, some b_80, some b_57, some b_1] w [some b_57, some b_1] w [] := TR.pick [2, 3] rfl
          have C' : Ctx U0 [] w0 [some b_57, some b_1] _ := C.pick [2, 3] (by decide) rfl
          replace f_28 := T.sl f_28
          replace f_31 := T.sl f_31
          replace f_34 := T.sl f_34
          replace f_50 := T.sl f_50
          replace f_53 := T.sl f_53
          replace f_102 := T.sl f_102
          replace hb_1 := T.blk ne0 hb_1
          replace hb_57 := T.blk ne0 hb_57
          clear T; replace C := C'; clear C'
          exact ⟨trivial, ha.sub ⟨rfl, rfl, rfl, rfl, rfl, rfl, rfl, rfl, trivial⟩, C, f_28, f_31, f_34, f_50, f_53, f_102, hb_1, hb_57⟩
      · rintro a w ⟨hp, ha, C, f_28, f_31, f_34, f_50, f_53, f_102, hb_1, hb_57⟩
        have hp := hpr; clear hpr hz
        refine WL.ofJ (l := [(1, .pointer (some ⟨b_1, 0, none⟩)), (3, .slice A_32 (List.length x_25.2) k_33), (4, .pointer (some ⟨b_57, 0, none⟩)), (6, .int .i64 x_47.2.2), (9, .int .i64 x_70.2.2), (11, .slice A_100 (List.length x_93.2.1) k_101), (12, .int .i64 x_93.2.2), (58, .bool z_106)]) ?_ ha
        refine WL.val (rv_move rfl) rfl ?_
        obtain ⟨z_108, hz, hpr⟩ := bind_inv hp
        clear hp
        refine WL.cutAt 6 (fun a w => (True) ∧ (Holds 107 [(1, .pointer (some ⟨b_1, 0, none⟩)), (3, .slice A_32 (List.length x_25.2) k_33), (4, .pointer (some ⟨b_57, 0, none⟩)), (6, .int .i64 x_47.2.2), (9, .int .i64 x_70.2.2), (11, .slice A_100 (List.length x_93.2.1) k_101), (12, .int .i64 x_93.2.2), (65, .bool z_108)] a) ∧ (Ctx U0 [] w0 [some b_57, some b_1] w) ∧ (Sl 1 (RSl 1 (RInt .u8)) (Mu U0 [some b_57, some b_1]) w A_26 k_27 x_25.1.Out) ∧ (Sl 1 (RInt .u8) (Mu U0 [some b_57, some b_1]) w A_29 k_30 x_25.1.In) ∧ (Sl 1 (RSl 1 (RInt .u8)) (Mu U0 [some b_57, some b_1]) w A_32 k_33 x_25.2) ∧ (Sl 1 (RSl 1 (RInt .u8)) (Mu U0 [some b_57, some b_1]) w A_48 k_49 x_47.1.Out) ∧ (Sl 1 (RInt .u8) (Mu U0 [some b_57, some b_1]) w A_51 k_52 x_47.1.In) ∧ (Sl 1 (RSl 1 (RInt .u8)) (Mu U0 [some b_57, some b_1]) w A_100 k_101 x_93.2.1) ∧ (Blk w b_1 26 [.int .u16 x_25.1.Local, .int .u16 x_25.1.Remote, .int .u16 x_25.1.PSM, .int .i64 x_25.1.MTU, .int .i64 x_25.1.MPS, .int .i64 x_25.1.PeerMTU, .int .i64 x_25.1.PeerMPS, .int .i64 x_25.1.TxCredits, .int .i64 x_25.1.RxCredits, .int .i64 x_25.1.Given, .slice A_26 (List.length x_25.1.Out) k_27, .int .i64 x_25.1.Sent, .slice A_29 (List.length x_25.1.In) k_30, .int .i64 x_25.1.Want, .bool x_25.1.Failed]) ∧ (Blk w b_57 26 [.int .u16 x_47.1.Local, .int .u16 x_47.1.Remote, .int .u16 x_47.1.PSM, .int .i64 x_47.1.MTU, .int .i64 x_47.1.MPS, .int .i64 x_47.1.PeerMTU, .int .i64 x_47.1.PeerMPS, .int .i64 x_47.1.TxCredits, .int .i64 x_47.1.RxCredits, .int .i64 x_47.1.Given, .slice A_48 (List.length x_47.1.Out) k_49, .int .i64 x_47.1.Sent, .slice A_51 (List.length x_47.1.In) k_52, .int .i64 x_47.1.Want, .bool x_47.1.Failed])) ?_ ?_
        · have hp := hz
          rcases Bool.eq_false_or_eq_true (z_106) with hg_107 | hg_107
          · replace hp := if_t hp hg_107
            refine WL.yes rfl rfl hg_107 ?_
            refine WL.val (rv_move rfl) rfl ?_
            replace hp := bind_inv hp
            obtain ⟨x_140, e_x_140, hp⟩ := hp
            refine WL.yes rfl rfl hg_107 ?_
            refine WL.ixSl (dt := x_25.2) Try.underlying23 Try.sizeOf24 rfl rfl rfl f_34 e_x_140 rfl ?_
            intro d_141 es_142 f_143 hl hr
            obtain ⟨A_144, k_145, rfl, f_146⟩ := hr
            clear hl
            refine WL.yes rfl rfl hg_107 ?_
            refine WL.val (rv_loadA1 (ad := d_141) (o := 0) Try.isAgg24 rfl f_143 rfl) rfl ?_
            refine WL.yes rfl rfl hg_107 ?_
            refine WL.val (rv_len (dt := x_140) Try.underlying24 rfl) rfl ?_
            refine WL.yes rfl rfl hg_107 ?_
            refine WL.val (rv_eql rfl rfl) rfl ?_
            refine WL.val (rv_pick_t rfl hg_107 rfl) rfl ?_
            refine WL.nil (fun a ha => ?_)
            obtain rfl := some_inv' hp
            exact ⟨trivial, ha.sub ⟨rfl, rfl, rfl, rfl, rfl, rfl, rfl, rfl, trivial⟩, C, f_28, f_31, f_34, f_50, f_53, f_102, hb_1, hb_57⟩
          · replace hp := if_f hp hg_107
            refine WL.no rfl rfl hg_107 rfl ?_
            refine WL.no rfl rfl hg_107 rfl ?_
            refine WL.no rfl rfl hg_107 rfl ?_
            refine WL.no rfl rfl hg_107 rfl ?_
            refine WL.no rfl rfl hg_107 rfl ?_
            refine WL.val (rv_pick_f rfl hg_107 rfl) rfl ?_
            refine WL.nil (fun a ha => ?_)
            obtain rfl := some_inv' hp
            exact ⟨trivial, ha.sub ⟨rfl, rfl, rfl, rfl, rfl, rfl, rfl, rfl, trivial⟩, C, f_28, f_31, f_34, f_50, f_53, f_102, hb_1, hb_57⟩
        · rintro a w ⟨hp, ha, C, f_28, f_31, f_34, f_50, f_53, f_102, hb_1, hb_57⟩
          have hp := hpr; clear hpr hz
          refine WL.ofJ (l := [(1, .pointer (some ⟨b_1, 0, none⟩)), (3, .slice A_32 (List.length x_25.2) k_33), (4, .pointer (some ⟨b_57, 0, none⟩)), (6, .int .i64 x_47.2.2), (9, .int .i64 x_70.2.2), (11, .slice A_100 (List.length x_93.2.1) k_101), (12, .int .i64 x_93.2.2), (65, .bool z_108)]) ?_ ha
          refine WL.val (rv_move rfl) rfl ?_
          obtain ⟨z_110, hz, hpr⟩ := bind_inv hp
          clear hp
          refine WL.cutAt 7 (fun a w => (True) ∧ (Holds 107 [(1, .pointer (some ⟨b_1, 0, none⟩)), (4, .pointer (some ⟨b_57, 0, none⟩)), (6, .int .i64 x_47.2.2), (9, .int .i64 x_70.2.2), (11, .slice A_100 (List.length x_93.2.1) k_101), (12, .int .i64 x_93.2.2), (73, .bool z_110)] a) ∧ (Ctx U0 [] w0 [some b_57, some b_1] w) ∧ (Sl 1 (RSl 1 (RInt .u8)) (Mu U0 [some b_57, some b_1]) w A_26 k_27 x_25.1.Out) ∧ (Sl 1 (RInt .u8) (Mu U0 [some b_57, some b_1]) w A_29 k_30 x_25.1.In) ∧ (Sl 1 (RSl 1 (RInt .u8)) (Mu U0 [some b_57, some b_1]) w A_48 k_49 x_47.1.Out) ∧ (Sl 1 (RInt .u8) (Mu U0 [some b_57, some b_1]) w A_51 k_52 x_47.1.In) ∧ (Sl 1 (RSl 1 (RInt .u8)) (Mu U0 [some b_57, some b_1]) w A_100 k_101 x_93.2.1) ∧ (Blk w b_1 26 [.int .u16 x_25.1.Local, .int .u16 x_25.1.Remote, .int .u16 x_25.1.PSM, .int .i64 x_25.1.MTU, .int .i64 x_25.1.MPS, .int .i64 x_25.1.PeerMTU, .int .i64 x_25.1.PeerMPS, .int .i64 x_25.1.TxCredits, .int .i64 x_25.1.RxCredits, .int .i64 x_25.1.Given, .slice A_26 (List.length x_25.1.Out) k_27, .int .i64 x_25.1.Sent, .slice A_29 (List.length x_25.1.In) k_30, .int .i64 x_25.1.Want, .bool x_25.1.Failed]) ∧ (Blk w b_57 26 [.int .u16 x_47.1.Local, .int .u16 x_47.1.Remote, .int .u16 x_47.1.PSM, .int .i64 x_47.1.MTU, .int .i64 x_47.1.MPS, .int .i64 x_47.1.PeerMTU, .int .i64 x_47.1.PeerMPS, .int .i64 x_47.1.TxCredits, .int .i64 x_47.1.RxCredits, .int .i64 x_47.1.Given, .slice A_48 (List.length x_47.1.Out) k_49, .int .i64 x_47.1.Sent, .slice A_51 (List.length x_47.1.In) k_52, .int .i64 x_47.1.Want, .bool x_47.1.Failed])) ?_ ?_
          · have hp := hz
            rcases Bool.eq_false_or_eq_true (z_108) with hg_109 | hg_109
            · replace hp := if_t hp hg_109
              refine WL.yes rfl rfl hg_109 ?_
              refine WL.val (rv_move rfl) rfl ?_
              replace hp := bind_inv hp
              obtain ⟨x_128, e_x_128, hp⟩ := hp
              refine WL.yes rfl rfl hg_109 ?_
              refine WL.ixSl (dt := x_25.2) Try.underlying23 Try.sizeOf24 rfl rfl rfl f_34 e_x_128 rfl ?_
              intro d_129 es_130 f_131 hl hr
              obtain ⟨A_132, k_133, rfl, f_134⟩ := hr
              clear hl
              refine WL.yes rfl rfl hg_109 ?_
              refine WL.val (rv_loadA1 (ad := d_129) (o := 0) Try.isAgg24 rfl f_131 rfl) rfl ?_
              replace hp := bind_inv hp
              obtain ⟨x_135, e_x_135, hp⟩ := hp
              refine WL.yes rfl rfl hg_109 ?_
              refine WL.ixSl (dt := x_128) Try.underlying24 Try.sizeOf5 rfl rfl rfl f_134 e_x_135 rfl ?_
              intro d_136 es_137 f_138 hl hr
              obtain rfl : es_137 = [.int .u8 x_135] := hr
              clear hl
              refine WL.yes rfl rfl hg_109 ?_
              refine WL.val (rv_loadA1 (ad := d_136) (o := 0) Try.isAgg5 rfl f_138 rfl) rfl ?_
              refine WL.yes rfl rfl hg_109 ?_
              refine WL.val (rv_eql rfl rfl) rfl ?_
              refine WL.val (rv_pick_t rfl hg_109 rfl) rfl ?_
              refine WL.nil (fun a ha => ?_)
              obtain rfl := some_inv' hp
              exact ⟨trivial, ha.sub ⟨rfl, rfl, rfl, rfl, rfl, rfl, rfl, trivial⟩, C, f_28, f_31, f_50, f_53, f_102, hb_1, hb_57⟩
            · replace hp := if_f hp hg_109
              refine WL.no rfl rfl hg_109 rfl ?_
              refine WL.no rfl rfl hg_109 rfl ?_
              refine WL.no rfl rfl hg_109 rfl ?_
              refine WL.no rfl rfl hg_109 rfl ?_
              refine WL.no rfl rfl hg_109 rfl ?_
              refine WL.no rfl rfl hg_109 rfl ?_
              refine WL.val (rv_pick_f rfl hg_109 rfl) rfl ?_
              refine WL.nil (fun a ha => ?_)
              obtain rfl := some_inv' hp
              exact ⟨trivial, ha.sub ⟨rfl, rfl, rfl, rfl, rfl, rfl, rfl, trivial⟩, C, f_28, f_31, f_50, f_53, f_102, hb_1, hb_57⟩
          · rintro a w ⟨hp, ha, C, f_28, f_31, f_50, f_53, f_102, hb_1, hb_57⟩
            have hp := hpr; clear hpr hz
            refine WL.ofJ (l := [(1, .pointer (some ⟨b_1, 0, none⟩)), (4, .pointer (some ⟨b_57, 0, none⟩)), (6, .int .i64 x_47.2.2), (9, .int .i64 x_70.2.2), (11, .slice A_100 (List.length x_93.2.1) k_101), (12, .int .i64 x_93.2.2), (73, .bool z_110)]) ?_ ha
            refine WL.val (rv_move rfl) rfl ?_
            refine WL.cutAt 4 (fun a w' => w = w' ∧ Holds 107 [(4, .pointer (some ⟨b_57, 0, none⟩)), (6, .int .i64 x_47.2.2), (9, .int .i64 x_70.2.2), (11, .slice A_100 (List.length x_93.2.1) k_101), (12, .int .i64 x_93.2.2), (78, .bool (z_110 && (x_25.1.TxCredits == 3)))] a) ?_ ?_
            · rcases Bool.eq_false_or_eq_true (z_110) with hg_111 | hg_111
              · refine WL.yes rfl rfl hg_111 ?_
                refine WL.val (rv_fieldAddr FA26_7 rfl rfl) rfl ?_
                refine WL.yes rfl rfl hg_111 ?_
                refine WL.val (rv_load1 Try.isAgg3 rfl hb_1 rfl) rfl ?_
                refine WL.yes rfl rfl hg_111 ?_
                refine WL.val (rv_eql rfl rfl) rfl ?_
                refine WL.val (rv_pick_t rfl hg_111 rfl) rfl ?_
                refine WL.nil (fun a ha => ?_)
                exact ⟨rfl, ha.sub ⟨rfl, rfl, rfl, rfl, rfl, and_t hg_111, trivial⟩⟩
              · refine WL.no rfl rfl hg_111 rfl ?_
                refine WL.no rfl rfl hg_111 rfl ?_
                refine WL.no rfl rfl hg_111 rfl ?_
                refine WL.val (rv_pick_f rfl hg_111 rfl) rfl ?_
                refine WL.nil (fun a ha => ?_)
                exact ⟨rfl, ha.sub ⟨rfl, rfl, rfl, rfl, rfl, and_f hg_111, trivial⟩⟩
            · rintro a w' ⟨rfl, ha⟩
              refine WL.ofJ (l := [(4, .pointer (some ⟨b_57, 0, none⟩)), (6, .int .i64 x_47.2.2), (9, .int .i64 x_70.2.2), (11, .slice A_100 (List.length x_93.2.1) k_101), (12, .int .i64 x_93.2.2), (78, .bool (z_110 && (x_25.1.TxCredits == 3)))]) ?_ ha
              refine WL.val (rv_move rfl) rfl ?_
              refine WL.cutAt 3 (fun a w' => w = w' ∧ Holds 107 [(4, .pointer (some ⟨b_57, 0, none⟩)), (9, .int .i64 x_70.2.2), (11, .slice A_100 (List.length x_93.2.1) k_101), (12, .int .i64 x_93.2.2), (82, .bool ((z_110 && (x_25.1.TxCredits == 3)) && (x_47.2.2 == 19)))] a) ?_ ?_
              · rcases Bool.eq_false_or_eq_true ((z_110 && (x_25.1.TxCredits == 3))) with hg_112 | hg_112
                · refine WL.yes rfl rfl hg_112 ?_
                  refine WL.val (rv_move rfl) rfl ?_
                  refine WL.yes rfl rfl hg_112 ?_
                  refine WL.val (rv_eql rfl rfl) rfl ?_
                  refine WL.val (rv_pick_t rfl hg_112 rfl) rfl ?_
                  refine WL.nil (fun a ha => ?_)
                  exact ⟨rfl, ha.sub ⟨rfl, rfl, rfl, rfl, and_t hg_112, trivial⟩⟩
                · refine WL.no rfl rfl hg_112 rfl ?_
                  refine WL.no rfl rfl hg_112 rfl ?_
                  refine WL.val (rv_pick_f rfl hg_112 rfl) rfl ?_
                  refine WL.nil (fun a ha => ?_)
                  exact ⟨rfl, ha.sub ⟨rfl, rfl, rfl, rfl, and_f hg_112, trivial⟩⟩
              · rintro a w' ⟨rfl, ha⟩
                refine WL.ofJ (l := [(4, .pointer (some ⟨b_57, 0, none⟩)), (9, .int .i64 x_70.2.2), (11, .slice A_100 (List.length x_93.2.1) k_101), (12, .int .i64 x_93.2.2), (82, .bool ((z_110 && (x_25.1.TxCredits == 3)) && (x_47.2.2 == 19)))]) ?_ ha
                refine WL.val (rv_move rfl) rfl ?_
                refine WL.cutAt 3 (fun a w' => w = w' ∧ Holds 107 [(9, .int .i64 x_70.2.2), (11, .slice A_100 (List.length x_93.2.1) k_101), (12, .int .i64 x_93.2.2), (86, .bool (((z_110 && (x_25.1.TxCredits == 3)) && (x_47.2.2 == 19)) && x_47.1.Failed))] a) ?_ ?_
                · rcases Bool.eq_false_or_eq_true (((z_110 && (x_25.1.TxCredits == 3)) && (x_47.2.2 == 19))) with hg_113 | hg_113
                  · refine WL.yes rfl rfl hg_113 ?_
                    refine WL.val (rv_fieldAddr FA26_14 rfl rfl) rfl ?_
                    refine WL.yes rfl rfl hg_113 ?_
                    refine WL.val (rv_load1 Try.isAgg4 rfl hb_57 rfl) rfl ?_
                    refine WL.val (rv_pick_t rfl hg_113 rfl) rfl ?_
                    refine WL.nil (fun a ha => ?_)
                    exact ⟨rfl, ha.sub ⟨rfl, rfl, rfl, and_t hg_113, trivial⟩⟩
                  · refine WL.no rfl rfl hg_113 rfl ?_
                    refine WL.no rfl rfl hg_113 rfl ?_
                    refine WL.val (rv_pick_f rfl hg_113 rfl) rfl ?_
                    refine WL.nil (fun a ha => ?_)
                    exact ⟨rfl, ha.sub ⟨rfl, rfl, rfl, and_f hg_113, trivial⟩⟩
                · rintro a w' ⟨rfl, ha⟩
                  refine WL.ofJ (l := [(9, .int .i64 x_70.2.2), (11, .slice A_100 (List.length x_93.2.1) k_101), (12, .int .i64 x_93.2.2), (86, .bool (((z_110 && (x_25.1.TxCredits == 3)) && (x_47.2.2 == 19)) && x_47.1.Failed))]) ?_ ha
                  refine WL.val (rv_move rfl) rfl ?_
                  refine WL.cutAt 3 (fun a w' => w = w' ∧ Holds 107 [(11, .slice A_100 (List.length x_93.2.1) k_101), (12, .int .i64 x_93.2.2), (90, .bool ((((z_110 && (x_25.1.TxCredits == 3)) && (x_47.2.2 == 19)) && x_47.1.Failed) && (x_70.2.2 == 3)))] a) ?_ ?_
                  · rcases Bool.eq_false_or_eq_true ((((z_110 && (x_25.1.TxCredits == 3)) && (x_47.2.2 == 19)) && x_47.1.Failed)) with hg_114 | hg_114
                    · refine WL.yes rfl rfl hg_114 ?_
                      refine WL.val (rv_move rfl) rfl ?_
                      refine WL.yes rfl rfl hg_114 ?_
                      refine WL.val (rv_eql rfl rfl) rfl ?_
                      refine WL.val (rv_pick_t rfl hg_114 rfl) rfl ?_
                      refine WL.nil (fun a ha => ?_)
                      exact ⟨rfl, ha.sub ⟨rfl, rfl, and_t hg_114, trivial⟩⟩
                    · refine WL.no rfl rfl hg_114 rfl ?_
                      refine WL.no rfl rfl hg_114 rfl ?_
                      refine WL.val (rv_pick_f rfl hg_114 rfl) rfl ?_
                      refine WL.nil (fun a ha => ?_)
                      exact ⟨rfl, ha.sub ⟨rfl, rfl, and_f hg_114, trivial⟩⟩
                  · rintro a w' ⟨rfl, ha⟩
                    refine WL.ofJ (l := [(11, .slice A_100 (List.length x_93.2.1) k_101), (12, .int .i64 x_93.2.2), (90, .bool ((((z_110 && (x_25.1.TxCredits == 3)) && (x_47.2.2 == 19)) && x_47.1.Failed) && (x_70.2.2 == 3)))]) ?_ ha
                    refine WL.val (rv_move rfl) rfl ?_
                    refine WL.cutAt 3 (fun a w' => w = w' ∧ Holds 107 [(11, .slice A_100 (List.length x_93.2.1) k_101), (94, .bool (((((z_110 && (x_25.1.TxCredits == 3)) && (x_47.2.2 == 19)) && x_47.1.Failed) && (x_70.2.2 == 3)) && (x_93.2.2 == 0)))] a) ?_ ?_
                    · rcases Bool.eq_false_or_eq_true (((((z_110 && (x_25.1.TxCredits == 3)) && (x_47.2.2 == 19)) && x_47.1.Failed) && (x_70.2.2 == 3))) with hg_115 | hg_115
                      · refine WL.yes rfl rfl hg_115 ?_
                        refine WL.val (rv_move rfl) rfl ?_
                        refine WL.yes rfl rfl hg_115 ?_
                        refine WL.val (rv_eql rfl rfl) rfl ?_
                        refine WL.val (rv_pick_t rfl hg_115 rfl) rfl ?_
                        refine WL.nil (fun a ha => ?_)
                        exact ⟨rfl, ha.sub ⟨rfl, and_t hg_115, trivial⟩⟩
                      · refine WL.no rfl rfl hg_115 rfl ?_
                        refine WL.no rfl rfl hg_115 rfl ?_
                        refine WL.val (rv_pick_f rfl hg_115 rfl) rfl ?_
                        refine WL.nil (fun a ha => ?_)
                        exact ⟨rfl, ha.sub ⟨rfl, and_f hg_115, trivial⟩⟩
                    · rintro a w' ⟨rfl, ha⟩
                      refine WL.ofJ (l := [(11, .slice A_100 (List.length x_93.2.1) k_101), (94, .bool (((((z_110 && (x_25.1.TxCredits == 3)) && (x_47.2.2 == 19)) && x_47.1.Failed) && (x_70.2.2 == 3)) && (x_93.2.2 == 0)))]) ?_ ha
                      refine WL.val (rv_move rfl) rfl ?_
                      refine WL.cutAt 4 (fun a w' => w = w' ∧ Holds 107 [(11, .slice A_100 (List.length x_93.2.1) k_101), (99, .bool ((((((z_110 && (x_25.1.TxCredits == 3)) && (x_47.2.2 == 19)) && x_47.1.Failed) && (x_70.2.2 == 3)) && (x_93.2.2 == 0)) && ((len x_93.2.1) == 1)))] a) ?_ ?_
                      · rcases Bool.eq_false_or_eq_true ((((((z_110 && (x_25.1.TxCredits == 3)) && (x_47.2.2 == 19)) && x_47.1.Failed) && (x_70.2.2 == 3)) && (x_93.2.2 == 0))) with hg_116 | hg_116
                        · refine WL.yes rfl rfl hg_116 ?_
                          refine WL.val (rv_move rfl) rfl ?_
                          refine WL.yes rfl rfl hg_116 ?_
                          refine WL.val (rv_len (dt := x_93.2.1) Try.underlying23 rfl) rfl ?_
                          refine WL.yes rfl rfl hg_116 ?_
                          refine WL.val (rv_eql rfl rfl) rfl ?_
                          refine WL.val (rv_pick_t rfl hg_116 rfl) rfl ?_
                          refine WL.nil (fun a ha => ?_)
                          exact ⟨rfl, ha.sub ⟨rfl, and_t hg_116, trivial⟩⟩
                        · refine WL.no rfl rfl hg_116 rfl ?_
                          refine WL.no rfl rfl hg_116 rfl ?_
                          refine WL.no rfl rfl hg_116 rfl ?_
                          refine WL.val (rv_pick_f rfl hg_116 rfl) rfl ?_
                          refine WL.nil (fun a ha => ?_)
                          exact ⟨rfl, ha.sub ⟨rfl, and_f hg_116, trivial⟩⟩
                      · rintro a w' ⟨rfl, ha⟩
                        refine WL.ofJ (l := [(11, .slice A_100 (List.length x_93.2.1) k_101), (99, .bool ((((((z_110 && (x_25.1.TxCredits == 3)) && (x_47.2.2 == 19)) && x_47.1.Failed) && (x_70.2.2 == 3)) && (x_93.2.2 == 0)) && ((len x_93.2.1) == 1)))]) ?_ ha
                        refine WL.val (rv_move rfl) rfl ?_
                        obtain ⟨z_118, hz, hpr⟩ := bind_inv hp
                        clear hp
                        refine WL.cutAt 6 (fun a w => (True) ∧ (Holds 107 [(106, .bool z_118)] a) ∧ (Ctx U0 [] w0 [] w)) ?_ ?_
                        · have hp := hz
                          rcases Bool.eq_false_or_eq_true (((((((z_110 && (x_25.1.TxCredits == 3)) && (x_47.2.2 == 19)) && x_47.1.Failed) && (x_70.2.2 == 3)) && (x_93.2.2 == 0)) && ((len x_93.2.1) == 1))) with hg_117 | hg_117
                          · replace hp := if_t hp hg_117
                            refine WL.yes rfl rfl hg_117 ?_
                            refine WL.val (rv_move rfl) rfl ?_
                            replace hp := bind_inv hp
                            obtain ⟨x_120, e_x_120, hp⟩ := hp
                            refine WL.yes rfl rfl hg_117 ?_
                            refine WL.ixSl (dt := x_93.2.1) Try.underlying23 Try.sizeOf24 rfl rfl rfl f_102 e_x_120 rfl ?_
                            intro d_121 es_122 f_123 hl hr
                            obtain ⟨A_124, k_125, rfl, f_126⟩ := hr
                            clear hl
                            refine WL.yes rfl rfl hg_117 ?_
                            refine WL.val (rv_loadA1 (ad := d_121) (o := 0) Try.isAgg24 rfl f_123 rfl) rfl ?_
                            refine WL.yes rfl rfl hg_117 ?_
                            refine WL.val (rv_len (dt := x_120) Try.underlying24 rfl) rfl ?_
                            refine WL.yes rfl rfl hg_117 ?_
                            refine WL.val (rv_eql rfl rfl) rfl ?_
                            refine WL.val (rv_pick_t rfl hg_117 rfl) rfl ?_
                            refine WL.nil (fun a ha => ?_)
                            obtain rfl := some_inv' hp
                            have T : TR U0 [some b_57, some b_1] w [] w [] := TR.pick [] rfl
                            have C' : Ctx U0 [] w0 [] _ := C.pick [] (by decide) rfl
                            clear T; replace C := C'; clear C'
                            exact ⟨trivial, ha.sub ⟨rfl, trivial⟩, C⟩
                          · replace hp := if_f hp hg_117
                            refine WL.no rfl rfl hg_117 rfl ?_
                            refine WL.no rfl rfl hg_117 rfl ?_
                            refine WL.no rfl rfl hg_117 rfl ?_
                            refine WL.no rfl rfl hg_117 rfl ?_
                            refine WL.no rfl rfl hg_117 rfl ?_
                            refine WL.val (rv_pick_f rfl hg_117 rfl) rfl ?_
                            refine WL.nil (fun a ha => ?_)
                            obtain rfl := some_inv' hp
                            have T : TR U0 [some b_57, some b_1] w [] w [] := TR.pick [] rfl
                            have C' : Ctx U0 [] w0 [] _ := C.pick [] (by decide) rfl
                            clear T; replace C := C'; clear C'
                            exact ⟨trivial, ha.sub ⟨rfl, trivial⟩, C⟩
                        · rintro a w ⟨hp, ha, C⟩
                          have hp := hpr; clear hpr hz
                          refine WL.ofJ (l := [(106, .bool z_118)]) ?_ ha
                          refine WL.val (rv_assign rfl) rfl ?_
                          refine WL.nilThen ?_
                          obtain rfl := some_inv' hp
                          refine WC.ret (retK (rs := [.tmp 0]) (vs := [.bool z_118]) rfl ⟨rv1_tmp rfl, trivial⟩ ?_)
                          exact ⟨_, rfl, rfl, C⟩

theorem ok_wirelesslaw33_SduChecks (F : Nat) (U0 : Nat → Prop) (w0 : World) (c_1 : T_api_Channel) (A_2 : Option Addr) (k_3 : Nat) (A_5 : Option Addr) (k_6 : Nat) (C : Ctx U0 [] w0 [] w0) (f_4 : Sl 1 (RSl 1 (RInt .u8)) (Mu U0 []) w0 A_2 k_3 c_1.Out) (f_7 : Sl 1 (RInt .u8) (Mu U0 []) w0 A_5 k_6 c_1.In) (r : Bool) (hp : wirelesslaw33_SduChecks F c_1 = some r) :
    Calls Try.prog 8 #[.agg #[.int .u16 c_1.Local, .int .u16 c_1.Remote, .int .u16 c_1.PSM, .int .i64 c_1.MTU, .int .i64 c_1.MPS, .int .i64 c_1.PeerMTU, .int .i64 c_1.PeerMPS, .int .i64 c_1.TxCredits, .int .i64 c_1.RxCredits, .int .i64 c_1.Given, .slice A_2 (List.length c_1.Out) k_3, .int .i64 c_1.Sent, .slice A_5 (List.length c_1.In) k_6, .int .i64 c_1.Want, .bool c_1.Failed]] w0 fun e w => ∃ v, e = .returned v ∧ (v = .bool r) ∧ (Ctx U0 [] w0 [] w) := by
  refine calls_enter (vs := [.agg #[.int .u16 c_1.Local, .int .u16 c_1.Remote, .int .u16 c_1.PSM, .int .i64 c_1.MTU, .int .i64 c_1.MPS, .int .i64 c_1.PeerMTU, .int .i64 c_1.PeerMPS, .int .i64 c_1.TxCredits, .int .i64 c_1.RxCredits, .int .i64 c_1.Given, .slice A_2 (List.length c_1.Out) k_3, .int .i64 c_1.Sent, .slice A_5 (List.length c_1.In) k_6, .int .i64 c_1.Want, .bool c_1.Failed]]) Try.func8 rfl Try.ntmps8 rfl ?_
  refine WC.prune (l' := [(0, .agg #[.int .u16 c_1.Local, .int .u16 c_1.Remote, .int .u16 c_1.PSM, .int .i64 c_1.MTU, .int .i64 c_1.MPS, .int .i64 c_1.PeerMTU, .int .i64 c_1.PeerMPS, .int .i64 c_1.TxCredits, .int .i64 c_1.RxCredits, .int .i64 c_1.Given, .slice A_2 (List.length c_1.Out) k_3, .int .i64 c_1.Sent, .slice A_5 (List.length c_1.In) k_6, .int .i64 c_1.Want, .bool c_1.Failed])]) ⟨rfl, trivial⟩ ?_
  skip
  refine WC.seq ?_
  refine WC.region ?_
  refine WL.world (rw_box rfl rfl C) rfl ?_
  rintro v w ⟨b_8, rfl, hb_8, C', T⟩
  replace C' : Ctx U0 [] w0 [some b_8] _ := C'
  replace T : TR U0 [] _ [some b_8] _ [] := T
  replace hb_8 : Blk _ b_8 26 [.int .u16 c_1.Local, .int .u16 c_1.Remote, .int .u16 c_1.PSM, .int .i64 c_1.MTU, .int .i64 c_1.MPS, .int .i64 c_1.PeerMTU, .int .i64 c_1.PeerMPS, .int .i64 c_1.TxCredits, .int .i64 c_1.RxCredits, .int .i64 c_1.Given, .slice A_2 (List.length c_1.Out) k_3, .int .i64 c_1.Sent, .slice A_5 (List.length c_1.In) k_6, .int .i64 c_1.Want, .bool c_1.Failed] := hb_8
  replace f_4 := T.sl f_4
  replace f_7 := T.sl f_7
  clear T; replace C := C'; clear C'
  refine WL.val (rv_assign rfl) rfl ?_
  refine WL.nilThen ?_
  refine WC.seq ?_
  refine WC.seq ?_
  refine WC.region ?_
  refine WL.val (rv_loadN Try.isAgg26 Try.sizeOf26 rfl hb_8 rfl rfl) rfl ?_
  replace hp := bind_inv hp
  obtain ⟨x_9, e_x_9, hp⟩ := hp
  refine WL.call (rc_func Try.call9 rfl) (ok_wirelesslaw33_light F (Mu U0 [some b_8]) _ c_1 A_2 k_3 A_5 k_6 (C.give [0] [] (by decide) rfl rfl (by decide)) (f_4.mu (mu_give [0] [] rfl rfl)) (f_7.mu (mu_give [0] [] rfl rfl)) _ e_x_9) rfl ?_
  rintro v w ⟨rfl, D⟩
  obtain ⟨C', T⟩ := C.join D [0] [] (by decide) rfl rfl (by decide)
  replace C' : Ctx U0 [] w0 [some b_8] _ := C'
  replace T : TR U0 [some b_8] _ [some b_8] _ [] := T
  replace f_4 := T.sl f_4
  replace f_7 := T.sl f_7
  replace hb_8 := T.blk ne0 hb_8
  clear T; replace C := C'; clear C'
  clear D
  refine WL.val (rv_not rfl) rfl ?_
  refine WL.nilThen ?_
  refine WC.cond rfl (fun hc => ?_) (fun hc => ?_)
  · replace hp := if_t hp hc
    clear hc
    refine WC.seq ?_
    refine WC.region ?_
    replace hp := bind_inv hp
    obtain ⟨x_10, e_x_10, hp⟩ := hp
    refine WL.call (rc_func Try.call11 rfl) (ok_wirelesslaw33_exampleHolds F (Mu U0 [some b_8]) _  (C.give [0] [] (by decide) rfl rfl (by decide)) _ e_x_10) rfl ?_
    rintro v w ⟨rfl, D⟩
    obtain ⟨C', T⟩ := C.join D [0] [] (by decide) rfl rfl (by decide)
    replace C' : Ctx U0 [] w0 [some b_8] _ := C'
    replace T : TR U0 [some b_8] _ [some b_8] _ [] := T
    replace f_4 := T.sl f_4
    replace f_7 := T.sl f_7
    replace hb_8 := T.blk ne0 hb_8
    clear T; replace C := C'; clear C'
    clear D
    refine WL.val (rv_assign rfl) rfl ?_
    refine WL.nilThen ?_
    obtain rfl := some_inv' hp
    refine WC.ret (retK (rs := [.tmp 2]) (vs := [.bool x_10]) rfl ⟨rv1_tmp rfl, trivial⟩ ?_)
    have T : TR U0 [some b_8] w [] w [] := TR.pick [] rfl
    have C' : Ctx U0 [] w0 [] _ := C.pick [] (by decide) rfl
    clear T; replace C := C'; clear C'
    exact ⟨_, rfl, rfl, C⟩
  · replace hp := if_f hp hc
    clear hc
    refine WC.skipThen ?_
    refine WC.seqCut (fun a w => ∃ (z_11 : Bool), (wirelesslaw33_SduChecks_j1 F z_11 = some r) ∧ (Holds 15 [(2, .bool z_11)] a) ∧ (Ctx U0 [] w0 [] w)) ?_ ?_
    · refine WC.draw (fun w => (Blk w b_8 26 [.int .u16 c_1.Local, .int .u16 c_1.Remote, .int .u16 c_1.PSM, .int .i64 c_1.MTU, .int .i64 c_1.MPS, .int .i64 c_1.PeerMTU, .int .i64 c_1.PeerMPS, .int .i64 c_1.TxCredits, .int .i64 c_1.RxCredits, .int .i64 c_1.Given, .slice A_2 (List.length c_1.Out) k_3, .int .i64 c_1.Sent, .slice A_5 (List.length c_1.In) k_6, .int .i64 c_1.Want, .bool c_1.Failed])) MO C ?_
      rintro w C' T
      replace f_4 := T.sl f_4
      replace f_7 := T.sl f_7
      replace hb_8 := T.blk ne0 hb_8
      clear T; replace C := C'; clear C'
      refine WA.take (i := 0) (bs' := [true, false, false, false, false, false, false, false, false]) rfl (by kernel_rfl) (by kernel_rfl) (by kernel_rfl) (fun w hb_8 => rv_loadN Try.isAgg26 Try.sizeOf26 rfl hb_8 rfl rfl) hb_8 rfl rfl ?_
      refine WA.take (i := 2) (bs' := [true, false, true, false, false, false, false, false, false]) rfl (by kernel_rfl) (by kernel_rfl) (by kernel_rfl) (fun w hb_8 => rv_loadN Try.isAgg26 Try.sizeOf26 rfl hb_8 rfl rfl) hb_8 rfl rfl ?_
      refine WA.all1 (i := 1) (by kernel_rfl) ?_
      replace hp := bind_inv hp
      obtain ⟨x_12, e_x_12, hp⟩ := hp
      refine WS.call (i := 1) (bs' := [true, true, true, false, false, false, false, false, false]) rfl (rc_func Try.call28 rfl) (ok_sdu_Check F (Mu U0 [some b_8]) _ c_1 A_2 k_3 A_5 k_6 (C.give [0] [] (by decide) rfl rfl (by decide)) (f_4.mu (mu_give [0] [] rfl rfl)) (f_7.mu (mu_give [0] [] rfl rfl)) _ e_x_12) rfl rfl ?_
      rintro v w ⟨rfl, D⟩
      obtain ⟨C', T⟩ := C.join D [0] [] (by decide) rfl rfl (by decide)
      replace C' : Ctx U0 [] w0 [some b_8] _ := C'
      replace T : TR U0 [some b_8] _ [some b_8] _ [] := T
      replace f_4 := T.sl f_4
      replace f_7 := T.sl f_7
      replace hb_8 := T.blk ne0 hb_8
      clear T; replace C := C'; clear C'
      clear D
      refine ⟨hb_8, ?_⟩
      refine WA.all1 (i := 3) (by kernel_rfl) ?_
      replace hp := bind_inv hp
      obtain ⟨x_13, e_x_13, hp⟩ := hp
      refine WS.call (i := 3) (bs' := [true, true, true, true, false, false, false, false, false]) rfl (rc_func Try.call10 rfl) (ok_wirelessref33_Check F (Mu U0 [some b_8]) _ c_1 A_2 k_3 A_5 k_6 (C.give [0] [] (by decide) rfl rfl (by decide)) (f_4.mu (mu_give [0] [] rfl rfl)) (f_7.mu (mu_give [0] [] rfl rfl)) _ e_x_13) rfl rfl ?_
      rintro v w ⟨rfl, D⟩
      obtain ⟨C', T⟩ := C.join D [0] [] (by decide) rfl rfl (by decide)
      replace C' : Ctx U0 [] w0 [some b_8] _ := C'
      replace T : TR U0 [some b_8] _ [some b_8] _ [] := T
      replace f_4 := T.sl f_4
      replace f_7 := T.sl f_7
      replace hb_8 := T.blk ne0 hb_8
      clear T; replace C := C'; clear C'
      clear D
      refine ⟨hb_8, ?_⟩
      refine WA.take (i := 4) (bs' := [true, true, true, true, true, false, false, false, false]) rfl (by kernel_rfl) (by kernel_rfl) (by kernel_rfl) (fun _ _ => rv_eql rfl rfl) hb_8 rfl rfl ?_
      refine WA.take (i := 5) (bs' := [true, true, true, true, true, true, false, false, false]) rfl (by kernel_rfl) (by kernel_rfl) (by kernel_rfl) (fun _ _ => rv_move rfl) hb_8 rfl rfl ?_
      rcases Bool.eq_false_or_eq_true ((x_12 == x_13)) with hg_14 | hg_14
      · replace hp := if_t hp hg_14
        refine WA.all1 (i := 6) (by kernel_rfl) ?_
        replace hp := bind_inv hp
        obtain ⟨x_15, e_x_15, hp⟩ := hp
        refine WS.callY (i := 6) (bs' := [true, true, true, true, true, true, true, false, false]) rfl rfl rfl hg_14 (rc_func Try.call11 rfl) (ok_wirelesslaw33_exampleHolds F (Mu U0 [some b_8]) _  (C.give [0] [] (by decide) rfl rfl (by decide)) _ e_x_15) rfl rfl ?_
        rintro v w ⟨rfl, D⟩
        obtain ⟨C', T⟩ := C.join D [0] [] (by decide) rfl rfl (by decide)
        replace C' : Ctx U0 [] w0 [some b_8] _ := C'
        replace T : TR U0 [some b_8] _ [some b_8] _ [] := T
        replace f_4 := T.sl f_4
        replace f_7 := T.sl f_7
        replace hb_8 := T.blk ne0 hb_8
        clear T; replace C := C'; clear C'
        clear D
        refine ⟨hb_8, ?_⟩
        refine WA.take (i := 7) (bs' := [true, true, true, true, true, true, true, true, false]) rfl (by kernel_rfl) (by kernel_rfl) (by kernel_rfl) (fun _ _ => rv_pick_t rfl hg_14 rfl) hb_8 rfl rfl ?_
        refine WA.take (i := 8) (bs' := [true, true, true, true, true, true, true, true, true]) rfl (by kernel_rfl) (by kernel_rfl) (by kernel_rfl) (fun _ _ => rv_assign rfl) hb_8 rfl rfl ?_
        refine WA.done (by kernel_rfl) (fun a ha => ?_)
        have T : TR U0 [some b_8] w [] w [] := TR.pick [] rfl
        have C' : Ctx U0 [] w0 [] _ := C.pick [] (by decide) rfl
        clear T; replace C := C'; clear C'
        exact ⟨x_15, hp, ha.sub ⟨rfl, trivial⟩, C⟩
      · replace hp := if_f hp hg_14
        refine WA.takeN (i := 6) (bs' := [true, true, true, true, true, true, true, false, false]) rfl rfl rfl hg_14 (by kernel_rfl) (by kernel_rfl) (by kernel_rfl) hb_8 rfl rfl ?_
        refine WA.take (i := 7) (bs' := [true, true, true, true, true, true, true, true, false]) rfl (by kernel_rfl) (by kernel_rfl) (by kernel_rfl) (fun _ _ => rv_pick_f rfl hg_14 rfl) hb_8 rfl rfl ?_
        refine WA.take (i := 8) (bs' := [true, true, true, true, true, true, true, true, true]) rfl (by kernel_rfl) (by kernel_rfl) (by kernel_rfl) (fun _ _ => rv_assign rfl) hb_8 rfl rfl ?_
        refine WA.done (by kernel_rfl) (fun a ha => ?_)
        have T : TR U0 [some b_8] w [] w [] := TR.pick [] rfl
        have C' : Ctx U0 [] w0 [] _ := C.pick [] (by decide) rfl
        clear T; replace C := C'; clear C'
        exact ⟨false, hp, ha.sub ⟨rfl, trivial⟩, C⟩
    · rintro a w ⟨z_11, hp, ha, C⟩
      refine WC.ofJ (l := [(2, .bool z_11)]) ?_ ha
      obtain rfl := some_inv' hp
      refine WC.ret (retK (rs := [.tmp 2]) (vs := [.bool z_11]) rfl ⟨rv1_tmp rfl, trivial⟩ ?_)
      exact ⟨_, rfl, rfl, C⟩

theorem ok_wirelesslaw33_SduOutputs (F : Nat) (U0 : Nat → Prop) (w0 : World) (c_1 : T_api_Channel) (A_2 : Option Addr) (k_3 : Nat) (A_5 : Option Addr) (k_6 : Nat) (C : Ctx U0 [] w0 [] w0) (f_4 : Sl 1 (RSl 1 (RInt .u8)) (Mu U0 []) w0 A_2 k_3 c_1.Out) (f_7 : Sl 1 (RInt .u8) (Mu U0 []) w0 A_5 k_6 c_1.In) (r : Bool) (hp : wirelesslaw33_SduOutputs F c_1 = some r) :
    Calls Try.prog 3 #[.agg #[.int .u16 c_1.Local, .int .u16 c_1.Remote, .int .u16 c_1.PSM, .int .i64 c_1.MTU, .int .i64 c_1.MPS, .int .i64 c_1.PeerMTU, .int .i64 c_1.PeerMPS, .int .i64 c_1.TxCredits, .int .i64 c_1.RxCredits, .int .i64 c_1.Given, .slice A_2 (List.length c_1.Out) k_3, .int .i64 c_1.Sent, .slice A_5 (List.length c_1.In) k_6, .int .i64 c_1.Want, .bool c_1.Failed]] w0 fun e w => ∃ v, e = .returned v ∧ (v = .bool r) ∧ (Ctx U0 [] w0 [] w) := by
  refine calls_enter (vs := [.agg #[.int .u16 c_1.Local, .int .u16 c_1.Remote, .int .u16 c_1.PSM, .int .i64 c_1.MTU, .int .i64 c_1.MPS, .int .i64 c_1.PeerMTU, .int .i64 c_1.PeerMPS, .int .i64 c_1.TxCredits, .int .i64 c_1.RxCredits, .int .i64 c_1.Given, .slice A_2 (List.length c_1.Out) k_3, .int .i64 c_1.Sent, .slice A_5 (List.length c_1.In) k_6, .int .i64 c_1.Want, .bool c_1.Failed]]) Try.func3 rfl Try.ntmps3 rfl ?_
  refine WC.prune (l' := [(0, .agg #[.int .u16 c_1.Local, .int .u16 c_1.Remote, .int .u16 c_1.PSM, .int .i64 c_1.MTU, .int .i64 c_1.MPS, .int .i64 c_1.PeerMTU, .int .i64 c_1.PeerMPS, .int .i64 c_1.TxCredits, .int .i64 c_1.RxCredits, .int .i64 c_1.Given, .slice A_2 (List.length c_1.Out) k_3, .int .i64 c_1.Sent, .slice A_5 (List.length c_1.In) k_6, .int .i64 c_1.Want, .bool c_1.Failed])]) ⟨rfl, trivial⟩ ?_
  skip
  refine WC.seq ?_
  refine WC.region ?_
  refine WL.world (rw_box rfl rfl C) rfl ?_
  rintro v w ⟨b_8, rfl, hb_8, C', T⟩
  replace C' : Ctx U0 [] w0 [some b_8] _ := C'
  replace T : TR U0 [] _ [some b_8] _ [] := T
  replace hb_8 : Blk _ b_8 26 [.int .u16 c_1.Local, .int .u16 c_1.Remote, .int .u16 c_1.PSM, .int .i64 c_1.MTU, .int .i64 c_1.MPS, .int .i64 c_1.PeerMTU, .int .i64 c_1.PeerMPS, .int .i64 c_1.TxCredits, .int .i64 c_1.RxCredits, .int .i64 c_1.Given, .slice A_2 (List.length c_1.Out) k_3, .int .i64 c_1.Sent, .slice A_5 (List.length c_1.In) k_6, .int .i64 c_1.Want, .bool c_1.Failed] := hb_8
  replace f_4 := T.sl f_4
  replace f_7 := T.sl f_7
  clear T; replace C := C'; clear C'
  refine WL.val (rv_assign rfl) rfl ?_
  refine WL.nilThen ?_
  refine WC.seq ?_
  refine WC.seq ?_
  refine WC.region ?_
  refine WL.val (rv_loadN Try.isAgg26 Try.sizeOf26 rfl hb_8 rfl rfl) rfl ?_
  replace hp := bind_inv hp
  obtain ⟨x_9, e_x_9, hp⟩ := hp
  refine WL.call (rc_func Try.call9 rfl) (ok_wirelesslaw33_light F (Mu U0 [some b_8]) _ c_1 A_2 k_3 A_5 k_6 (C.give [0] [] (by decide) rfl rfl (by decide)) (f_4.mu (mu_give [0] [] rfl rfl)) (f_7.mu (mu_give [0] [] rfl rfl)) _ e_x_9) rfl ?_
  rintro v w ⟨rfl, D⟩
  obtain ⟨C', T⟩ := C.join D [0] [] (by decide) rfl rfl (by decide)
  replace C' : Ctx U0 [] w0 [some b_8] _ := C'
  replace T : TR U0 [some b_8] _ [some b_8] _ [] := T
  replace f_4 := T.sl f_4
  replace f_7 := T.sl f_7
  replace hb_8 := T.blk ne0 hb_8
  clear T; replace C := C'; clear C'
  clear D
  refine WL.val (rv_not rfl) rfl ?_
  refine WL.val (rv_move rfl) rfl ?_
  obtain ⟨z_11, hz, hpr⟩ := bind_inv hp
  clear hp
  refine WL.cutAt 4 (fun a w => (True) ∧ (Holds 42 [(1, .pointer (some ⟨b_8, 0, none⟩)), (14, .bool z_11)] a) ∧ (Ctx U0 [] w0 [some b_8] w) ∧ (Sl 1 (RSl 1 (RInt .u8)) (Mu U0 [some b_8]) w A_2 k_3 c_1.Out) ∧ (Sl 1 (RInt .u8) (Mu U0 [some b_8]) w A_5 k_6 c_1.In) ∧ (Blk w b_8 26 [.int .u16 c_1.Local, .int .u16 c_1.Remote, .int .u16 c_1.PSM, .int .i64 c_1.MTU, .int .i64 c_1.MPS, .int .i64 c_1.PeerMTU, .int .i64 c_1.PeerMPS, .int .i64 c_1.TxCredits, .int .i64 c_1.RxCredits, .int .i64 c_1.Given, .slice A_2 (List.length c_1.Out) k_3, .int .i64 c_1.Sent, .slice A_5 (List.length c_1.In) k_6, .int .i64 c_1.Want, .bool c_1.Failed])) ?_ ?_
  · have hp := hz
    rcases Bool.eq_false_or_eq_true ((!x_9)) with hg_10 | hg_10
    · replace hp := if_t hp hg_10
      refine WL.no rfl rfl hg_10 rfl ?_
      refine WL.no rfl rfl hg_10 rfl ?_
      refine WL.no rfl rfl hg_10 rfl ?_
      refine WL.val (rv_pick_t rfl hg_10 rfl) rfl ?_
      refine WL.nil (fun a ha => ?_)
      obtain rfl := some_inv' hp
      exact ⟨trivial, ha.sub ⟨rfl, rfl, trivial⟩, C, f_4, f_7, hb_8⟩
    · replace hp := if_f hp hg_10
      refine WL.yes rfl rfl hg_10 ?_
      refine WL.val (rv_loadN Try.isAgg26 Try.sizeOf26 rfl hb_8 rfl rfl) rfl ?_
      replace hp := bind_inv hp
      obtain ⟨x_49, e_x_49, hp⟩ := hp
      refine WL.yes rfl rfl hg_10 ?_
      refine WL.call (rc_func Try.call10 rfl) (ok_wirelessref33_Check F (Mu U0 [some b_8]) _ c_1 A_2 k_3 A_5 k_6 (C.give [0] [] (by decide) rfl rfl (by decide)) (f_4.mu (mu_give [0] [] rfl rfl)) (f_7.mu (mu_give [0] [] rfl rfl)) _ e_x_49) rfl ?_
      rintro v w ⟨rfl, D⟩
      obtain ⟨C', T⟩ := C.join D [0] [] (by decide) rfl rfl (by decide)
      replace C' : Ctx U0 [] w0 [some b_8] _ := C'
      replace T : TR U0 [some b_8] _ [some b_8] _ [] := T
      replace f_4 := T.sl f_4
      replace f_7 := T.sl f_7
      replace hb_8 := T.blk ne0 hb_8
      clear T; replace C := C'; clear C'
      clear D
      refine WL.yes rfl rfl hg_10 ?_
      refine WL.val (rv_neq rfl rfl) rfl ?_
      refine WL.val (rv_pick_f rfl hg_10 rfl) rfl ?_
      refine WL.nil (fun a ha => ?_)
      obtain rfl := some_inv' hp
      exact ⟨trivial, ha.sub ⟨rfl, rfl, trivial⟩, C, f_4, f_7, hb_8⟩
  · rintro a w ⟨hp, ha, C, f_4, f_7, hb_8⟩
    have hp := hpr; clear hpr hz
    refine WL.ofJ (l := [(1, .pointer (some ⟨b_8, 0, none⟩)), (14, .bool z_11)]) ?_ ha
    refine WL.nilThen ?_
    refine WC.cond rfl (fun hc => ?_) (fun hc => ?_)
    · replace hp := if_t hp hc
      clear hc
      refine WC.seq ?_
      refine WC.region ?_
      replace hp := bind_inv hp
      obtain ⟨x_12, e_x_12, hp⟩ := hp
      refine WL.call (rc_func Try.call11 rfl) (ok_wirelesslaw33_exampleHolds F (Mu U0 [some b_8]) _  (C.give [0] [] (by decide) rfl rfl (by decide)) _ e_x_12) rfl ?_
      rintro v w ⟨rfl, D⟩
      obtain ⟨C', T⟩ := C.join D [0] [] (by decide) rfl rfl (by decide)
      replace C' : Ctx U0 [] w0 [some b_8] _ := C'
      replace T : TR U0 [some b_8] _ [some b_8] _ [] := T
      replace f_4 := T.sl f_4
      replace f_7 := T.sl f_7
      replace hb_8 := T.blk ne0 hb_8
      clear T; replace C := C'; clear C'
      clear D
      refine WL.val (rv_assign rfl) rfl ?_
      refine WL.nilThen ?_
      obtain rfl := some_inv' hp
      refine WC.ret (retK (rs := [.tmp 2]) (vs := [.bool x_12]) rfl ⟨rv1_tmp rfl, trivial⟩ ?_)
      have T : TR U0 [some b_8] w [] w [] := TR.pick [] rfl
      have C' : Ctx U0 [] w0 [] _ := C.pick [] (by decide) rfl
      clear T; replace C := C'; clear C'
      exact ⟨_, rfl, rfl, C⟩
    · replace hp := if_f hp hc
      clear hc
      refine WC.skipThen ?_
      refine WC.seq ?_
      refine WC.region ?_
      refine WL.val (rv_loadN Try.isAgg26 Try.sizeOf26 rfl hb_8 rfl rfl) rfl ?_
      replace hp := bind_inv hp
      obtain ⟨x_13, e_x_13, hp⟩ := hp
      refine WL.call (rc_func Try.call12 rfl) (ok_sdu_Output F (Mu U0 [some b_8]) _ c_1 A_2 k_3 A_5 k_6 (C.give [0] [] (by decide) rfl rfl (by decide)) (f_4.mu (mu_give [0] [] rfl rfl)) (f_7.mu (mu_give [0] [] rfl rfl)) _ e_x_13) rfl ?_
      rintro v w ⟨A_14, k_15, A_17, k_18, A_20, k_21, rfl, D, f_16, f_19, f_22⟩
      obtain ⟨C', T⟩ := C.join D [0] [] (by decide) rfl rfl (by decide)
      replace C' : Ctx U0 [] w0 [some b_8] _ := C'
      replace T : TR U0 [some b_8] _ [some b_8] _ [] := T
      replace f_16 : Sl 1 (RSl 1 (RInt .u8)) (Mu U0 [some b_8]) _ A_14 k_15 x_13.1.Out := f_16.mu (mu_join (R := []) (L2 := [some b_8]) (fun b h => h))
      replace f_19 : Sl 1 (RInt .u8) (Mu U0 [some b_8]) _ A_17 k_18 x_13.1.In := f_19.mu (mu_join (R := []) (L2 := [some b_8]) (fun b h => h))
      replace f_22 : Sl 1 (RSl 1 (RInt .u8)) (Mu U0 [some b_8]) _ A_20 k_21 x_13.2 := f_22.mu (mu_join (R := []) (L2 := [some b_8]) (fun b h => h))
      replace f_4 := T.sl f_4
      replace f_7 := T.sl f_7
      replace hb_8 := T.blk ne0 hb_8
      clear T; replace C := C'; clear C'
      clear D
      refine WL.val (rv_move rfl) rfl ?_
      refine WL.val (rv_extract rfl rfl) rfl ?_
      refine WL.val (rv_extract rfl rfl) rfl ?_
      refine WL.world (rw_alloc Try.zeroValue26 rfl C) rfl ?_
      rintro v w ⟨b_23, rfl, hb_23, C', T⟩
      replace C' : Ctx U0 [] w0 [some b_23, some b_8] _ := C'
      replace T : TR U0 [some b_8] _ [some b_23, some b_8] _ [] := T
      replace hb_23 : Blk _ b_23 26 [.int .u16 0, .int .u16 0, .int .u16 0, .int .i64 0, .int .i64 0, .int .i64 0, .int .i64 0, .int .i64 0, .int .i64 0, .int .i64 0, .slice none 0 0, .int .i64 0, .slice none 0 0, .int .i64 0, .bool false] := hb_23
      replace f_4 := T.sl f_4
      replace f_7 := T.sl f_7
      replace f_16 := T.sl f_16
      replace f_19 := T.sl f_19
      replace f_22 := T.sl f_22
      replace hb_8 := T.blk ne0 hb_8
      clear T; replace C := C'; clear C'
      refine WL.storeK (rs_store (i := 0) (cs' := [.int .u16 x_13.1.Local, .int .u16 x_13.1.Remote, .int .u16 x_13.1.PSM, .int .i64 x_13.1.MTU, .int .i64 x_13.1.MPS, .int .i64 x_13.1.PeerMTU, .int .i64 x_13.1.PeerMPS, .int .i64 x_13.1.TxCredits, .int .i64 x_13.1.RxCredits, .int .i64 x_13.1.Given, .slice A_14 (List.length x_13.1.Out) k_15, .int .i64 x_13.1.Sent, .slice A_17 (List.length x_13.1.In) k_18, .int .i64 x_13.1.Want, .bool x_13.1.Failed]) Try.sizeOf26 rfl rfl rfl rfl rfl hb_23 rfl C rfl rfl) ?_
      rintro w ⟨hb_23, C', T⟩
      replace f_4 := T.sl f_4
      replace f_7 := T.sl f_7
      replace f_16 := T.sl f_16
      replace f_19 := T.sl f_19
      replace f_22 := T.sl f_22
      replace hb_8 := T.blk (C.ne (i := 1) rfl [0] rfl (by decide)) hb_8
      clear T; replace C := C'; clear C'
      refine WL.val (rv_assign rfl) rfl ?_
      refine WL.nilThen ?_
      refine WC.seq ?_
      refine WC.region ?_
      refine WL.val (rv_loadN Try.isAgg26 Try.sizeOf26 rfl hb_8 rfl rfl) rfl ?_
      replace hp := bind_inv hp
      obtain ⟨x_24, e_x_24, hp⟩ := hp
      refine WL.call (rc_func Try.call13 rfl) (ok_wirelessref33_Output F (Mu U0 [some b_23, some b_8]) _ c_1 A_2 k_3 A_5 k_6 (C.give [0, 1] [] (by decide) rfl rfl (by decide)) (f_4.mu (mu_give [0, 1] [] rfl rfl)) (f_7.mu (mu_give [0, 1] [] rfl rfl)) _ e_x_24) rfl ?_
      rintro v w ⟨A_25, k_26, A_28, k_29, A_31, k_32, rfl, D, f_27, f_30, f_33⟩
      obtain ⟨C', T⟩ := C.join D [0, 1] [] (by decide) rfl rfl (by decide)
      replace C' : Ctx U0 [] w0 [some b_23, some b_8] _ := C'
      replace T : TR U0 [some b_23, some b_8] _ [some b_23, some b_8] _ [] := T
      replace f_27 : Sl 1 (RSl 1 (RInt .u8)) (Mu U0 [some b_23, some b_8]) _ A_25 k_26 x_24.1.Out := f_27.mu (mu_join (R := []) (L2 := [some b_23, some b_8]) (fun b h => h))
      replace f_30 : Sl 1 (RInt .u8) (Mu U0 [some b_23, some b_8]) _ A_28 k_29 x_24.1.In := f_30.mu (mu_join (R := []) (L2 := [some b_23, some b_8]) (fun b h => h))
      replace f_33 : Sl 1 (RSl 1 (RInt .u8)) (Mu U0 [some b_23, some b_8]) _ A_31 k_32 x_24.2 := f_33.mu (mu_join (R := []) (L2 := [some b_23, some b_8]) (fun b h => h))
      replace f_4 := T.sl f_4
      replace f_7 := T.sl f_7
      replace f_16 := T.sl f_16
      replace f_19 := T.sl f_19
      replace f_22 := T.sl f_22
      replace hb_8 := T.blk ne0 hb_8
      replace hb_23 := T.blk ne0 hb_23
      clear T; replace C := C'; clear C'
      clear D
      refine WL.val (rv_move rfl) rfl ?_
      refine WL.val (rv_extract rfl rfl) rfl ?_
      refine WL.val (rv_extract rfl rfl) rfl ?_
      refine WL.world (rw_alloc Try.zeroValue26 rfl C) rfl ?_
      rintro v w ⟨b_34, rfl, hb_34, C', T⟩
      replace C' : Ctx U0 [] w0 [some b_34, some b_23, some b_8] _ := C'
      replace T : TR U0 [some b_23, some b_8] _ [some b_34, some b_23, some b_8] _ [] := T
      replace hb_34 : Blk _ b_34 26 [.int .u16 0, .int .u16 0, .int .u16 0, .int .i64 0, .int .i64 0, .int .i64 0, .int .i64 0, .int .i64 0, .int .i64 0, .int .i64 0, .slice none 0 0, .int .i64 0, .slice none 0 0, .int .i64 0, .bool false] := hb_34
      replace f_4 := T.sl f_4
      replace f_7 := T.sl f_7
      replace f_16 := T.sl f_16
      replace f_19 := T.sl f_19
      replace f_22 := T.sl f_22
      replace f_27 := T.sl f_27
      replace f_30 := T.sl f_30
      replace f_33 := T.sl f_33
      replace hb_8 := T.blk ne0 hb_8
      replace hb_23 := T.blk ne0 hb_23
      clear T; replace C := C'; clear C'
      refine WL.storeK (rs_store (i := 0) (cs' := [.int .u16 x_24.1.Local, .int .u16 x_24.1.Remote, .int .u16 x_24.1.PSM, .int .i64 x_24.1.MTU, .int .i64 x_24.1.MPS, .int .i64 x_24.1.PeerMTU, .int .i64 x_24.1.PeerMPS, .int .i64 x_24.1.TxCredits, .int .i64 x_24.1.RxCredits, .int .i64 x_24.1.Given, .slice A_25 (List.length x_24.1.Out) k_26, .int .i64 x_24.1.Sent, .slice A_28 (List.length x_24.1.In) k_29, .int .i64 x_24.1.Want, .bool x_24.1.Failed]) Try.sizeOf26 rfl rfl rfl rfl rfl hb_34 rfl C rfl rfl) ?_
      rintro w ⟨hb_34, C', T⟩
      replace f_4 := T.sl f_4
      replace f_7 := T.sl f_7
      replace f_16 := T.sl f_16
      replace f_19 := T.sl f_19
      replace f_22 := T.sl f_22
      replace f_27 := T.sl f_27
      replace f_30 := T.sl f_30
      replace f_33 := T.sl f_33
      replace hb_8 := T.blk (C.ne (i := 2) rfl [0] rfl (by decide)) hb_8
      replace hb_23 := T.blk (C.ne (i := 1) rfl [0] rfl (by decide)) hb_23
      clear T; replace C := C'; clear C'
      refine WL.val (rv_assign rfl) rfl ?_
      refine WL.nilThen ?_
      refine WC.seq ?_
      refine WC.region ?_
      refine WL.val (rv_loadN Try.isAgg26 Try.sizeOf26 rfl hb_23 rfl rfl) rfl ?_
      refine WL.val (rv_loadN Try.isAgg26 Try.sizeOf26 rfl hb_34 rfl rfl) rfl ?_
      replace hp := bind_inv hp
      obtain ⟨x_35, e_x_35, hp⟩ := hp
      refine WL.call (rc_func Try.call14 rfl) (ok_wirelessref33_SameChannel F (Mu U0 [some b_34, some b_23, some b_8]) _ x_13.1 x_24.1 A_14 k_15 A_17 k_18 A_25 k_26 A_28 k_29 (C.give [0, 1, 2] [] (by decide) rfl rfl (by decide)) (f_16.mu (mu_give [0, 1, 2] [] rfl rfl)) (f_19.mu (mu_give [0, 1, 2] [] rfl rfl)) (f_27.mu (mu_give [0, 1, 2] [] rfl rfl)) (f_30.mu (mu_give [0, 1, 2] [] rfl rfl)) _ e_x_35) rfl ?_
      rintro v w ⟨rfl, D⟩
      obtain ⟨C', T⟩ := C.join D [0, 1, 2] [] (by decide) rfl rfl (by decide)
      replace C' : Ctx U0 [] w0 [some b_34, some b_23, some b_8] _ := C'
      replace T : TR U0 [some b_34, some b_23, some b_8] _ [some b_34, some b_23, some b_8] _ [] := T
      replace f_16 := T.sl f_16
      replace f_19 := T.sl f_19
      replace f_22 := T.sl f_22
      replace f_27 := T.sl f_27
      replace f_30 := T.sl f_30
      replace f_33 := T.sl f_33
      replace hb_23 := T.blk ne0 hb_23
      replace hb_34 := T.blk ne0 hb_34
      clear T; replace C := C'; clear C'
      clear D
      refine WL.val (rv_move rfl) rfl ?_
      obtain ⟨z_37, hz, hpr⟩ := bind_inv hp
      clear hp
      refine WL.cutAt 4 (fun a w => (True) ∧ (Holds 42 [(3, .pointer (some ⟨b_23, 0, none⟩)), (33, .bool z_37)] a) ∧ (Ctx U0 [] w0 [some b_23] w) ∧ (Sl 1 (RSl 1 (RInt .u8)) (Mu U0 [some b_23]) w A_14 k_15 x_13.1.Out) ∧ (Sl 1 (RInt .u8) (Mu U0 [some b_23]) w A_17 k_18 x_13.1.In) ∧ (Blk w b_23 26 [.int .u16 x_13.1.Local, .int .u16 x_13.1.Remote, .int .u16 x_13.1.PSM, .int .i64 x_13.1.MTU, .int .i64 x_13.1.MPS, .int .i64 x_13.1.PeerMTU, .int .i64 x_13.1.PeerMPS, .int .i64 x_13.1.TxCredits, .int .i64 x_13.1.RxCredits, .int .i64 x_13.1.Given, .slice A_14 (List.length x_13.1.Out) k_15, .int .i64 x_13.1.Sent, .slice A_17 (List.length x_13.1.In) k_18, .int .i64 x_13.1.Want, .bool x_13.1.Failed])) ?_ ?_
      · have hp := hz
        rcases Bool.eq_false_or_eq_true (x_35) with hg_36 | hg_36
        · replace hp := if_t hp hg_36
          refine WL.yes rfl rfl hg_36 ?_
          refine WL.val (rv_move rfl) rfl ?_
          refine WL.yes rfl rfl hg_36 ?_
          refine WL.val (rv_move rfl) rfl ?_
          replace hp := bind_inv hp
          obtain ⟨x_47, e_x_47, hp⟩ := hp
          refine WL.yes rfl rfl hg_36 ?_
          refine WL.call (rc_func Try.call15 rfl) (ok_wirelessref33_SameLists F (Mu U0 [some b_34, some b_23, some b_8]) _ x_13.2 x_24.2 A_20 k_21 A_31 k_32 (C.give [0, 1, 2] [] (by decide) rfl rfl (by decide)) (f_22.mu (mu_give [0, 1, 2] [] rfl rfl)) (f_33.mu (mu_give [0, 1, 2] [] rfl rfl)) _ e_x_47) rfl ?_
          rintro v w ⟨rfl, D⟩
          obtain ⟨C', T⟩ := C.join D [0, 1, 2] [] (by decide) rfl rfl (by decide)
          replace C' : Ctx U0 [] w0 [some b_34, some b_23, some b_8] _ := C'
          replace T : TR U0 [some b_34, some b_23, some b_8] _ [some b_34, some b_23, some b_8] _ [] := T
          replace f_16 := T.sl f_16
          replace f_19 := T.sl f_19
          replace f_22 := T.sl f_22
          replace f_27 := T.sl f_27
          replace f_30 := T.sl f_30
          replace f_33 := T.sl f_33
          replace hb_23 := T.blk ne0 hb_23
          replace hb_34 := T.blk ne0 hb_34
          clear T; replace C := C'; clear C'
          clear D
          refine WL.val (rv_pick_t rfl hg_36 rfl) rfl ?_
          refine WL.nil (fun a ha => ?_)
          obtain rfl := some_inv' hp
          have T : TR U0 [some b_34, some b_23, some b_8] w [some b_23] w [] := TR.pick [1] rfl
          have C' : Ctx U0 [] w0 [some b_23] _ := C.pick [1] (by decide) rfl
          replace f_16 := T.sl f_16
          replace f_19 := T.sl f_19
          replace hb_23 := T.blk ne0 hb_23
          clear T; replace C := C'; clear C'
          exact ⟨trivial, ha.sub ⟨rfl, rfl, trivial⟩, C, f_16, f_19, hb_23⟩
        · replace hp := if_f hp hg_36
          refine WL.no rfl rfl hg_36 rfl ?_
          refine WL.no rfl rfl hg_36 rfl ?_
          refine WL.no rfl rfl hg_36 rfl ?_
          refine WL.val (rv_pick_f rfl hg_36 rfl) rfl ?_
          refine WL.nil (fun a ha => ?_)
          obtain rfl := some_inv' hp
          have T : TR U0 [some b_34, some b_23, some b_8] w [some b_23] w [] := TR.pick [1] rfl
          have C' : Ctx U0 [] w0 [some b_23] _ := C.pick [1] (by decide) rfl
          replace f_16 := T.sl f_16
          replace f_19 := T.sl f_19
          replace hb_23 := T.blk ne0 hb_23
          clear T; replace C := C'; clear C'
          exact ⟨trivial, ha.sub ⟨rfl, rfl, trivial⟩, C, f_16, f_19, hb_23⟩
      · rintro a w ⟨hp, ha, C, f_16, f_19, hb_23⟩
        have hp := hpr; clear hpr hz
        refine WL.ofJ (l := [(3, .pointer (some ⟨b_23, 0, none⟩)), (33, .bool z_37)]) ?_ ha
        refine WL.val (rv_move rfl) rfl ?_
        obtain ⟨z_39, hz, hpr⟩ := bind_inv hp
        clear hp
        refine WL.cutAt 4 (fun a w => (True) ∧ (Holds 42 [(38, .bool z_39)] a) ∧ (Ctx U0 [] w0 [] w)) ?_ ?_
        · have hp := hz
          rcases Bool.eq_false_or_eq_true (z_37) with hg_38 | hg_38
          · replace hp := if_t hp hg_38
            refine WL.yes rfl rfl hg_38 ?_
            refine WL.val (rv_loadN Try.isAgg26 Try.sizeOf26 rfl hb_23 rfl rfl) rfl ?_
            replace hp := bind_inv hp
            obtain ⟨x_45, e_x_45, hp⟩ := hp
            refine WL.yes rfl rfl hg_38 ?_
            refine WL.call (rc_func Try.call10 rfl) (ok_wirelessref33_Check F (Mu U0 [some b_23]) _ x_13.1 A_14 k_15 A_17 k_18 (C.give [0] [] (by decide) rfl rfl (by decide)) (f_16.mu (mu_give [0] [] rfl rfl)) (f_19.mu (mu_give [0] [] rfl rfl)) _ e_x_45) rfl ?_
            rintro v w ⟨rfl, D⟩
            obtain ⟨C', T⟩ := C.join D [0] [] (by decide) rfl rfl (by decide)
            replace C' : Ctx U0 [] w0 [some b_23] _ := C'
            replace T : TR U0 [some b_23] _ [some b_23] _ [] := T
            replace f_16 := T.sl f_16
            replace f_19 := T.sl f_19
            replace hb_23 := T.blk ne0 hb_23
            clear T; replace C := C'; clear C'
            clear D
            refine WL.yes rfl rfl hg_38 ?_
            refine WL.val (rv_eql rfl rfl) rfl ?_
            refine WL.val (rv_pick_t rfl hg_38 rfl) rfl ?_
            refine WL.nil (fun a ha => ?_)
            obtain rfl := some_inv' hp
            have T : TR U0 [some b_23] w [] w [] := TR.pick [] rfl
            have C' : Ctx U0 [] w0 [] _ := C.pick [] (by decide) rfl
            clear T; replace C := C'; clear C'
            exact ⟨trivial, ha.sub ⟨rfl, trivial⟩, C⟩
          · replace hp := if_f hp hg_38
            refine WL.no rfl rfl hg_38 rfl ?_
            refine WL.no rfl rfl hg_38 rfl ?_
            refine WL.no rfl rfl hg_38 rfl ?_
            refine WL.val (rv_pick_f rfl hg_38 rfl) rfl ?_
            refine WL.nil (fun a ha => ?_)
            obtain rfl := some_inv' hp
            have T : TR U0 [some b_23] w [] w [] := TR.pick [] rfl
            have C' : Ctx U0 [] w0 [] _ := C.pick [] (by decide) rfl
            clear T; replace C := C'; clear C'
            exact ⟨trivial, ha.sub ⟨rfl, trivial⟩, C⟩
        · rintro a w ⟨hp, ha, C⟩
          have hp := hpr; clear hpr hz
          refine WL.ofJ (l := [(38, .bool z_39)]) ?_ ha
          refine WL.val (rv_move rfl) rfl ?_
          obtain ⟨z_41, hz, hpr⟩ := bind_inv hp
          clear hp
          refine WL.cutAt 2 (fun a w => (True) ∧ (Holds 42 [(41, .bool z_41)] a) ∧ (Ctx U0 [] w0 [] w)) ?_ ?_
          · have hp := hz
            rcases Bool.eq_false_or_eq_true (z_39) with hg_40 | hg_40
            · replace hp := if_t hp hg_40
              replace hp := bind_inv hp
              obtain ⟨x_43, e_x_43, hp⟩ := hp
              refine WL.yes rfl rfl hg_40 ?_
              refine WL.call (rc_func Try.call11 rfl) (ok_wirelesslaw33_exampleHolds F (Mu U0 []) _  (C.give [] [] (by decide) rfl rfl (by decide)) _ e_x_43) rfl ?_
              rintro v w ⟨rfl, D⟩
              obtain ⟨C', T⟩ := C.join D [] [] (by decide) rfl rfl (by decide)
              replace C' : Ctx U0 [] w0 [] _ := C'
              replace T : TR U0 [] _ [] _ [] := T
              clear T; replace C := C'; clear C'
              clear D
              refine WL.val (rv_pick_t rfl hg_40 rfl) rfl ?_
              refine WL.nil (fun a ha => ?_)
              obtain rfl := some_inv' hp
              exact ⟨trivial, ha.sub ⟨rfl, trivial⟩, C⟩
            · replace hp := if_f hp hg_40
              refine WL.no rfl rfl hg_40 rfl ?_
              refine WL.val (rv_pick_f rfl hg_40 rfl) rfl ?_
              refine WL.nil (fun a ha => ?_)
              obtain rfl := some_inv' hp
              exact ⟨trivial, ha.sub ⟨rfl, trivial⟩, C⟩
          · rintro a w ⟨hp, ha, C⟩
            have hp := hpr; clear hpr hz
            refine WL.ofJ (l := [(41, .bool z_41)]) ?_ ha
            refine WL.val (rv_assign rfl) rfl ?_
            refine WL.nilThen ?_
            obtain rfl := some_inv' hp
            refine WC.ret (retK (rs := [.tmp 2]) (vs := [.bool z_41]) rfl ⟨rv1_tmp rfl, trivial⟩ ?_)
            exact ⟨_, rfl, rfl, C⟩
end V
end Go.Proofs.Ytfdiabglpgkbeaa
