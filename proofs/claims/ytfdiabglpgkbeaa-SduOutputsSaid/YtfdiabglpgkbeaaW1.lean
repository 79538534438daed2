/-
  Walks, written by program: each Go function returns what its pure twin says.
-/
import Derived.Test.YtfdiabglpgkbeaaW0
namespace Go.Proofs.Ytfdiabglpgkbeaa
namespace V
theorem ok_wirelessref33_Input (F : Nat) (U0 : Nat → Prop) (w0 : World) (c_1 : T_api_Channel) (b_8 : (List Int)) (A_2 : Option Addr) (k_3 : Nat) (A_5 : Option Addr) (k_6 : Nat) (A_9 : Option Addr) (k_10 : Nat) (C : Ctx U0 [] w0 [] w0) (f_4 : Sl 1 (RSl 1 (RInt .u8)) (Mu U0 []) w0 A_2 k_3 c_1.Out) (f_7 : Sl 1 (RInt .u8) (Mu U0 []) w0 A_5 k_6 c_1.In) (f_11 : Sl 1 (RInt .u8) (Mu U0 []) w0 A_9 k_10 b_8) (r : T_api_Channel × (List (List Int)) × Int) (hp : wirelessref33_Input F c_1 b_8 = some r) :
    Calls Try.prog 17 #[.agg #[.int .u16 c_1.Local, .int .u16 c_1.Remote, .int .u16 c_1.PSM, .int .i64 c_1.MTU, .int .i64 c_1.MPS, .int .i64 c_1.PeerMTU, .int .i64 c_1.PeerMPS, .int .i64 c_1.TxCredits, .int .i64 c_1.RxCredits, .int .i64 c_1.Given, .slice A_2 (List.length c_1.Out) k_3, .int .i64 c_1.Sent, .slice A_5 (List.length c_1.In) k_6, .int .i64 c_1.Want, .bool c_1.Failed], .slice A_9 (List.length b_8) k_10] w0 fun e w => ∃ v, e = .returned v ∧ ∃ (A_44 : Option Addr) (k_45 : Nat) (A_47 : Option Addr) (k_48 : Nat) (A_50 : Option Addr) (k_51 : Nat), (v = .tuple #[.agg #[.int .u16 r.1.Local, .int .u16 r.1.Remote, .int .u16 r.1.PSM, .int .i64 r.1.MTU, .int .i64 r.1.MPS, .int .i64 r.1.PeerMTU, .int .i64 r.1.PeerMPS, .int .i64 r.1.TxCredits, .int .i64 r.1.RxCredits, .int .i64 r.1.Given, .slice A_44 (List.length r.1.Out) k_45, .int .i64 r.1.Sent, .slice A_47 (List.length r.1.In) k_48, .int .i64 r.1.Want, .bool r.1.Failed], .slice A_50 (List.length r.2.1) k_51, .int .i64 r.2.2]) ∧ (Ctx U0 [] w0 [] w) ∧ (Sl 1 (RSl 1 (RInt .u8)) (Mu U0 []) w A_44 k_45 r.1.Out) ∧ (Sl 1 (RInt .u8) (Mu U0 []) w A_47 k_48 r.1.In) ∧ (Sl 1 (RSl 1 (RInt .u8)) (Mu U0 []) w A_50 k_51 r.2.1) := by
  refine calls_enter (vs := [.agg #[.int .u16 c_1.Local, .int .u16 c_1.Remote, .int .u16 c_1.PSM, .int .i64 c_1.MTU, .int .i64 c_1.MPS, .int .i64 c_1.PeerMTU, .int .i64 c_1.PeerMPS, .int .i64 c_1.TxCredits, .int .i64 c_1.RxCredits, .int .i64 c_1.Given, .slice A_2 (List.length c_1.Out) k_3, .int .i64 c_1.Sent, .slice A_5 (List.length c_1.In) k_6, .int .i64 c_1.Want, .bool c_1.Failed], .slice A_9 (List.length b_8) k_10]) Try.func17 rfl Try.ntmps17 rfl ?_
  refine WC.prune (l' := [(0, .agg #[.int .u16 c_1.Local, .int .u16 c_1.Remote, .int .u16 c_1.PSM, .int .i64 c_1.MTU, .int .i64 c_1.MPS, .int .i64 c_1.PeerMTU, .int .i64 c_1.PeerMPS, .int .i64 c_1.TxCredits, .int .i64 c_1.RxCredits, .int .i64 c_1.Given, .slice A_2 (List.length c_1.Out) k_3, .int .i64 c_1.Sent, .slice A_5 (List.length c_1.In) k_6, .int .i64 c_1.Want, .bool c_1.Failed]), (1, .slice A_9 (List.length b_8) k_10)]) ⟨rfl, rfl, trivial⟩ ?_
  skip
  refine WC.seq ?_
  refine WC.region ?_
  refine WL.world (rw_box rfl rfl C) rfl ?_
  rintro v w ⟨b_12, rfl, hb_12, C', T⟩
  replace C' : Ctx U0 [] w0 [some b_12] _ := C'
  replace T : TR U0 [] _ [some b_12] _ [] := T
  replace hb_12 : Blk _ b_12 26 [.int .u16 c_1.Local, .int .u16 c_1.Remote, .int .u16 c_1.PSM, .int .i64 c_1.MTU, .int .i64 c_1.MPS, .int .i64 c_1.PeerMTU, .int .i64 c_1.PeerMPS, .int .i64 c_1.TxCredits, .int .i64 c_1.RxCredits, .int .i64 c_1.Given, .slice A_2 (List.length c_1.Out) k_3, .int .i64 c_1.Sent, .slice A_5 (List.length c_1.In) k_6, .int .i64 c_1.Want, .bool c_1.Failed] := hb_12
  replace f_4 := T.sl f_4
  replace f_7 := T.sl f_7
  replace f_11 := T.sl f_11
  clear T; replace C := C'; clear C'
  refine WL.world (rw_alloc Try.zeroValue26 rfl C) rfl ?_
  rintro v w ⟨b_13, rfl, hb_13, C', T⟩
  replace C' : Ctx U0 [] w0 [some b_13, some b_12] _ := C'
  replace T : TR U0 [some b_12] _ [some b_13, some b_12] _ [] := T
  replace hb_13 : Blk _ b_13 26 [.int .u16 0, .int .u16 0, .int .u16 0, .int .i64 0, .int .i64 0, .int .i64 0, .int .i64 0, .int .i64 0, .int .i64 0, .int .i64 0, .slice none 0 0, .int .i64 0, .slice none 0 0, .int .i64 0, .bool false] := hb_13
  replace f_4 := T.sl f_4
  replace f_7 := T.sl f_7
  replace f_11 := T.sl f_11
  replace hb_12 := T.blk ne0 hb_12
  clear T; replace C := C'; clear C'
  refine WL.val (rv_assign rfl) rfl ?_
  refine WL.val (rv_assign rfl) rfl ?_
  refine WL.nilThen ?_
  refine WC.seq ?_
  refine WC.seq ?_
  refine WC.region ?_
  refine WL.val (rv_fieldAddr FA26_14 rfl rfl) rfl ?_
  refine WL.val (rv_load1 Try.isAgg4 rfl hb_12 rfl) rfl ?_
  refine WL.nilThen ?_
  refine WC.cond rfl (fun hc => ?_) (fun hc => ?_)
  · replace hp := if_t hp hc
    clear hc
    refine WC.seq ?_
    refine WC.region ?_
    refine WL.val (rv_loadN Try.isAgg26 Try.sizeOf26 rfl hb_12 rfl rfl) rfl ?_
    refine WL.storeK (rs_store (i := 0) (cs' := [.int .u16 c_1.Local, .int .u16 c_1.Remote, .int .u16 c_1.PSM, .int .i64 c_1.MTU, .int .i64 c_1.MPS, .int .i64 c_1.PeerMTU, .int .i64 c_1.PeerMPS, .int .i64 c_1.TxCredits, .int .i64 c_1.RxCredits, .int .i64 c_1.Given, .slice A_2 (List.length c_1.Out) k_3, .int .i64 c_1.Sent, .slice A_5 (List.length c_1.In) k_6, .int .i64 c_1.Want, .bool c_1.Failed]) Try.sizeOf26 rfl rfl rfl rfl rfl hb_13 rfl C rfl rfl) ?_
    rintro w ⟨hb_13, C', T⟩
    replace f_4 := T.sl f_4
    replace f_7 := T.sl f_7
    replace f_11 := T.sl f_11
    replace hb_12 := T.blk (C.ne (i := 1) rfl [0] rfl (by decide)) hb_12
    clear T; replace C := C'; clear C'
    refine WL.val (rv_assign rfl) rfl ?_
    refine WL.val (rv_assign rfl) rfl ?_
    refine WL.nilThen ?_
    obtain rfl := some_inv' hp
    refine WC.ret (retK (rs := [.cell 4 26, .tmp 5, .tmp 6]) (vs := [.agg #[.int .u16 c_1.Local, .int .u16 c_1.Remote, .int .u16 c_1.PSM, .int .i64 c_1.MTU, .int .i64 c_1.MPS, .int .i64 c_1.PeerMTU, .int .i64 c_1.PeerMPS, .int .i64 c_1.TxCredits, .int .i64 c_1.RxCredits, .int .i64 c_1.Given, .slice A_2 (List.length c_1.Out) k_3, .int .i64 c_1.Sent, .slice A_5 (List.length c_1.In) k_6, .int .i64 c_1.Want, .bool c_1.Failed], .slice none 0 0, .int .i64 9]) rfl ⟨rv1_cell Try.isAgg26 Try.sizeOf26 rfl hb_13 rfl, rv1_tmp rfl, rv1_tmp rfl, trivial⟩ ?_)
    have T : TR U0 [some b_13, some b_12] w [] w [] := TR.pick [] rfl
    have C' : Ctx U0 [] w0 [] _ := C.pick [] (by decide) rfl
    replace f_4 := T.sl f_4
    replace f_7 := T.sl f_7
    clear T; replace C := C'; clear C'
    exact ⟨_, rfl, A_2, k_3, A_5, k_6, none, 0, rfl, C, f_4, f_7, Sl.nil0⟩
  · replace hp := if_f hp hc
    clear hc
    refine WC.skipThen ?_
    refine WC.seq ?_
    refine WC.seq ?_
    refine WC.region ?_
    refine WL.val (rv_loadN Try.isAgg26 Try.sizeOf26 rfl hb_12 rfl rfl) rfl ?_
    refine WL.val (rv_move rfl) rfl ?_
    replace hp := bind_inv hp
    obtain ⟨x_14, e_x_14, hp⟩ := hp
    refine WL.call (rc_func Try.call38 rfl) (ok_wirelessref33_fault F (Mu U0 [some b_13, some b_12]) _ c_1 b_8 A_2 k_3 A_5 k_6 A_9 k_10 (C.give [0, 1] [] (by decide) rfl rfl (by decide)) (f_4.mu (mu_give [0, 1] [] rfl rfl)) (f_7.mu (mu_give [0, 1] [] rfl rfl)) (f_11.mu (mu_give [0, 1] [] rfl rfl)) _ e_x_14) rfl ?_
    rintro v w ⟨rfl, D⟩
    obtain ⟨C', T⟩ := C.join D [0, 1] [] (by decide) rfl rfl (by decide)
    replace C' : Ctx U0 [] w0 [some b_13, some b_12] _ := C'
    replace T : TR U0 [some b_13, some b_12] _ [some b_13, some b_12] _ [] := T
    replace f_4 := T.sl f_4
    replace f_7 := T.sl f_7
    replace f_11 := T.sl f_11
    replace hb_12 := T.blk ne0 hb_12
    replace hb_13 := T.blk ne0 hb_13
    clear T; replace C := C'; clear C'
    clear D
    refine WL.val (rv_assign rfl) rfl ?_
    refine WL.nilThen ?_
    refine WC.seq ?_
    refine WC.region ?_
    refine WL.val (rv_move rfl) rfl ?_
    refine WL.val (rv_neq rfl rfl) rfl ?_
    refine WL.nilThen ?_
    refine WC.cond rfl (fun hc => ?_) (fun hc => ?_)
    · replace hp := if_t hp hc
      clear hc
      refine WC.seq ?_
      refine WC.region ?_
      refine WL.val (rv_fieldAddr FA26_14 rfl rfl) rfl ?_
      refine WL.storeK (rs_store (i := 1) (cs' := [.int .u16 c_1.Local, .int .u16 c_1.Remote, .int .u16 c_1.PSM, .int .i64 c_1.MTU, .int .i64 c_1.MPS, .int .i64 c_1.PeerMTU, .int .i64 c_1.PeerMPS, .int .i64 c_1.TxCredits, .int .i64 c_1.RxCredits, .int .i64 c_1.Given, .slice A_2 (List.length c_1.Out) k_3, .int .i64 c_1.Sent, .slice A_5 (List.length c_1.In) k_6, .int .i64 c_1.Want, .bool true]) Try.sizeOf4 rfl rfl rfl rfl rfl hb_12 rfl C rfl rfl) ?_
      rintro w ⟨hb_12, C', T⟩
      replace f_4 := T.sl f_4
      replace f_7 := T.sl f_7
      replace f_11 := T.sl f_11
      replace hb_13 := T.blk (C.ne (i := 0) rfl [1] rfl (by decide)) hb_13
      clear T; replace C := C'; clear C'
      refine WL.nilThen ?_
      refine WC.seq ?_
      refine WC.region ?_
      refine WL.val (rv_loadN Try.isAgg26 Try.sizeOf26 rfl hb_12 rfl rfl) rfl ?_
      refine WL.val (rv_move rfl) rfl ?_
      refine WL.storeK (rs_store (i := 0) (cs' := [.int .u16 c_1.Local, .int .u16 c_1.Remote, .int .u16 c_1.PSM, .int .i64 c_1.MTU, .int .i64 c_1.MPS, .int .i64 c_1.PeerMTU, .int .i64 c_1.PeerMPS, .int .i64 c_1.TxCredits, .int .i64 c_1.RxCredits, .int .i64 c_1.Given, .slice A_2 (List.length c_1.Out) k_3, .int .i64 c_1.Sent, .slice A_5 (List.length c_1.In) k_6, .int .i64 c_1.Want, .bool true]) Try.sizeOf26 rfl rfl rfl rfl rfl hb_13 rfl C rfl rfl) ?_
      rintro w ⟨hb_13, C', T⟩
      replace f_4 := T.sl f_4
      replace f_7 := T.sl f_7
      replace hb_12 := T.blk (C.ne (i := 1) rfl [0] rfl (by decide)) hb_12
      clear T; replace C := C'; clear C'
      refine WL.val (rv_assign rfl) rfl ?_
      refine WL.val (rv_assign rfl) rfl ?_
      refine WL.nilThen ?_
      obtain rfl := some_inv' hp
      refine WC.ret (retK (rs := [.cell 4 26, .tmp 5, .tmp 6]) (vs := [.agg #[.int .u16 c_1.Local, .int .u16 c_1.Remote, .int .u16 c_1.PSM, .int .i64 c_1.MTU, .int .i64 c_1.MPS, .int .i64 c_1.PeerMTU, .int .i64 c_1.PeerMPS, .int .i64 c_1.TxCredits, .int .i64 c_1.RxCredits, .int .i64 c_1.Given, .slice A_2 (List.length c_1.Out) k_3, .int .i64 c_1.Sent, .slice A_5 (List.length c_1.In) k_6, .int .i64 c_1.Want, .bool true], .slice none 0 0, .int .i64 x_14]) rfl ⟨rv1_cell Try.isAgg26 Try.sizeOf26 rfl hb_13 rfl, rv1_tmp rfl, rv1_tmp rfl, trivial⟩ ?_)
      have T : TR U0 [some b_13, some b_12] w [] w [] := TR.pick [] rfl
      have C' : Ctx U0 [] w0 [] _ := C.pick [] (by decide) rfl
      replace f_4 := T.sl f_4
      replace f_7 := T.sl f_7
      clear T; replace C := C'; clear C'
      exact ⟨_, rfl, A_2, k_3, A_5, k_6, none, 0, rfl, C, f_4, f_7, Sl.nil0⟩
    · replace hp := if_f hp hc
      clear hc
      refine WC.skipThen ?_
      refine WC.seq ?_
      refine WC.region ?_
      refine WL.val (rv_fieldAddr FA26_8 rfl rfl) rfl ?_
      refine WL.val (rv_load1 Try.isAgg3 rfl hb_12 rfl) rfl ?_
      refine WL.val (rv_sub rfl rfl (wrap_i64 _)) rfl ?_
      refine WL.val (rv_fieldAddr FA26_8 rfl rfl) rfl ?_
      refine WL.storeK (rs_store (i := 1) (cs' := [.int .u16 c_1.Local, .int .u16 c_1.Remote, .int .u16 c_1.PSM, .int .i64 c_1.MTU, .int .i64 c_1.MPS, .int .i64 c_1.PeerMTU, .int .i64 c_1.PeerMPS, .int .i64 c_1.TxCredits, .int .i64 (w64 (c_1.RxCredits - 1)), .int .i64 c_1.Given, .slice A_2 (List.length c_1.Out) k_3, .int .i64 c_1.Sent, .slice A_5 (List.length c_1.In) k_6, .int .i64 c_1.Want, .bool c_1.Failed]) Try.sizeOf3 rfl rfl rfl rfl rfl hb_12 rfl C rfl rfl) ?_
      rintro w ⟨hb_12, C', T⟩
      replace f_4 := T.sl f_4
      replace f_7 := T.sl f_7
      replace f_11 := T.sl f_11
      replace hb_13 := T.blk (C.ne (i := 0) rfl [1] rfl (by decide)) hb_13
      clear T; replace C := C'; clear C'
      refine WL.nilThen ?_
      refine WC.seqCut (fun a w => ∃ (l_15 : (List Int)) (x_19 : Int) (A_16 : Option Addr) (k_17 : Nat), (wirelessref33_Input_j1 F c_1 l_15 x_19 = some r) ∧ (Holds 54 [(1, .slice A_16 (List.length l_15) k_17), (2, .pointer (some ⟨b_12, 0, none⟩)), (4, .pointer (some ⟨b_13, 0, none⟩))] a) ∧ (Ctx U0 [] w0 [some b_13, some b_12] w) ∧ (Sl 1 (RInt .u8) (Mu U0 [some b_13, some b_12]) w A_16 k_17 l_15) ∧ (Sl 1 (RSl 1 (RInt .u8)) (Mu U0 [some b_13, some b_12]) w A_2 k_3 c_1.Out) ∧ (Sl 1 (RInt .u8) (Mu U0 [some b_13, some b_12]) w A_5 k_6 c_1.In) ∧ (Blk w b_12 26 [.int .u16 c_1.Local, .int .u16 c_1.Remote, .int .u16 c_1.PSM, .int .i64 c_1.MTU, .int .i64 c_1.MPS, .int .i64 c_1.PeerMTU, .int .i64 c_1.PeerMPS, .int .i64 c_1.TxCredits, .int .i64 (w64 (c_1.RxCredits - 1)), .int .i64 c_1.Given, .slice A_2 (List.length c_1.Out) k_3, .int .i64 c_1.Sent, .slice A_5 (List.length c_1.In) k_6, .int .i64 x_19, .bool c_1.Failed]) ∧ (Blk w b_13 26 [.int .u16 0, .int .u16 0, .int .u16 0, .int .i64 0, .int .i64 0, .int .i64 0, .int .i64 0, .int .i64 0, .int .i64 0, .int .i64 0, .slice none 0 0, .int .i64 0, .slice none 0 0, .int .i64 0, .bool false])) ?_ ?_
      · refine WC.seq ?_
        refine WC.region ?_
        refine WL.val (rv_fieldAddr FA26_13 rfl rfl) rfl ?_
        refine WL.val (rv_load1 Try.isAgg3 rfl hb_12 rfl) rfl ?_
        refine WL.val (rv_eql rfl rfl) rfl ?_
        refine WL.nilThen ?_
        refine WC.cond rfl (fun hc => ?_) (fun hc => ?_)
        · replace hp := if_t hp hc
          clear hc
          refine WC.seq ?_
          refine WC.region ?_
          refine WL.val (rv_move rfl) rfl ?_
          replace hp := bind_inv hp
          obtain ⟨x_39, e_x_39, hp⟩ := hp
          refine WL.call (rc_func Try.call39 rfl) (ok_wirelessref23_Num F (Mu U0 [some b_13, some b_12]) _ b_8 0 2 A_9 k_10 (C.give [0, 1] [] (by decide) rfl rfl (by decide)) (f_11.mu (mu_give [0, 1] [] rfl rfl)) _ e_x_39) rfl ?_
          rintro v w ⟨rfl, D⟩
          obtain ⟨C', T⟩ := C.join D [0, 1] [] (by decide) rfl rfl (by decide)
          replace C' : Ctx U0 [] w0 [some b_13, some b_12] _ := C'
          replace T : TR U0 [some b_13, some b_12] _ [some b_13, some b_12] _ [] := T
          replace f_4 := T.sl f_4
          replace f_7 := T.sl f_7
          replace f_11 := T.sl f_11
          replace hb_12 := T.blk ne0 hb_12
          replace hb_13 := T.blk ne0 hb_13
          clear T; replace C := C'; clear C'
          clear D
          refine WL.val (rv_conv Try.underlying64 Try.underlying3 rfl (wrap_i64 _)) rfl ?_
          refine WL.val (rv_fieldAddr FA26_13 rfl rfl) rfl ?_
          refine WL.storeK (rs_store (i := 1) (cs' := [.int .u16 c_1.Local, .int .u16 c_1.Remote, .int .u16 c_1.PSM, .int .i64 c_1.MTU, .int .i64 c_1.MPS, .int .i64 c_1.PeerMTU, .int .i64 c_1.PeerMPS, .int .i64 c_1.TxCredits, .int .i64 (w64 (c_1.RxCredits - 1)), .int .i64 c_1.Given, .slice A_2 (List.length c_1.Out) k_3, .int .i64 c_1.Sent, .slice A_5 (List.length c_1.In) k_6, .int .i64 (w64 x_39), .bool c_1.Failed]) Try.sizeOf3 rfl rfl rfl rfl rfl hb_12 rfl C rfl rfl) ?_
          rintro w ⟨hb_12, C', T⟩
          replace f_4 := T.sl f_4
          replace f_7 := T.sl f_7
          replace f_11 := T.sl f_11
          replace hb_13 := T.blk (C.ne (i := 0) rfl [1] rfl (by decide)) hb_13
          clear T; replace C := C'; clear C'
          refine WL.nilThen ?_
          refine WC.region ?_
          refine WL.val (rv_move rfl) rfl ?_
          replace hp := bind_inv hp
          obtain ⟨l_40, e_l_40, hp⟩ := hp
          refine WL.subSl Try.underlying24 Try.sizeOf5 rfl rfl rfl (.inr ⟨_, rfl⟩) (.inl ⟨rfl, rfl⟩) f_11 e_l_40 rfl ?_
          intro A_41 k_42 f_43
          refine WL.val (rv_assign rfl) rfl ?_
          refine WL.nil (fun a ha => ?_)
          exact ⟨l_40, w64 x_39, A_41, k_42, hp, ha.sub ⟨rfl, rfl, rfl, trivial⟩, C, f_43, f_4, f_7, hb_12, hb_13⟩
        · replace hp := if_f hp hc
          clear hc
          refine WC.skip (fun a ha => ?_)
          exact ⟨b_8, c_1.Want, A_9, k_10, hp, ha.sub ⟨rfl, rfl, rfl, trivial⟩, C, f_11, f_4, f_7, hb_12, hb_13⟩
      · rintro a w ⟨l_15, x_19, A_16, k_17, hp, ha, C, f_18, f_4, f_7, hb_12, hb_13⟩
        refine WC.ofJ (l := [(1, .slice A_16 (List.length l_15) k_17), (2, .pointer (some ⟨b_12, 0, none⟩)), (4, .pointer (some ⟨b_13, 0, none⟩))]) ?_ ha
        refine WC.seq ?_
        refine WC.region ?_
        refine WL.world (rw_buildSlice (sz := 1) (R := (RInt .u8)) (es := []) (dt := ([] : (List Int))) Try.underlying24 Try.sizeOf5 Try.zeroValue5 rfl rfl rfl rfl rfl rfl rfl rfl rfl C) rfl ?_
        rintro v w ⟨A_21, k_22, rfl, f_23, C', T⟩
        replace C' : Ctx U0 [] w0 [ob A_21, some b_13, some b_12] _ := C'
        replace T : TR U0 [some b_13, some b_12] _ [ob A_21, some b_13, some b_12] _ _ := T
        replace f_23 : Own 1 5 (RInt .u8) (Mu U0 [ob A_21, some b_13, some b_12]) _ A_21 k_22 ([] : (List Int)) := f_23
        replace f_18 := T.sl f_18
        replace f_4 := T.sl f_4
        replace f_7 := T.sl f_7
        replace hb_12 := T.blk ne0 hb_12
        replace hb_13 := T.blk ne0 hb_13
        clear T; replace C := C'; clear C'
        refine WL.val (rv_fieldAddr FA26_12 rfl rfl) rfl ?_
        refine WL.val (rv_load1 Try.isAgg24 rfl hb_12 rfl) rfl ?_
        replace hp := bind_inv hp
        obtain ⟨l_24, e_l_24, hp⟩ := hp
        refine WL.world (rw_append (i := 0) (dt := ([] : (List Int))) Try.underlying24 I5 rfl rfl rfl rfl rfl rfl rfl rfl f_23 (f_7.src) e_l_24 rfl C) rfl ?_
        rintro v w ⟨A_25, k_26, rfl, f_27, C', T⟩
        replace C' : Ctx U0 [] w0 [ob A_25, some b_13, some b_12] _ := C'
        replace T : TR U0 [ob A_21, some b_13, some b_12] _ [ob A_25, some b_13, some b_12] _ _ := T
        replace f_27 : Own 1 5 (RInt .u8) (Mu U0 [ob A_25, some b_13, some b_12]) _ A_25 k_26 l_24 := f_27
        replace f_18 := T.sl f_18
        replace f_4 := T.sl f_4
        replace f_7 := T.sl f_7
        replace hb_12 := T.blk (C.ne (i := 2) rfl [0] rfl (by decide)) hb_12
        replace hb_13 := T.blk (C.ne (i := 1) rfl [0] rfl (by decide)) hb_13
        clear T; replace C := C'; clear C'
        refine WL.val (rv_move rfl) rfl ?_
        replace hp := bind_inv hp
        obtain ⟨l_29, e_l_29, hp⟩ := hp
        refine WL.world (rw_append (i := 0) (dt := l_24) Try.underlying24 I5 rfl rfl rfl rfl rfl rfl rfl rfl f_27 (f_18.src) e_l_29 rfl C) rfl ?_
        rintro v w ⟨A_30, k_31, rfl, f_32, C', T⟩
        replace C' : Ctx U0 [] w0 [ob A_30, some b_13, some b_12] _ := C'
        replace T : TR U0 [ob A_25, some b_13, some b_12] _ [ob A_30, some b_13, some b_12] _ _ := T
        replace f_32 : Own 1 5 (RInt .u8) (Mu U0 [ob A_30, some b_13, some b_12]) _ A_30 k_31 l_29 := f_32
        replace f_18 := T.sl f_18
        replace f_4 := T.sl f_4
        replace f_7 := T.sl f_7
        replace hb_12 := T.blk (C.ne (i := 2) rfl [0] rfl (by decide)) hb_12
        replace hb_13 := T.blk (C.ne (i := 1) rfl [0] rfl (by decide)) hb_13
        clear T; replace C := C'; clear C'
        refine WL.val (rv_fieldAddr FA26_12 rfl rfl) rfl ?_
        refine WL.storeK (rs_store (i := 2) (cs' := [.int .u16 c_1.Local, .int .u16 c_1.Remote, .int .u16 c_1.PSM, .int .i64 c_1.MTU, .int .i64 c_1.MPS, .int .i64 c_1.PeerMTU, .int .i64 c_1.PeerMPS, .int .i64 c_1.TxCredits, .int .i64 (w64 (c_1.RxCredits - 1)), .int .i64 c_1.Given, .slice A_2 (List.length c_1.Out) k_3, .int .i64 c_1.Sent, .slice A_30 (List.length l_29) k_31, .int .i64 x_19, .bool c_1.Failed]) Try.sizeOf24 rfl rfl rfl rfl rfl hb_12 rfl C rfl rfl) ?_
        rintro w ⟨hb_12, C', T⟩
        replace f_18 := T.sl f_18
        replace f_4 := T.sl f_4
        replace f_7 := T.sl f_7
        replace hb_13 := T.blk (C.ne (i := 1) rfl [2] rfl (by decide)) hb_13
        replace f_32 := T.own (C.ne (i := 0) rfl [2] rfl (by decide)) f_32
        clear T; replace C := C'; clear C'
        refine WL.nilThen ?_
        refine WC.seq ?_
        refine WC.seq ?_
        refine WC.region ?_
        refine WL.val (rv_fieldAddr FA26_12 rfl rfl) rfl ?_
        refine WL.val (rv_load1 Try.isAgg24 rfl hb_12 rfl) rfl ?_
        refine WL.val (rv_len (dt := l_29) Try.underlying24 rfl) rfl ?_
        refine WL.val (rv_fieldAddr FA26_13 rfl rfl) rfl ?_
        refine WL.val (rv_load1 Try.isAgg3 rfl hb_12 rfl) rfl ?_
        refine WL.val (rv_lss rfl rfl) rfl ?_
        refine WL.nilThen ?_
        refine WC.cond rfl (fun hc => ?_) (fun hc => ?_)
        · replace hp := if_t hp hc
          clear hc
          refine WC.seq ?_
          refine WC.region ?_
          refine WL.val (rv_loadN Try.isAgg26 Try.sizeOf26 rfl hb_12 rfl rfl) rfl ?_
          refine WL.storeK (rs_store (i := 1) (cs' := [.int .u16 c_1.Local, .int .u16 c_1.Remote, .int .u16 c_1.PSM, .int .i64 c_1.MTU, .int .i64 c_1.MPS, .int .i64 c_1.PeerMTU, .int .i64 c_1.PeerMPS, .int .i64 c_1.TxCredits, .int .i64 (w64 (c_1.RxCredits - 1)), .int .i64 c_1.Given, .slice A_2 (List.length c_1.Out) k_3, .int .i64 c_1.Sent, .slice A_30 (List.length l_29) k_31, .int .i64 x_19, .bool c_1.Failed]) Try.sizeOf26 rfl rfl rfl rfl rfl hb_13 rfl C rfl rfl) ?_
          rintro w ⟨hb_13, C', T⟩
          replace f_4 := T.sl f_4
          replace hb_12 := T.blk (C.ne (i := 2) rfl [1] rfl (by decide)) hb_12
          replace f_32 := T.own (C.ne (i := 0) rfl [1] rfl (by decide)) f_32
          clear T; replace C := C'; clear C'
          refine WL.val (rv_assign rfl) rfl ?_
          refine WL.val (rv_assign rfl) rfl ?_
          refine WL.nilThen ?_
          obtain rfl := some_inv' hp
          refine WC.ret (retK (rs := [.cell 4 26, .tmp 5, .tmp 6]) (vs := [.agg #[.int .u16 c_1.Local, .int .u16 c_1.Remote, .int .u16 c_1.PSM, .int .i64 c_1.MTU, .int .i64 c_1.MPS, .int .i64 c_1.PeerMTU, .int .i64 c_1.PeerMPS, .int .i64 c_1.TxCredits, .int .i64 (w64 (c_1.RxCredits - 1)), .int .i64 c_1.Given, .slice A_2 (List.length c_1.Out) k_3, .int .i64 c_1.Sent, .slice A_30 (List.length l_29) k_31, .int .i64 x_19, .bool c_1.Failed], .slice none 0 0, .int .i64 0]) rfl ⟨rv1_cell Try.isAgg26 Try.sizeOf26 rfl hb_13 rfl, rv1_tmp rfl, rv1_tmp rfl, trivial⟩ ?_)
          have f_43 : Sl 1 (RInt .u8) (Mu U0 [some b_13, some b_12]) _ A_30 k_31 l_29 := f_32.toSl (C.off (i := 0) rfl [1, 2] rfl (by decide)) (Mu.weaken (mem_pick [1, 2] rfl))
          have T : TR U0 [ob A_30, some b_13, some b_12] w [some b_13, some b_12] w [] := TR.pick [1, 2] rfl
          have C' : Ctx U0 [] w0 [some b_13, some b_12] _ := C.pick [1, 2] (by decide) rfl
          replace f_4 := T.sl f_4
          clear T; replace C := C'; clear C'
          have T : TR U0 [some b_13, some b_12] w [] w [] := TR.pick [] rfl
          have C' : Ctx U0 [] w0 [] _ := C.pick [] (by decide) rfl
          replace f_4 := T.sl f_4
          replace f_43 := T.sl f_43
          clear T; replace C := C'; clear C'
          exact ⟨_, rfl, A_2, k_3, A_30, k_31, none, 0, rfl, C, f_4, f_43, Sl.nil0⟩
        · replace hp := if_f hp hc
          clear hc
          refine WC.skipThen ?_
          refine WC.seq ?_
          refine WC.region ?_
          refine WL.val (rv_fieldAddr FA26_12 rfl rfl) rfl ?_
          refine WL.val (rv_load1 Try.isAgg24 rfl hb_12 rfl) rfl ?_
          refine WL.val (rv_assign rfl) rfl ?_
          refine WL.nilThen ?_
          refine WC.seq ?_
          refine WC.region ?_
          refine WL.val (rv_fieldAddr FA26_12 rfl rfl) rfl ?_
          refine WL.storeK (rs_store (i := 2) (cs' := [.int .u16 c_1.Local, .int .u16 c_1.Remote, .int .u16 c_1.PSM, .int .i64 c_1.MTU, .int .i64 c_1.MPS, .int .i64 c_1.PeerMTU, .int .i64 c_1.PeerMPS, .int .i64 c_1.TxCredits, .int .i64 (w64 (c_1.RxCredits - 1)), .int .i64 c_1.Given, .slice A_2 (List.length c_1.Out) k_3, .int .i64 c_1.Sent, .slice none 0 0, .int .i64 x_19, .bool c_1.Failed]) Try.sizeOf24 rfl rfl rfl rfl rfl hb_12 rfl C rfl rfl) ?_
          rintro w ⟨hb_12, C', T⟩
          replace f_4 := T.sl f_4
          replace hb_13 := T.blk (C.ne (i := 1) rfl [2] rfl (by decide)) hb_13
          replace f_32 := T.own (C.ne (i := 0) rfl [2] rfl (by decide)) f_32
          clear T; replace C := C'; clear C'
          refine WL.nilThen ?_
          refine WC.seq ?_
          refine WC.region ?_
          refine WL.val (rv_fieldAddr FA26_13 rfl rfl) rfl ?_
          refine WL.storeK (rs_store (i := 2) (cs' := [.int .u16 c_1.Local, .int .u16 c_1.Remote, .int .u16 c_1.PSM, .int .i64 c_1.MTU, .int .i64 c_1.MPS, .int .i64 c_1.PeerMTU, .int .i64 c_1.PeerMPS, .int .i64 c_1.TxCredits, .int .i64 (w64 (c_1.RxCredits - 1)), .int .i64 c_1.Given, .slice A_2 (List.length c_1.Out) k_3, .int .i64 c_1.Sent, .slice none 0 0, .int .i64 (-1), .bool c_1.Failed]) Try.sizeOf3 rfl rfl rfl rfl rfl hb_12 rfl C rfl rfl) ?_
          rintro w ⟨hb_12, C', T⟩
          replace f_4 := T.sl f_4
          replace hb_13 := T.blk (C.ne (i := 1) rfl [2] rfl (by decide)) hb_13
          replace f_32 := T.own (C.ne (i := 0) rfl [2] rfl (by decide)) f_32
          clear T; replace C := C'; clear C'
          refine WL.nilThen ?_
          refine WC.seq ?_
          refine WC.region ?_
          refine WL.val (rv_loadN Try.isAgg26 Try.sizeOf26 rfl hb_12 rfl rfl) rfl ?_
          refine WL.val (rv_move rfl) rfl ?_
          have f_34 : Sl 1 (RInt .u8) (Mu U0 [some b_13, some b_12]) _ A_30 k_31 l_29 := f_32.toSl (C.off (i := 0) rfl [1, 2] rfl (by decide)) (Mu.weaken (mem_pick [1, 2] rfl))
          have T : TR U0 [ob A_30, some b_13, some b_12] w [some b_13, some b_12] w [] := TR.pick [1, 2] rfl
          have C' : Ctx U0 [] w0 [some b_13, some b_12] _ := C.pick [1, 2] (by decide) rfl
          replace f_4 := T.sl f_4
          replace hb_12 := T.blk ne0 hb_12
          replace hb_13 := T.blk ne0 hb_13
          clear T; replace C := C'; clear C'
          refine WL.world (rw_buildSlice (sz := 1) (R := (RSl 1 (RInt .u8))) (es := [.slice A_30 (List.length l_29) k_31]) (dt := [l_29]) Try.underlying23 Try.sizeOf24 Try.zeroValue24 rfl rfl rfl rfl rfl rfl rfl rfl ⟨_, _, rfl, rfl, ⟨_, _, rfl, f_34⟩, rfl⟩ C) rfl ?_
          rintro v w ⟨A_36, k_37, rfl, f_38, C', T⟩
          replace C' : Ctx U0 [] w0 [ob A_36, some b_13, some b_12] _ := C'
          replace T : TR U0 [some b_13, some b_12] _ [ob A_36, some b_13, some b_12] _ _ := T
          replace f_38 : Own 1 24 (RSl 1 (RInt .u8)) (Mu U0 [ob A_36, some b_13, some b_12]) _ A_36 k_37 [l_29] := f_38
          replace f_4 := T.sl f_4
          replace f_34 := T.sl f_34
          replace hb_12 := T.blk ne0 hb_12
          replace hb_13 := T.blk ne0 hb_13
          clear T; replace C := C'; clear C'
          refine WL.storeK (rs_store (i := 1) (cs' := [.int .u16 c_1.Local, .int .u16 c_1.Remote, .int .u16 c_1.PSM, .int .i64 c_1.MTU, .int .i64 c_1.MPS, .int .i64 c_1.PeerMTU, .int .i64 c_1.PeerMPS, .int .i64 c_1.TxCredits, .int .i64 (w64 (c_1.RxCredits - 1)), .int .i64 c_1.Given, .slice A_2 (List.length c_1.Out) k_3, .int .i64 c_1.Sent, .slice none 0 0, .int .i64 (-1), .bool c_1.Failed]) Try.sizeOf26 rfl rfl rfl rfl rfl hb_13 rfl C rfl rfl) ?_
          rintro w ⟨hb_13, C', T⟩
          replace f_4 := T.sl f_4
          replace f_34 := T.sl f_34
          replace hb_12 := T.blk (C.ne (i := 2) rfl [1] rfl (by decide)) hb_12
          replace f_38 := T.own (C.ne (i := 0) rfl [1] rfl (by decide)) f_38
          clear T; replace C := C'; clear C'
          refine WL.val (rv_assign rfl) rfl ?_
          refine WL.val (rv_assign rfl) rfl ?_
          refine WL.nilThen ?_
          obtain rfl := some_inv' hp
          refine WC.ret (retK (rs := [.cell 4 26, .tmp 5, .tmp 6]) (vs := [.agg #[.int .u16 c_1.Local, .int .u16 c_1.Remote, .int .u16 c_1.PSM, .int .i64 c_1.MTU, .int .i64 c_1.MPS, .int .i64 c_1.PeerMTU, .int .i64 c_1.PeerMPS, .int .i64 c_1.TxCredits, .int .i64 (w64 (c_1.RxCredits - 1)), .int .i64 c_1.Given, .slice A_2 (List.length c_1.Out) k_3, .int .i64 c_1.Sent, .slice none 0 0, .int .i64 (-1), .bool c_1.Failed], .slice A_36 (List.length [l_29]) k_37, .int .i64 0]) rfl ⟨rv1_cell Try.isAgg26 Try.sizeOf26 rfl hb_13 rfl, rv1_tmp rfl, rv1_tmp rfl, trivial⟩ ?_)
          have f_48 : Sl 1 (RSl 1 (RInt .u8)) (Mu U0 [some b_13, some b_12]) _ A_36 k_37 [l_29] := f_38.toSl (C.off (i := 0) rfl [1, 2] rfl (by decide)) (Mu.weaken (mem_pick [1, 2] rfl))
          have T : TR U0 [ob A_36, some b_13, some b_12] w [some b_13, some b_12] w [] := TR.pick [1, 2] rfl
          have C' : Ctx U0 [] w0 [some b_13, some b_12] _ := C.pick [1, 2] (by decide) rfl
          replace f_4 := T.sl f_4
          clear T; replace C := C'; clear C'
          have T : TR U0 [some b_13, some b_12] w [] w [] := TR.pick [] rfl
          have C' : Ctx U0 [] w0 [] _ := C.pick [] (by decide) rfl
          replace f_4 := T.sl f_4
          replace f_48 := T.sl f_48
          clear T; replace C := C'; clear C'
          exact ⟨_, rfl, A_2, k_3, none, 0, A_36, k_37, rfl, C, f_4, Sl.nil0, f_48⟩

theorem ok_sdu_more (F : Nat) (U0 : Nat → Prop) (w0 : World) (credits_1 : Int) (n_2 : Int) (C : Ctx U0 [] w0 [] w0)  (r : Int) (hp : sdu_more F credits_1 n_2 = some r) :
    Calls Try.prog 40 #[.int .i64 credits_1, .int .i64 n_2] w0 fun e w => ∃ v, e = .returned v ∧ (v = .int .i64 r) ∧ (Ctx U0 [] w0 [] w) := by
  refine calls_enter (vs := [.int .i64 credits_1, .int .i64 n_2]) Try.func40 rfl Try.ntmps40 rfl ?_
  refine WC.prune (l' := [(0, .int .i64 credits_1), (1, .int .i64 n_2)]) ⟨rfl, rfl, trivial⟩ ?_
  skip
  refine WC.seq ?_
  refine WC.region ?_
  refine WL.val (rv_assign rfl) rfl ?_
  refine WL.nilThen ?_
  refine WC.seq ?_
  refine WC.block ?_
  refine WC.seq ?_
  refine WC.region ?_
  refine WL.val (rv_move rfl) rfl ?_
  refine WL.val (rv_lss rfl rfl) rfl ?_
  refine WL.val (rv_assign rfl) rfl ?_
  refine WL.nilThen ?_
  refine WC.cond rfl (fun hc => ?_) (fun hc => ?_)
  · replace hp := if_t hp hc
    clear hc
    refine WC.seq ?_
    refine WC.region ?_
    refine WL.val (rv_assign rfl) rfl ?_
    refine WL.nilThen ?_
    obtain rfl := some_inv' hp
    refine WC.ret (retK (rs := [.tmp 4]) (vs := [.int .i64 5]) rfl ⟨rv1_tmp rfl, trivial⟩ ?_)
    exact ⟨_, rfl, rfl, C⟩
  · replace hp := if_f hp hc
    clear hc
    refine WC.seq ?_
    refine WC.region ?_
    refine WL.val (rv_move rfl) rfl ?_
    refine WL.val (rv_move rfl) rfl ?_
    refine WL.val (rv_sub rfl rfl (wrap_i64 _)) rfl ?_
    refine WL.val (rv_gtr rfl rfl) rfl ?_
    refine WL.val (rv_assign rfl) rfl ?_
    refine WL.nilThen ?_
    refine WC.cond rfl (fun hc => ?_) (fun hc => ?_)
    · replace hp := if_t hp hc
      clear hc
      refine WC.seq ?_
      refine WC.region ?_
      refine WL.val (rv_assign rfl) rfl ?_
      refine WL.nilThen ?_
      obtain rfl := some_inv' hp
      refine WC.ret (retK (rs := [.tmp 4]) (vs := [.int .i64 19]) rfl ⟨rv1_tmp rfl, trivial⟩ ?_)
      exact ⟨_, rfl, rfl, C⟩
    · replace hp := if_f hp hc
      clear hc
      refine WC.skipThen ?_
      refine WC.seq ?_
      refine WC.region ?_
      refine WL.val (rv_assign rfl) rfl ?_
      refine WL.nilThen ?_
      obtain rfl := some_inv' hp
      refine WC.ret (retK (rs := [.tmp 4]) (vs := [.int .i64 0]) rfl ⟨rv1_tmp rfl, trivial⟩ ?_)
      exact ⟨_, rfl, rfl, C⟩

theorem ok_sdu_Grant (F : Nat) (U0 : Nat → Prop) (w0 : World) (c_1 : T_api_Channel) (n_8 : Int) (A_2 : Option Addr) (k_3 : Nat) (A_5 : Option Addr) (k_6 : Nat) (C : Ctx U0 [] w0 [] w0) (f_4 : Sl 1 (RSl 1 (RInt .u8)) (Mu U0 []) w0 A_2 k_3 c_1.Out) (f_7 : Sl 1 (RInt .u8) (Mu U0 []) w0 A_5 k_6 c_1.In) (r : T_api_Channel × Int) (hp : sdu_Grant F c_1 n_8 = some r) :
    Calls Try.prog 22 #[.agg #[.int .u16 c_1.Local, .int .u16 c_1.Remote, .int .u16 c_1.PSM, .int .i64 c_1.MTU, .int .i64 c_1.MPS, .int .i64 c_1.PeerMTU, .int .i64 c_1.PeerMPS, .int .i64 c_1.TxCredits, .int .i64 c_1.RxCredits, .int .i64 c_1.Given, .slice A_2 (List.length c_1.Out) k_3, .int .i64 c_1.Sent, .slice A_5 (List.length c_1.In) k_6, .int .i64 c_1.Want, .bool c_1.Failed], .int .i64 n_8] w0 fun e w => ∃ v, e = .returned v ∧ ∃ (A_21 : Option Addr) (k_22 : Nat) (A_24 : Option Addr) (k_25 : Nat), (v = .tuple #[.agg #[.int .u16 r.1.Local, .int .u16 r.1.Remote, .int .u16 r.1.PSM, .int .i64 r.1.MTU, .int .i64 r.1.MPS, .int .i64 r.1.PeerMTU, .int .i64 r.1.PeerMPS, .int .i64 r.1.TxCredits, .int .i64 r.1.RxCredits, .int .i64 r.1.Given, .slice A_21 (List.length r.1.Out) k_22, .int .i64 r.1.Sent, .slice A_24 (List.length r.1.In) k_25, .int .i64 r.1.Want, .bool r.1.Failed], .int .i64 r.2]) ∧ (Ctx U0 [] w0 [] w) ∧ (Sl 1 (RSl 1 (RInt .u8)) (Mu U0 []) w A_21 k_22 r.1.Out) ∧ (Sl 1 (RInt .u8) (Mu U0 []) w A_24 k_25 r.1.In) := by
  refine calls_enter (vs := [.agg #[.int .u16 c_1.Local, .int .u16 c_1.Remote, .int .u16 c_1.PSM, .int .i64 c_1.MTU, .int .i64 c_1.MPS, .int .i64 c_1.PeerMTU, .int .i64 c_1.PeerMPS, .int .i64 c_1.TxCredits, .int .i64 c_1.RxCredits, .int .i64 c_1.Given, .slice A_2 (List.length c_1.Out) k_3, .int .i64 c_1.Sent, .slice A_5 (List.length c_1.In) k_6, .int .i64 c_1.Want, .bool c_1.Failed], .int .i64 n_8]) Try.func22 rfl Try.ntmps22 rfl ?_
  refine WC.prune (l' := [(0, .agg #[.int .u16 c_1.Local, .int .u16 c_1.Remote, .int .u16 c_1.PSM, .int .i64 c_1.MTU, .int .i64 c_1.MPS, .int .i64 c_1.PeerMTU, .int .i64 c_1.PeerMPS, .int .i64 c_1.TxCredits, .int .i64 c_1.RxCredits, .int .i64 c_1.Given, .slice A_2 (List.length c_1.Out) k_3, .int .i64 c_1.Sent, .slice A_5 (List.length c_1.In) k_6, .int .i64 c_1.Want, .bool c_1.Failed]), (1, .int .i64 n_8)]) ⟨rfl, rfl, trivial⟩ ?_
  skip
  refine WC.seq ?_
  refine WC.region ?_
  refine WL.world (rw_box rfl rfl C) rfl ?_
  rintro v w ⟨b_9, rfl, hb_9, C', T⟩
  replace C' : Ctx U0 [] w0 [some b_9] _ := C'
  replace T : TR U0 [] _ [some b_9] _ [] := T
  replace hb_9 : Blk _ b_9 26 [.int .u16 c_1.Local, .int .u16 c_1.Remote, .int .u16 c_1.PSM, .int .i64 c_1.MTU, .int .i64 c_1.MPS, .int .i64 c_1.PeerMTU, .int .i64 c_1.PeerMPS, .int .i64 c_1.TxCredits, .int .i64 c_1.RxCredits, .int .i64 c_1.Given, .slice A_2 (List.length c_1.Out) k_3, .int .i64 c_1.Sent, .slice A_5 (List.length c_1.In) k_6, .int .i64 c_1.Want, .bool c_1.Failed] := hb_9
  replace f_4 := T.sl f_4
  replace f_7 := T.sl f_7
  clear T; replace C := C'; clear C'
  refine WL.world (rw_alloc Try.zeroValue26 rfl C) rfl ?_
  rintro v w ⟨b_10, rfl, hb_10, C', T⟩
  replace C' : Ctx U0 [] w0 [some b_10, some b_9] _ := C'
  replace T : TR U0 [some b_9] _ [some b_10, some b_9] _ [] := T
  replace hb_10 : Blk _ b_10 26 [.int .u16 0, .int .u16 0, .int .u16 0, .int .i64 0, .int .i64 0, .int .i64 0, .int .i64 0, .int .i64 0, .int .i64 0, .int .i64 0, .slice none 0 0, .int .i64 0, .slice none 0 0, .int .i64 0, .bool false] := hb_10
  replace f_4 := T.sl f_4
  replace f_7 := T.sl f_7
  replace hb_9 := T.blk ne0 hb_9
  clear T; replace C := C'; clear C'
  refine WL.val (rv_assign rfl) rfl ?_
  refine WL.nilThen ?_
  refine WC.seq ?_
  refine WC.region ?_
  refine WL.val (rv_loadN Try.isAgg26 Try.sizeOf26 rfl hb_9 rfl rfl) rfl ?_
  replace hp := bind_inv hp
  obtain ⟨x_11, e_x_11, hp⟩ := hp
  refine WL.call (rc_func Try.call32 rfl) (ok_sdu_copied F (Mu U0 [some b_10, some b_9]) _ c_1 A_2 k_3 A_5 k_6 (C.give [0, 1] [] (by decide) rfl rfl (by decide)) (f_4.mu (mu_give [0, 1] [] rfl rfl)) (f_7.mu (mu_give [0, 1] [] rfl rfl)) _ e_x_11) rfl ?_
  rintro v w ⟨A_12, k_13, A_16, k_17, rfl, D, f_18, f_14⟩
  obtain ⟨C', T⟩ := C.join D [0, 1] [] (by decide) rfl rfl (by decide)
  replace C' : Ctx U0 [] w0 [ob A_12, some b_10, some b_9] _ := C'
  replace T : TR U0 [some b_10, some b_9] _ [ob A_12, some b_10, some b_9] _ [] := T
  replace f_18 : Sl 1 (RInt .u8) (Mu U0 [ob A_12, some b_10, some b_9]) _ A_16 k_17 x_11.In := f_18.mu (mu_join (R := [ob A_12]) (L2 := [some b_10, some b_9]) (fun b h => h))
  replace f_14 : Own 1 24 (RSl 1 (RInt .u8)) (Mu U0 [ob A_12, some b_10, some b_9]) _ A_12 k_13 x_11.Out := f_14.mu (mu_join (R := [ob A_12]) (L2 := [some b_10, some b_9]) (fun b h => h))
  replace f_4 := T.sl f_4
  replace f_7 := T.sl f_7
  replace hb_9 := T.blk ne0 hb_9
  replace hb_10 := T.blk ne0 hb_10
  clear T; replace C := C'; clear C'
  clear D
  refine WL.storeK (rs_store (i := 2) (cs' := [.int .u16 x_11.Local, .int .u16 x_11.Remote, .int .u16 x_11.PSM, .int .i64 x_11.MTU, .int .i64 x_11.MPS, .int .i64 x_11.PeerMTU, .int .i64 x_11.PeerMPS, .int .i64 x_11.TxCredits, .int .i64 x_11.RxCredits, .int .i64 x_11.Given, .slice A_12 (List.length x_11.Out) k_13, .int .i64 x_11.Sent, .slice A_16 (List.length x_11.In) k_17, .int .i64 x_11.Want, .bool x_11.Failed]) Try.sizeOf26 rfl rfl rfl rfl rfl hb_9 rfl C rfl rfl) ?_
  rintro w ⟨hb_9, C', T⟩
  replace f_4 := T.sl f_4
  replace f_7 := T.sl f_7
  replace f_18 := T.sl f_18
  replace hb_10 := T.blk (C.ne (i := 1) rfl [2] rfl (by decide)) hb_10
  replace f_14 := T.own (C.ne (i := 0) rfl [2] rfl (by decide)) f_14
  clear T; replace C := C'; clear C'
  refine WL.nilThen ?_
  refine WC.seq ?_
  refine WC.seq ?_
  refine WC.region ?_
  refine WL.val (rv_fieldAddr FA26_14 rfl rfl) rfl ?_
  refine WL.val (rv_load1 Try.isAgg4 rfl hb_9 rfl) rfl ?_
  refine WL.nilThen ?_
  refine WC.cond rfl (fun hc => ?_) (fun hc => ?_)
  · replace hp := if_t hp hc
    clear hc
    refine WC.seq ?_
    refine WC.region ?_
    refine WL.val (rv_loadN Try.isAgg26 Try.sizeOf26 rfl hb_9 rfl rfl) rfl ?_
    refine WL.storeK (rs_store (i := 1) (cs' := [.int .u16 x_11.Local, .int .u16 x_11.Remote, .int .u16 x_11.PSM, .int .i64 x_11.MTU, .int .i64 x_11.MPS, .int .i64 x_11.PeerMTU, .int .i64 x_11.PeerMPS, .int .i64 x_11.TxCredits, .int .i64 x_11.RxCredits, .int .i64 x_11.Given, .slice A_12 (List.length x_11.Out) k_13, .int .i64 x_11.Sent, .slice A_16 (List.length x_11.In) k_17, .int .i64 x_11.Want, .bool x_11.Failed]) Try.sizeOf26 rfl rfl rfl rfl rfl hb_10 rfl C rfl rfl) ?_
    rintro w ⟨hb_10, C', T⟩
    replace f_18 := T.sl f_18
    replace hb_9 := T.blk (C.ne (i := 2) rfl [1] rfl (by decide)) hb_9
    replace f_14 := T.own (C.ne (i := 0) rfl [1] rfl (by decide)) f_14
    clear T; replace C := C'; clear C'
    refine WL.val (rv_assign rfl) rfl ?_
    refine WL.nilThen ?_
    obtain rfl := some_inv' hp
    refine WC.ret (retK (rs := [.cell 4 26, .tmp 5]) (vs := [.agg #[.int .u16 x_11.Local, .int .u16 x_11.Remote, .int .u16 x_11.PSM, .int .i64 x_11.MTU, .int .i64 x_11.MPS, .int .i64 x_11.PeerMTU, .int .i64 x_11.PeerMPS, .int .i64 x_11.TxCredits, .int .i64 x_11.RxCredits, .int .i64 x_11.Given, .slice A_12 (List.length x_11.Out) k_13, .int .i64 x_11.Sent, .slice A_16 (List.length x_11.In) k_17, .int .i64 x_11.Want, .bool x_11.Failed], .int .i64 9]) rfl ⟨rv1_cell Try.isAgg26 Try.sizeOf26 rfl hb_10 rfl, rv1_tmp rfl, trivial⟩ ?_)
    have f_25 : Sl 1 (RSl 1 (RInt .u8)) (Mu U0 [some b_10, some b_9]) _ A_12 k_13 x_11.Out := f_14.toSl (C.off (i := 0) rfl [1, 2] rfl (by decide)) (Mu.weaken (mem_pick [1, 2] rfl))
    have T : TR U0 [ob A_12, some b_10, some b_9] w [some b_10, some b_9] w [] := TR.pick [1, 2] rfl
    have C' : Ctx U0 [] w0 [some b_10, some b_9] _ := C.pick [1, 2] (by decide) rfl
    replace f_18 := T.sl f_18
    clear T; replace C := C'; clear C'
    have T : TR U0 [some b_10, some b_9] w [] w [] := TR.pick [] rfl
    have C' : Ctx U0 [] w0 [] _ := C.pick [] (by decide) rfl
    replace f_18 := T.sl f_18
    replace f_25 := T.sl f_25
    clear T; replace C := C'; clear C'
    exact ⟨_, rfl, A_12, k_13, A_16, k_17, rfl, C, f_25, f_18⟩
  · replace hp := if_f hp hc
    clear hc
    refine WC.skipThen ?_
    refine WC.seq ?_
    refine WC.region ?_
    refine WL.val (rv_fieldAddr FA26_8 rfl rfl) rfl ?_
    refine WL.val (rv_load1 Try.isAgg3 rfl hb_9 rfl) rfl ?_
    refine WL.val (rv_move rfl) rfl ?_
    replace hp := bind_inv hp
    obtain ⟨x_19, e_x_19, hp⟩ := hp
    refine WL.call (rc_func Try.call40 rfl) (ok_sdu_more F (Mu U0 [ob A_12, some b_10, some b_9]) _ x_11.RxCredits n_8 (C.give [0, 1, 2] [] (by decide) rfl rfl (by decide)) _ e_x_19) rfl ?_
    rintro v w ⟨rfl, D⟩
    obtain ⟨C', T⟩ := C.join D [0, 1, 2] [] (by decide) rfl rfl (by decide)
    replace C' : Ctx U0 [] w0 [ob A_12, some b_10, some b_9] _ := C'
    replace T : TR U0 [ob A_12, some b_10, some b_9] _ [ob A_12, some b_10, some b_9] _ [] := T
    replace f_18 := T.sl f_18
    replace hb_9 := T.blk ne0 hb_9
    replace hb_10 := T.blk ne0 hb_10
    replace f_14 := T.own ne0 f_14
    clear T; replace C := C'; clear C'
    clear D
    refine WL.val (rv_assign rfl) rfl ?_
    refine WL.nilThen ?_
    refine WC.seqCut (fun a w => ∃ (x_20 : Int), (sdu_Grant_j1 F x_11 x_19 x_20 = some r) ∧ (Holds 25 [(2, .pointer (some ⟨b_9, 0, none⟩)), (4, .pointer (some ⟨b_10, 0, none⟩)), (6, .int .i64 x_19)] a) ∧ (Ctx U0 [] w0 [ob A_12, some b_10, some b_9] w) ∧ (Sl 1 (RInt .u8) (Mu U0 [ob A_12, some b_10, some b_9]) w A_16 k_17 x_11.In) ∧ (Blk w b_9 26 [.int .u16 x_11.Local, .int .u16 x_11.Remote, .int .u16 x_11.PSM, .int .i64 x_11.MTU, .int .i64 x_11.MPS, .int .i64 x_11.PeerMTU, .int .i64 x_11.PeerMPS, .int .i64 x_11.TxCredits, .int .i64 x_20, .int .i64 x_11.Given, .slice A_12 (List.length x_11.Out) k_13, .int .i64 x_11.Sent, .slice A_16 (List.length x_11.In) k_17, .int .i64 x_11.Want, .bool x_11.Failed]) ∧ (Blk w b_10 26 [.int .u16 0, .int .u16 0, .int .u16 0, .int .i64 0, .int .i64 0, .int .i64 0, .int .i64 0, .int .i64 0, .int .i64 0, .int .i64 0, .slice none 0 0, .int .i64 0, .slice none 0 0, .int .i64 0, .bool false]) ∧ (Own 1 24 (RSl 1 (RInt .u8)) (Mu U0 [ob A_12, some b_10, some b_9]) w A_12 k_13 x_11.Out)) ?_ ?_
    · refine WC.seq ?_
      refine WC.region ?_
      refine WL.val (rv_move rfl) rfl ?_
      refine WL.val (rv_eql rfl rfl) rfl ?_
      refine WL.nilThen ?_
      refine WC.cond rfl (fun hc => ?_) (fun hc => ?_)
      · replace hp := if_t hp hc
        clear hc
        refine WC.region ?_
        refine WL.val (rv_fieldAddr FA26_8 rfl rfl) rfl ?_
        refine WL.val (rv_load1 Try.isAgg3 rfl hb_9 rfl) rfl ?_
        refine WL.val (rv_move rfl) rfl ?_
        refine WL.val (rv_add rfl rfl (wrap_i64 _)) rfl ?_
        refine WL.val (rv_fieldAddr FA26_8 rfl rfl) rfl ?_
        refine WL.storeK (rs_store (i := 2) (cs' := [.int .u16 x_11.Local, .int .u16 x_11.Remote, .int .u16 x_11.PSM, .int .i64 x_11.MTU, .int .i64 x_11.MPS, .int .i64 x_11.PeerMTU, .int .i64 x_11.PeerMPS, .int .i64 x_11.TxCredits, .int .i64 (w64 (x_11.RxCredits + n_8)), .int .i64 x_11.Given, .slice A_12 (List.length x_11.Out) k_13, .int .i64 x_11.Sent, .slice A_16 (List.length x_11.In) k_17, .int .i64 x_11.Want, .bool x_11.Failed]) Try.sizeOf3 rfl rfl rfl rfl rfl hb_9 rfl C rfl rfl) ?_
        rintro w ⟨hb_9, C', T⟩
        replace f_18 := T.sl f_18
        replace hb_10 := T.blk (C.ne (i := 1) rfl [2] rfl (by decide)) hb_10
        replace f_14 := T.own (C.ne (i := 0) rfl [2] rfl (by decide)) f_14
        clear T; replace C := C'; clear C'
        refine WL.nil (fun a ha => ?_)
        exact ⟨w64 (x_11.RxCredits + n_8), hp, ha.sub ⟨rfl, rfl, rfl, trivial⟩, C, f_18, hb_9, hb_10, f_14⟩
      · replace hp := if_f hp hc
        clear hc
        refine WC.skip (fun a ha => ?_)
        exact ⟨x_11.RxCredits, hp, ha.sub ⟨rfl, rfl, rfl, trivial⟩, C, f_18, hb_9, hb_10, f_14⟩
    · rintro a w ⟨x_20, hp, ha, C, f_18, hb_9, hb_10, f_14⟩
      refine WC.ofJ (l := [(2, .pointer (some ⟨b_9, 0, none⟩)), (4, .pointer (some ⟨b_10, 0, none⟩)), (6, .int .i64 x_19)]) ?_ ha
      refine WC.seq ?_
      refine WC.region ?_
      refine WL.val (rv_loadN Try.isAgg26 Try.sizeOf26 rfl hb_9 rfl rfl) rfl ?_
      refine WL.val (rv_move rfl) rfl ?_
      refine WL.storeK (rs_store (i := 1) (cs' := [.int .u16 x_11.Local, .int .u16 x_11.Remote, .int .u16 x_11.PSM, .int .i64 x_11.MTU, .int .i64 x_11.MPS, .int .i64 x_11.PeerMTU, .int .i64 x_11.PeerMPS, .int .i64 x_11.TxCredits, .int .i64 x_20, .int .i64 x_11.Given, .slice A_12 (List.length x_11.Out) k_13, .int .i64 x_11.Sent, .slice A_16 (List.length x_11.In) k_17, .int .i64 x_11.Want, .bool x_11.Failed]) Try.sizeOf26 rfl rfl rfl rfl rfl hb_10 rfl C rfl rfl) ?_
      rintro w ⟨hb_10, C', T⟩
      replace f_18 := T.sl f_18
      replace hb_9 := T.blk (C.ne (i := 2) rfl [1] rfl (by decide)) hb_9
      replace f_14 := T.own (C.ne (i := 0) rfl [1] rfl (by decide)) f_14
      clear T; replace C := C'; clear C'
      refine WL.val (rv_assign rfl) rfl ?_
      refine WL.nilThen ?_
      obtain rfl := some_inv' hp
      refine WC.ret (retK (rs := [.cell 4 26, .tmp 5]) (vs := [.agg #[.int .u16 x_11.Local, .int .u16 x_11.Remote, .int .u16 x_11.PSM, .int .i64 x_11.MTU, .int .i64 x_11.MPS, .int .i64 x_11.PeerMTU, .int .i64 x_11.PeerMPS, .int .i64 x_11.TxCredits, .int .i64 x_20, .int .i64 x_11.Given, .slice A_12 (List.length x_11.Out) k_13, .int .i64 x_11.Sent, .slice A_16 (List.length x_11.In) k_17, .int .i64 x_11.Want, .bool x_11.Failed], .int .i64 x_19]) rfl ⟨rv1_cell Try.isAgg26 Try.sizeOf26 rfl hb_10 rfl, rv1_tmp rfl, trivial⟩ ?_)
      have f_27 : Sl 1 (RSl 1 (RInt .u8)) (Mu U0 [some b_10, some b_9]) _ A_12 k_13 x_11.Out := f_14.toSl (C.off (i := 0) rfl [1, 2] rfl (by decide)) (Mu.weaken (mem_pick [1, 2] rfl))
      have T : TR U0 [ob A_12, some b_10, some b_9] w [some b_10, some b_9] w [] := TR.pick [1, 2] rfl
      have C' : Ctx U0 [] w0 [some b_10, some b_9] _ := C.pick [1, 2] (by decide) rfl
      replace f_18 := T.sl f_18
      clear T; replace C := C'; clear C'
      have T : TR U0 [some b_10, some b_9] w [] w [] := TR.pick [] rfl
      have C' : Ctx U0 [] w0 [] _ := C.pick [] (by decide) rfl
      replace f_18 := T.sl f_18
      replace f_27 := T.sl f_27
      clear T; replace C := C'; clear C'
      exact ⟨_, rfl, A_12, k_13, A_16, k_17, rfl, C, f_27, f_18⟩

theorem ok_sdu_Credit (F : Nat) (U0 : Nat → Prop) (w0 : World) (c_1 : T_api_Channel) (n_8 : Int) (A_2 : Option Addr) (k_3 : Nat) (A_5 : Option Addr) (k_6 : Nat) (C : Ctx U0 [] w0 [] w0) (f_4 : Sl 1 (RSl 1 (RInt .u8)) (Mu U0 []) w0 A_2 k_3 c_1.Out) (f_7 : Sl 1 (RInt .u8) (Mu U0 []) w0 A_5 k_6 c_1.In) (r : T_api_Channel × Int) (hp : sdu_Credit F c_1 n_8 = some r) :
    Calls Try.prog 24 #[.agg #[.int .u16 c_1.Local, .int .u16 c_1.Remote, .int .u16 c_1.PSM, .int .i64 c_1.MTU, .int .i64 c_1.MPS, .int .i64 c_1.PeerMTU, .int .i64 c_1.PeerMPS, .int .i64 c_1.TxCredits, .int .i64 c_1.RxCredits, .int .i64 c_1.Given, .slice A_2 (List.length c_1.Out) k_3, .int .i64 c_1.Sent, .slice A_5 (List.length c_1.In) k_6, .int .i64 c_1.Want, .bool c_1.Failed], .int .i64 n_8] w0 fun e w => ∃ v, e = .returned v ∧ ∃ (A_23 : Option Addr) (k_24 : Nat) (A_26 : Option Addr) (k_27 : Nat), (v = .tuple #[.agg #[.int .u16 r.1.Local, .int .u16 r.1.Remote, .int .u16 r.1.PSM, .int .i64 r.1.MTU, .int .i64 r.1.MPS, .int .i64 r.1.PeerMTU, .int .i64 r.1.PeerMPS, .int .i64 r.1.TxCredits, .int .i64 r.1.RxCredits, .int .i64 r.1.Given, .slice A_23 (List.length r.1.Out) k_24, .int .i64 r.1.Sent, .slice A_26 (List.length r.1.In) k_27, .int .i64 r.1.Want, .bool r.1.Failed], .int .i64 r.2]) ∧ (Ctx U0 [] w0 [] w) ∧ (Sl 1 (RSl 1 (RInt .u8)) (Mu U0 []) w A_23 k_24 r.1.Out) ∧ (Sl 1 (RInt .u8) (Mu U0 []) w A_26 k_27 r.1.In) := by
  refine calls_enter (vs := [.agg #[.int .u16 c_1.Local, .int .u16 c_1.Remote, .int .u16 c_1.PSM, .int .i64 c_1.MTU, .int .i64 c_1.MPS, .int .i64 c_1.PeerMTU, .int .i64 c_1.PeerMPS, .int .i64 c_1.TxCredits, .int .i64 c_1.RxCredits, .int .i64 c_1.Given, .slice A_2 (List.length c_1.Out) k_3, .int .i64 c_1.Sent, .slice A_5 (List.length c_1.In) k_6, .int .i64 c_1.Want, .bool c_1.Failed], .int .i64 n_8]) Try.func24 rfl Try.ntmps24 rfl ?_
  refine WC.prune (l' := [(0, .agg #[.int .u16 c_1.Local, .int .u16 c_1.Remote, .int .u16 c_1.PSM, .int .i64 c_1.MTU, .int .i64 c_1.MPS, .int .i64 c_1.PeerMTU, .int .i64 c_1.PeerMPS, .int .i64 c_1.TxCredits, .int .i64 c_1.RxCredits, .int .i64 c_1.Given, .slice A_2 (List.length c_1.Out) k_3, .int .i64 c_1.Sent, .slice A_5 (List.length c_1.In) k_6, .int .i64 c_1.Want, .bool c_1.Failed]), (1, .int .i64 n_8)]) ⟨rfl, rfl, trivial⟩ ?_
  skip
  refine WC.seq ?_
  refine WC.region ?_
  refine WL.world (rw_box rfl rfl C) rfl ?_
  rintro v w ⟨b_9, rfl, hb_9, C', T⟩
  replace C' : Ctx U0 [] w0 [some b_9] _ := C'
  replace T : TR U0 [] _ [some b_9] _ [] := T
  replace hb_9 : Blk _ b_9 26 [.int .u16 c_1.Local, .int .u16 c_1.Remote, .int .u16 c_1.PSM, .int .i64 c_1.MTU, .int .i64 c_1.MPS, .int .i64 c_1.PeerMTU, .int .i64 c_1.PeerMPS, .int .i64 c_1.TxCredits, .int .i64 c_1.RxCredits, .int .i64 c_1.Given, .slice A_2 (List.length c_1.Out) k_3, .int .i64 c_1.Sent, .slice A_5 (List.length c_1.In) k_6, .int .i64 c_1.Want, .bool c_1.Failed] := hb_9
  replace f_4 := T.sl f_4
  replace f_7 := T.sl f_7
  clear T; replace C := C'; clear C'
  refine WL.world (rw_alloc Try.zeroValue26 rfl C) rfl ?_
  rintro v w ⟨b_10, rfl, hb_10, C', T⟩
  replace C' : Ctx U0 [] w0 [some b_10, some b_9] _ := C'
  replace T : TR U0 [some b_9] _ [some b_10, some b_9] _ [] := T
  replace hb_10 : Blk _ b_10 26 [.int .u16 0, .int .u16 0, .int .u16 0, .int .i64 0, .int .i64 0, .int .i64 0, .int .i64 0, .int .i64 0, .int .i64 0, .int .i64 0, .slice none 0 0, .int .i64 0, .slice none 0 0, .int .i64 0, .bool false] := hb_10
  replace f_4 := T.sl f_4
  replace f_7 := T.sl f_7
  replace hb_9 := T.blk ne0 hb_9
  clear T; replace C := C'; clear C'
  refine WL.val (rv_assign rfl) rfl ?_
  refine WL.nilThen ?_
  refine WC.seq ?_
  refine WC.region ?_
  refine WL.val (rv_loadN Try.isAgg26 Try.sizeOf26 rfl hb_9 rfl rfl) rfl ?_
  replace hp := bind_inv hp
  obtain ⟨x_11, e_x_11, hp⟩ := hp
  refine WL.call (rc_func Try.call32 rfl) (ok_sdu_copied F (Mu U0 [some b_10, some b_9]) _ c_1 A_2 k_3 A_5 k_6 (C.give [0, 1] [] (by decide) rfl rfl (by decide)) (f_4.mu (mu_give [0, 1] [] rfl rfl)) (f_7.mu (mu_give [0, 1] [] rfl rfl)) _ e_x_11) rfl ?_
  rintro v w ⟨A_12, k_13, A_16, k_17, rfl, D, f_18, f_14⟩
  obtain ⟨C', T⟩ := C.join D [0, 1] [] (by decide) rfl rfl (by decide)
  replace C' : Ctx U0 [] w0 [ob A_12, some b_10, some b_9] _ := C'
  replace T : TR U0 [some b_10, some b_9] _ [ob A_12, some b_10, some b_9] _ [] := T
  replace f_18 : Sl 1 (RInt .u8) (Mu U0 [ob A_12, some b_10, some b_9]) _ A_16 k_17 x_11.In := f_18.mu (mu_join (R := [ob A_12]) (L2 := [some b_10, some b_9]) (fun b h => h))
  replace f_14 : Own 1 24 (RSl 1 (RInt .u8)) (Mu U0 [ob A_12, some b_10, some b_9]) _ A_12 k_13 x_11.Out := f_14.mu (mu_join (R := [ob A_12]) (L2 := [some b_10, some b_9]) (fun b h => h))
  replace f_4 := T.sl f_4
  replace f_7 := T.sl f_7
  replace hb_9 := T.blk ne0 hb_9
  replace hb_10 := T.blk ne0 hb_10
  clear T; replace C := C'; clear C'
  clear D
  refine WL.storeK (rs_store (i := 2) (cs' := [.int .u16 x_11.Local, .int .u16 x_11.Remote, .int .u16 x_11.PSM, .int .i64 x_11.MTU, .int .i64 x_11.MPS, .int .i64 x_11.PeerMTU, .int .i64 x_11.PeerMPS, .int .i64 x_11.TxCredits, .int .i64 x_11.RxCredits, .int .i64 x_11.Given, .slice A_12 (List.length x_11.Out) k_13, .int .i64 x_11.Sent, .slice A_16 (List.length x_11.In) k_17, .int .i64 x_11.Want, .bool x_11.Failed]) Try.sizeOf26 rfl rfl rfl rfl rfl hb_9 rfl C rfl rfl) ?_
  rintro w ⟨hb_9, C', T⟩
  replace f_4 := T.sl f_4
  replace f_7 := T.sl f_7
  replace f_18 := T.sl f_18
  replace hb_10 := T.blk (C.ne (i := 1) rfl [2] rfl (by decide)) hb_10
  replace f_14 := T.own (C.ne (i := 0) rfl [2] rfl (by decide)) f_14
  clear T; replace C := C'; clear C'
  refine WL.nilThen ?_
  refine WC.seq ?_
  refine WC.seq ?_
  refine WC.region ?_
  refine WL.val (rv_fieldAddr FA26_14 rfl rfl) rfl ?_
  refine WL.val (rv_load1 Try.isAgg4 rfl hb_9 rfl) rfl ?_
  refine WL.nilThen ?_
  refine WC.cond rfl (fun hc => ?_) (fun hc => ?_)
  · replace hp := if_t hp hc
    clear hc
    refine WC.seq ?_
    refine WC.region ?_
    refine WL.val (rv_loadN Try.isAgg26 Try.sizeOf26 rfl hb_9 rfl rfl) rfl ?_
    refine WL.storeK (rs_store (i := 1) (cs' := [.int .u16 x_11.Local, .int .u16 x_11.Remote, .int .u16 x_11.PSM, .int .i64 x_11.MTU, .int .i64 x_11.MPS, .int .i64 x_11.PeerMTU, .int .i64 x_11.PeerMPS, .int .i64 x_11.TxCredits, .int .i64 x_11.RxCredits, .int .i64 x_11.Given, .slice A_12 (List.length x_11.Out) k_13, .int .i64 x_11.Sent, .slice A_16 (List.length x_11.In) k_17, .int .i64 x_11.Want, .bool x_11.Failed]) Try.sizeOf26 rfl rfl rfl rfl rfl hb_10 rfl C rfl rfl) ?_
    rintro w ⟨hb_10, C', T⟩
    replace f_18 := T.sl f_18
    replace hb_9 := T.blk (C.ne (i := 2) rfl [1] rfl (by decide)) hb_9
    replace f_14 := T.own (C.ne (i := 0) rfl [1] rfl (by decide)) f_14
    clear T; replace C := C'; clear C'
    refine WL.val (rv_assign rfl) rfl ?_
    refine WL.nilThen ?_
    obtain rfl := some_inv' hp
    refine WC.ret (retK (rs := [.cell 4 26, .tmp 5]) (vs := [.agg #[.int .u16 x_11.Local, .int .u16 x_11.Remote, .int .u16 x_11.PSM, .int .i64 x_11.MTU, .int .i64 x_11.MPS, .int .i64 x_11.PeerMTU, .int .i64 x_11.PeerMPS, .int .i64 x_11.TxCredits, .int .i64 x_11.RxCredits, .int .i64 x_11.Given, .slice A_12 (List.length x_11.Out) k_13, .int .i64 x_11.Sent, .slice A_16 (List.length x_11.In) k_17, .int .i64 x_11.Want, .bool x_11.Failed], .int .i64 9]) rfl ⟨rv1_cell Try.isAgg26 Try.sizeOf26 rfl hb_10 rfl, rv1_tmp rfl, trivial⟩ ?_)
    have f_25 : Sl 1 (RSl 1 (RInt .u8)) (Mu U0 [some b_10, some b_9]) _ A_12 k_13 x_11.Out := f_14.toSl (C.off (i := 0) rfl [1, 2] rfl (by decide)) (Mu.weaken (mem_pick [1, 2] rfl))
    have T : TR U0 [ob A_12, some b_10, some b_9] w [some b_10, some b_9] w [] := TR.pick [1, 2] rfl
    have C' : Ctx U0 [] w0 [some b_10, some b_9] _ := C.pick [1, 2] (by decide) rfl
    replace f_18 := T.sl f_18
    clear T; replace C := C'; clear C'
    have T : TR U0 [some b_10, some b_9] w [] w [] := TR.pick [] rfl
    have C' : Ctx U0 [] w0 [] _ := C.pick [] (by decide) rfl
    replace f_18 := T.sl f_18
    replace f_25 := T.sl f_25
    clear T; replace C := C'; clear C'
    exact ⟨_, rfl, A_12, k_13, A_16, k_17, rfl, C, f_25, f_18⟩
  · replace hp := if_f hp hc
    clear hc
    refine WC.skipThen ?_
    refine WC.seq ?_
    refine WC.region ?_
    refine WL.val (rv_fieldAddr FA26_7 rfl rfl) rfl ?_
    refine WL.val (rv_load1 Try.isAgg3 rfl hb_9 rfl) rfl ?_
    refine WL.val (rv_move rfl) rfl ?_
    replace hp := bind_inv hp
    obtain ⟨x_19, e_x_19, hp⟩ := hp
    refine WL.call (rc_func Try.call40 rfl) (ok_sdu_more F (Mu U0 [ob A_12, some b_10, some b_9]) _ x_11.TxCredits n_8 (C.give [0, 1, 2] [] (by decide) rfl rfl (by decide)) _ e_x_19) rfl ?_
    rintro v w ⟨rfl, D⟩
    obtain ⟨C', T⟩ := C.join D [0, 1, 2] [] (by decide) rfl rfl (by decide)
    replace C' : Ctx U0 [] w0 [ob A_12, some b_10, some b_9] _ := C'
    replace T : TR U0 [ob A_12, some b_10, some b_9] _ [ob A_12, some b_10, some b_9] _ [] := T
    replace f_18 := T.sl f_18
    replace hb_9 := T.blk ne0 hb_9
    replace hb_10 := T.blk ne0 hb_10
    replace f_14 := T.own ne0 f_14
    clear T; replace C := C'; clear C'
    clear D
    refine WL.val (rv_assign rfl) rfl ?_
    refine WL.nilThen ?_
    refine WC.seqCut (fun a w => ∃ (c_22 : T_api_Channel), (sdu_Credit_j1 F x_11 x_19 c_22 = some r) ∧ (Holds 26 [(2, .pointer (some ⟨b_9, 0, none⟩)), (4, .pointer (some ⟨b_10, 0, none⟩)), (6, .int .i64 x_19)] a) ∧ (Ctx U0 [] w0 [ob A_12, some b_10, some b_9] w) ∧ (Sl 1 (RInt .u8) (Mu U0 [ob A_12, some b_10, some b_9]) w A_16 k_17 x_11.In) ∧ (Blk w b_9 26 [.int .u16 x_11.Local, .int .u16 x_11.Remote, .int .u16 x_11.PSM, .int .i64 x_11.MTU, .int .i64 x_11.MPS, .int .i64 x_11.PeerMTU, .int .i64 x_11.PeerMPS, .int .i64 c_22.TxCredits, .int .i64 x_11.RxCredits, .int .i64 x_11.Given, .slice A_12 (List.length x_11.Out) k_13, .int .i64 x_11.Sent, .slice A_16 (List.length x_11.In) k_17, .int .i64 x_11.Want, .bool c_22.Failed]) ∧ (Blk w b_10 26 [.int .u16 0, .int .u16 0, .int .u16 0, .int .i64 0, .int .i64 0, .int .i64 0, .int .i64 0, .int .i64 0, .int .i64 0, .int .i64 0, .slice none 0 0, .int .i64 0, .slice none 0 0, .int .i64 0, .bool false]) ∧ (Own 1 24 (RSl 1 (RInt .u8)) (Mu U0 [ob A_12, some b_10, some b_9]) w A_12 k_13 x_11.Out)) ?_ ?_
    · refine WC.seq ?_
      refine WC.region ?_
      refine WL.val (rv_move rfl) rfl ?_
      refine WL.val (rv_eql rfl rfl) rfl ?_
      refine WL.nilThen ?_
      refine WC.cond rfl (fun hc => ?_) (fun hc => ?_)
      · replace hp := if_t hp hc
        clear hc
        refine WC.region ?_
        refine WL.val (rv_fieldAddr FA26_7 rfl rfl) rfl ?_
        refine WL.val (rv_load1 Try.isAgg3 rfl hb_9 rfl) rfl ?_
        refine WL.val (rv_move rfl) rfl ?_
        refine WL.val (rv_add rfl rfl (wrap_i64 _)) rfl ?_
        refine WL.val (rv_fieldAddr FA26_7 rfl rfl) rfl ?_
        refine WL.storeK (rs_store (i := 2) (cs' := [.int .u16 x_11.Local, .int .u16 x_11.Remote, .int .u16 x_11.PSM, .int .i64 x_11.MTU, .int .i64 x_11.MPS, .int .i64 x_11.PeerMTU, .int .i64 x_11.PeerMPS, .int .i64 (w64 (x_11.TxCredits + n_8)), .int .i64 x_11.RxCredits, .int .i64 x_11.Given, .slice A_12 (List.length x_11.Out) k_13, .int .i64 x_11.Sent, .slice A_16 (List.length x_11.In) k_17, .int .i64 x_11.Want, .bool x_11.Failed]) Try.sizeOf3 rfl rfl rfl rfl rfl hb_9 rfl C rfl rfl) ?_
        rintro w ⟨hb_9, C', T⟩
        replace f_18 := T.sl f_18
        replace hb_10 := T.blk (C.ne (i := 1) rfl [2] rfl (by decide)) hb_10
        replace f_14 := T.own (C.ne (i := 0) rfl [2] rfl (by decide)) f_14
        clear T; replace C := C'; clear C'
        refine WL.nil (fun a ha => ?_)
        exact ⟨{ x_11 with TxCredits := w64 (x_11.TxCredits + n_8) }, hp, ha.sub ⟨rfl, rfl, rfl, trivial⟩, C, f_18, hb_9, hb_10, f_14⟩
      · replace hp := if_f hp hc
        clear hc
        refine WC.region ?_
        refine WL.val (rv_fieldAddr FA26_14 rfl rfl) rfl ?_
        refine WL.storeK (rs_store (i := 2) (cs' := [.int .u16 x_11.Local, .int .u16 x_11.Remote, .int .u16 x_11.PSM, .int .i64 x_11.MTU, .int .i64 x_11.MPS, .int .i64 x_11.PeerMTU, .int .i64 x_11.PeerMPS, .int .i64 x_11.TxCredits, .int .i64 x_11.RxCredits, .int .i64 x_11.Given, .slice A_12 (List.length x_11.Out) k_13, .int .i64 x_11.Sent, .slice A_16 (List.length x_11.In) k_17, .int .i64 x_11.Want, .bool true]) Try.sizeOf4 rfl rfl rfl rfl rfl hb_9 rfl C rfl rfl) ?_
        rintro w ⟨hb_9, C', T⟩
        replace f_18 := T.sl f_18
        replace hb_10 := T.blk (C.ne (i := 1) rfl [2] rfl (by decide)) hb_10
        replace f_14 := T.own (C.ne (i := 0) rfl [2] rfl (by decide)) f_14
        clear T; replace C := C'; clear C'
        refine WL.nil (fun a ha => ?_)
        exact ⟨{ x_11 with Failed := true }, hp, ha.sub ⟨rfl, rfl, rfl, trivial⟩, C, f_18, hb_9, hb_10, f_14⟩
    · rintro a w ⟨c_22, hp, ha, C, f_18, hb_9, hb_10, f_14⟩
      refine WC.ofJ (l := [(2, .pointer (some ⟨b_9, 0, none⟩)), (4, .pointer (some ⟨b_10, 0, none⟩)), (6, .int .i64 x_19)]) ?_ ha
      refine WC.seq ?_
      refine WC.region ?_
      refine WL.val (rv_loadN Try.isAgg26 Try.sizeOf26 rfl hb_9 rfl rfl) rfl ?_
      refine WL.val (rv_move rfl) rfl ?_
      refine WL.storeK (rs_store (i := 1) (cs' := [.int .u16 x_11.Local, .int .u16 x_11.Remote, .int .u16 x_11.PSM, .int .i64 x_11.MTU, .int .i64 x_11.MPS, .int .i64 x_11.PeerMTU, .int .i64 x_11.PeerMPS, .int .i64 c_22.TxCredits, .int .i64 x_11.RxCredits, .int .i64 x_11.Given, .slice A_12 (List.length x_11.Out) k_13, .int .i64 x_11.Sent, .slice A_16 (List.length x_11.In) k_17, .int .i64 x_11.Want, .bool c_22.Failed]) Try.sizeOf26 rfl rfl rfl rfl rfl hb_10 rfl C rfl rfl) ?_
      rintro w ⟨hb_10, C', T⟩
      replace f_18 := T.sl f_18
      replace hb_9 := T.blk (C.ne (i := 2) rfl [1] rfl (by decide)) hb_9
      replace f_14 := T.own (C.ne (i := 0) rfl [1] rfl (by decide)) f_14
      clear T; replace C := C'; clear C'
      refine WL.val (rv_assign rfl) rfl ?_
      refine WL.nilThen ?_
      obtain rfl := some_inv' hp
      refine WC.ret (retK (rs := [.cell 4 26, .tmp 5]) (vs := [.agg #[.int .u16 x_11.Local, .int .u16 x_11.Remote, .int .u16 x_11.PSM, .int .i64 x_11.MTU, .int .i64 x_11.MPS, .int .i64 x_11.PeerMTU, .int .i64 x_11.PeerMPS, .int .i64 c_22.TxCredits, .int .i64 x_11.RxCredits, .int .i64 x_11.Given, .slice A_12 (List.length x_11.Out) k_13, .int .i64 x_11.Sent, .slice A_16 (List.length x_11.In) k_17, .int .i64 x_11.Want, .bool c_22.Failed], .int .i64 x_19]) rfl ⟨rv1_cell Try.isAgg26 Try.sizeOf26 rfl hb_10 rfl, rv1_tmp rfl, trivial⟩ ?_)
      have f_29 : Sl 1 (RSl 1 (RInt .u8)) (Mu U0 [some b_10, some b_9]) _ A_12 k_13 x_11.Out := f_14.toSl (C.off (i := 0) rfl [1, 2] rfl (by decide)) (Mu.weaken (mem_pick [1, 2] rfl))
      have T : TR U0 [ob A_12, some b_10, some b_9] w [some b_10, some b_9] w [] := TR.pick [1, 2] rfl
      have C' : Ctx U0 [] w0 [some b_10, some b_9] _ := C.pick [1, 2] (by decide) rfl
      replace f_18 := T.sl f_18
      clear T; replace C := C'; clear C'
      have T : TR U0 [some b_10, some b_9] w [] w [] := TR.pick [] rfl
      have C' : Ctx U0 [] w0 [] _ := C.pick [] (by decide) rfl
      replace f_18 := T.sl f_18
      replace f_29 := T.sl f_29
      clear T; replace C := C'; clear C'
      exact ⟨_, rfl, A_12, k_13, A_16, k_17, rfl, C, f_29, f_18⟩

theorem ok_wirelessref33_Grant (F : Nat) (U0 : Nat → Prop) (w0 : World) (c_1 : T_api_Channel) (n_8 : Int) (A_2 : Option Addr) (k_3 : Nat) (A_5 : Option Addr) (k_6 : Nat) (C : Ctx U0 [] w0 [] w0) (f_4 : Sl 1 (RSl 1 (RInt .u8)) (Mu U0 []) w0 A_2 k_3 c_1.Out) (f_7 : Sl 1 (RInt .u8) (Mu U0 []) w0 A_5 k_6 c_1.In) (r : T_api_Channel × Int) (hp : wirelessref33_Grant F c_1 n_8 = some r) :
    Calls Try.prog 23 #[.agg #[.int .u16 c_1.Local, .int .u16 c_1.Remote, .int .u16 c_1.PSM, .int .i64 c_1.MTU, .int .i64 c_1.MPS, .int .i64 c_1.PeerMTU, .int .i64 c_1.PeerMPS, .int .i64 c_1.TxCredits, .int .i64 c_1.RxCredits, .int .i64 c_1.Given, .slice A_2 (List.length c_1.Out) k_3, .int .i64 c_1.Sent, .slice A_5 (List.length c_1.In) k_6, .int .i64 c_1.Want, .bool c_1.Failed], .int .i64 n_8] w0 fun e w => ∃ v, e = .returned v ∧ ∃ (A_11 : Option Addr) (k_12 : Nat) (A_14 : Option Addr) (k_15 : Nat), (v = .tuple #[.agg #[.int .u16 r.1.Local, .int .u16 r.1.Remote, .int .u16 r.1.PSM, .int .i64 r.1.MTU, .int .i64 r.1.MPS, .int .i64 r.1.PeerMTU, .int .i64 r.1.PeerMPS, .int .i64 r.1.TxCredits, .int .i64 r.1.RxCredits, .int .i64 r.1.Given, .slice A_11 (List.length r.1.Out) k_12, .int .i64 r.1.Sent, .slice A_14 (List.length r.1.In) k_15, .int .i64 r.1.Want, .bool r.1.Failed], .int .i64 r.2]) ∧ (Ctx U0 [] w0 [] w) ∧ (Sl 1 (RSl 1 (RInt .u8)) (Mu U0 []) w A_11 k_12 r.1.Out) ∧ (Sl 1 (RInt .u8) (Mu U0 []) w A_14 k_15 r.1.In) := by
  refine calls_enter (vs := [.agg #[.int .u16 c_1.Local, .int .u16 c_1.Remote, .int .u16 c_1.PSM, .int .i64 c_1.MTU, .int .i64 c_1.MPS, .int .i64 c_1.PeerMTU, .int .i64 c_1.PeerMPS, .int .i64 c_1.TxCredits, .int .i64 c_1.RxCredits, .int .i64 c_1.Given, .slice A_2 (List.length c_1.Out) k_3, .int .i64 c_1.Sent, .slice A_5 (List.length c_1.In) k_6, .int .i64 c_1.Want, .bool c_1.Failed], .int .i64 n_8]) Try.func23 rfl Try.ntmps23 rfl ?_
  refine WC.prune (l' := [(0, .agg #[.int .u16 c_1.Local, .int .u16 c_1.Remote, .int .u16 c_1.PSM, .int .i64 c_1.MTU, .int .i64 c_1.MPS, .int .i64 c_1.PeerMTU, .int .i64 c_1.PeerMPS, .int .i64 c_1.TxCredits, .int .i64 c_1.RxCredits, .int .i64 c_1.Given, .slice A_2 (List.length c_1.Out) k_3, .int .i64 c_1.Sent, .slice A_5 (List.length c_1.In) k_6, .int .i64 c_1.Want, .bool c_1.Failed]), (1, .int .i64 n_8)]) ⟨rfl, rfl, trivial⟩ ?_
  skip
  refine WC.seq ?_
  refine WC.region ?_
  refine WL.world (rw_box rfl rfl C) rfl ?_
  rintro v w ⟨b_9, rfl, hb_9, C', T⟩
  replace C' : Ctx U0 [] w0 [some b_9] _ := C'
  replace T : TR U0 [] _ [some b_9] _ [] := T
  replace hb_9 : Blk _ b_9 26 [.int .u16 c_1.Local, .int .u16 c_1.Remote, .int .u16 c_1.PSM, .int .i64 c_1.MTU, .int .i64 c_1.MPS, .int .i64 c_1.PeerMTU, .int .i64 c_1.PeerMPS, .int .i64 c_1.TxCredits, .int .i64 c_1.RxCredits, .int .i64 c_1.Given, .slice A_2 (List.length c_1.Out) k_3, .int .i64 c_1.Sent, .slice A_5 (List.length c_1.In) k_6, .int .i64 c_1.Want, .bool c_1.Failed] := hb_9
  replace f_4 := T.sl f_4
  replace f_7 := T.sl f_7
  clear T; replace C := C'; clear C'
  refine WL.world (rw_alloc Try.zeroValue26 rfl C) rfl ?_
  rintro v w ⟨b_10, rfl, hb_10, C', T⟩
  replace C' : Ctx U0 [] w0 [some b_10, some b_9] _ := C'
  replace T : TR U0 [some b_9] _ [some b_10, some b_9] _ [] := T
  replace hb_10 : Blk _ b_10 26 [.int .u16 0, .int .u16 0, .int .u16 0, .int .i64 0, .int .i64 0, .int .i64 0, .int .i64 0, .int .i64 0, .int .i64 0, .int .i64 0, .slice none 0 0, .int .i64 0, .slice none 0 0, .int .i64 0, .bool false] := hb_10
  replace f_4 := T.sl f_4
  replace f_7 := T.sl f_7
  replace hb_9 := T.blk ne0 hb_9
  clear T; replace C := C'; clear C'
  refine WL.val (rv_assign rfl) rfl ?_
  refine WL.nilThen ?_
  refine WC.seq ?_
  refine WC.seq ?_
  refine WC.region ?_
  refine WL.val (rv_fieldAddr FA26_14 rfl rfl) rfl ?_
  refine WL.val (rv_load1 Try.isAgg4 rfl hb_9 rfl) rfl ?_
  refine WL.nilThen ?_
  refine WC.cond rfl (fun hc => ?_) (fun hc => ?_)
  · replace hp := if_t hp hc
    clear hc
    refine WC.seq ?_
    refine WC.region ?_
    refine WL.val (rv_loadN Try.isAgg26 Try.sizeOf26 rfl hb_9 rfl rfl) rfl ?_
    refine WL.storeK (rs_store (i := 0) (cs' := [.int .u16 c_1.Local, .int .u16 c_1.Remote, .int .u16 c_1.PSM, .int .i64 c_1.MTU, .int .i64 c_1.MPS, .int .i64 c_1.PeerMTU, .int .i64 c_1.PeerMPS, .int .i64 c_1.TxCredits, .int .i64 c_1.RxCredits, .int .i64 c_1.Given, .slice A_2 (List.length c_1.Out) k_3, .int .i64 c_1.Sent, .slice A_5 (List.length c_1.In) k_6, .int .i64 c_1.Want, .bool c_1.Failed]) Try.sizeOf26 rfl rfl rfl rfl rfl hb_10 rfl C rfl rfl) ?_
    rintro w ⟨hb_10, C', T⟩
    replace f_4 := T.sl f_4
    replace f_7 := T.sl f_7
    replace hb_9 := T.blk (C.ne (i := 1) rfl [0] rfl (by decide)) hb_9
    clear T; replace C := C'; clear C'
    refine WL.val (rv_assign rfl) rfl ?_
    refine WL.nilThen ?_
    obtain rfl := some_inv' hp
    refine WC.ret (retK (rs := [.cell 4 26, .tmp 5]) (vs := [.agg #[.int .u16 c_1.Local, .int .u16 c_1.Remote, .int .u16 c_1.PSM, .int .i64 c_1.MTU, .int .i64 c_1.MPS, .int .i64 c_1.PeerMTU, .int .i64 c_1.PeerMPS, .int .i64 c_1.TxCredits, .int .i64 c_1.RxCredits, .int .i64 c_1.Given, .slice A_2 (List.length c_1.Out) k_3, .int .i64 c_1.Sent, .slice A_5 (List.length c_1.In) k_6, .int .i64 c_1.Want, .bool c_1.Failed], .int .i64 9]) rfl ⟨rv1_cell Try.isAgg26 Try.sizeOf26 rfl hb_10 rfl, rv1_tmp rfl, trivial⟩ ?_)
    have T : TR U0 [some b_10, some b_9] w [] w [] := TR.pick [] rfl
    have C' : Ctx U0 [] w0 [] _ := C.pick [] (by decide) rfl
    replace f_4 := T.sl f_4
    replace f_7 := T.sl f_7
    clear T; replace C := C'; clear C'
    exact ⟨_, rfl, A_2, k_3, A_5, k_6, rfl, C, f_4, f_7⟩
  · replace hp := if_f hp hc
    clear hc
    refine WC.skipThen ?_
    refine WC.seq ?_
    refine WC.seq ?_
    refine WC.region ?_
    refine WL.val (rv_move rfl) rfl ?_
    refine WL.val (rv_lss rfl rfl) rfl ?_
    refine WL.nilThen ?_
    refine WC.cond rfl (fun hc => ?_) (fun hc => ?_)
    · replace hp := if_t hp hc
      clear hc
      refine WC.seq ?_
      refine WC.region ?_
      refine WL.val (rv_loadN Try.isAgg26 Try.sizeOf26 rfl hb_9 rfl rfl) rfl ?_
      refine WL.storeK (rs_store (i := 0) (cs' := [.int .u16 c_1.Local, .int .u16 c_1.Remote, .int .u16 c_1.PSM, .int .i64 c_1.MTU, .int .i64 c_1.MPS, .int .i64 c_1.PeerMTU, .int .i64 c_1.PeerMPS, .int .i64 c_1.TxCredits, .int .i64 c_1.RxCredits, .int .i64 c_1.Given, .slice A_2 (List.length c_1.Out) k_3, .int .i64 c_1.Sent, .slice A_5 (List.length c_1.In) k_6, .int .i64 c_1.Want, .bool c_1.Failed]) Try.sizeOf26 rfl rfl rfl rfl rfl hb_10 rfl C rfl rfl) ?_
      rintro w ⟨hb_10, C', T⟩
      replace f_4 := T.sl f_4
      replace f_7 := T.sl f_7
      replace hb_9 := T.blk (C.ne (i := 1) rfl [0] rfl (by decide)) hb_9
      clear T; replace C := C'; clear C'
      refine WL.val (rv_assign rfl) rfl ?_
      refine WL.nilThen ?_
      obtain rfl := some_inv' hp
      refine WC.ret (retK (rs := [.cell 4 26, .tmp 5]) (vs := [.agg #[.int .u16 c_1.Local, .int .u16 c_1.Remote, .int .u16 c_1.PSM, .int .i64 c_1.MTU, .int .i64 c_1.MPS, .int .i64 c_1.PeerMTU, .int .i64 c_1.PeerMPS, .int .i64 c_1.TxCredits, .int .i64 c_1.RxCredits, .int .i64 c_1.Given, .slice A_2 (List.length c_1.Out) k_3, .int .i64 c_1.Sent, .slice A_5 (List.length c_1.In) k_6, .int .i64 c_1.Want, .bool c_1.Failed], .int .i64 5]) rfl ⟨rv1_cell Try.isAgg26 Try.sizeOf26 rfl hb_10 rfl, rv1_tmp rfl, trivial⟩ ?_)
      have T : TR U0 [some b_10, some b_9] w [] w [] := TR.pick [] rfl
      have C' : Ctx U0 [] w0 [] _ := C.pick [] (by decide) rfl
      replace f_4 := T.sl f_4
      replace f_7 := T.sl f_7
      clear T; replace C := C'; clear C'
      exact ⟨_, rfl, A_2, k_3, A_5, k_6, rfl, C, f_4, f_7⟩
    · replace hp := if_f hp hc
      clear hc
      refine WC.skipThen ?_
      refine WC.seq ?_
      refine WC.seq ?_
      refine WC.region ?_
      refine WL.val (rv_move rfl) rfl ?_
      refine WL.val (rv_fieldAddr FA26_8 rfl rfl) rfl ?_
      refine WL.val (rv_load1 Try.isAgg3 rfl hb_9 rfl) rfl ?_
      refine WL.val (rv_sub rfl rfl (wrap_i64 _)) rfl ?_
      refine WL.val (rv_gtr rfl rfl) rfl ?_
      refine WL.nilThen ?_
      refine WC.cond rfl (fun hc => ?_) (fun hc => ?_)
      · replace hp := if_t hp hc
        clear hc
        refine WC.seq ?_
        refine WC.region ?_
        refine WL.val (rv_loadN Try.isAgg26 Try.sizeOf26 rfl hb_9 rfl rfl) rfl ?_
        refine WL.storeK (rs_store (i := 0) (cs' := [.int .u16 c_1.Local, .int .u16 c_1.Remote, .int .u16 c_1.PSM, .int .i64 c_1.MTU, .int .i64 c_1.MPS, .int .i64 c_1.PeerMTU, .int .i64 c_1.PeerMPS, .int .i64 c_1.TxCredits, .int .i64 c_1.RxCredits, .int .i64 c_1.Given, .slice A_2 (List.length c_1.Out) k_3, .int .i64 c_1.Sent, .slice A_5 (List.length c_1.In) k_6, .int .i64 c_1.Want, .bool c_1.Failed]) Try.sizeOf26 rfl rfl rfl rfl rfl hb_10 rfl C rfl rfl) ?_
        rintro w ⟨hb_10, C', T⟩
        replace f_4 := T.sl f_4
        replace f_7 := T.sl f_7
        replace hb_9 := T.blk (C.ne (i := 1) rfl [0] rfl (by decide)) hb_9
        clear T; replace C := C'; clear C'
        refine WL.val (rv_assign rfl) rfl ?_
        refine WL.nilThen ?_
        obtain rfl := some_inv' hp
        refine WC.ret (retK (rs := [.cell 4 26, .tmp 5]) (vs := [.agg #[.int .u16 c_1.Local, .int .u16 c_1.Remote, .int .u16 c_1.PSM, .int .i64 c_1.MTU, .int .i64 c_1.MPS, .int .i64 c_1.PeerMTU, .int .i64 c_1.PeerMPS, .int .i64 c_1.TxCredits, .int .i64 c_1.RxCredits, .int .i64 c_1.Given, .slice A_2 (List.length c_1.Out) k_3, .int .i64 c_1.Sent, .slice A_5 (List.length c_1.In) k_6, .int .i64 c_1.Want, .bool c_1.Failed], .int .i64 19]) rfl ⟨rv1_cell Try.isAgg26 Try.sizeOf26 rfl hb_10 rfl, rv1_tmp rfl, trivial⟩ ?_)
        have T : TR U0 [some b_10, some b_9] w [] w [] := TR.pick [] rfl
        have C' : Ctx U0 [] w0 [] _ := C.pick [] (by decide) rfl
        replace f_4 := T.sl f_4
        replace f_7 := T.sl f_7
        clear T; replace C := C'; clear C'
        exact ⟨_, rfl, A_2, k_3, A_5, k_6, rfl, C, f_4, f_7⟩
      · replace hp := if_f hp hc
        clear hc
        refine WC.skipThen ?_
        refine WC.seq ?_
        refine WC.region ?_
        refine WL.val (rv_fieldAddr FA26_8 rfl rfl) rfl ?_
        refine WL.val (rv_load1 Try.isAgg3 rfl hb_9 rfl) rfl ?_
        refine WL.val (rv_move rfl) rfl ?_
        refine WL.val (rv_add rfl rfl (wrap_i64 _)) rfl ?_
        refine WL.val (rv_fieldAddr FA26_8 rfl rfl) rfl ?_
        refine WL.storeK (rs_store (i := 1) (cs' := [.int .u16 c_1.Local, .int .u16 c_1.Remote, .int .u16 c_1.PSM, .int .i64 c_1.MTU, .int .i64 c_1.MPS, .int .i64 c_1.PeerMTU, .int .i64 c_1.PeerMPS, .int .i64 c_1.TxCredits, .int .i64 (w64 (c_1.RxCredits + n_8)), .int .i64 c_1.Given, .slice A_2 (List.length c_1.Out) k_3, .int .i64 c_1.Sent, .slice A_5 (List.length c_1.In) k_6, .int .i64 c_1.Want, .bool c_1.Failed]) Try.sizeOf3 rfl rfl rfl rfl rfl hb_9 rfl C rfl rfl) ?_
        rintro w ⟨hb_9, C', T⟩
        replace f_4 := T.sl f_4
        replace f_7 := T.sl f_7
        replace hb_10 := T.blk (C.ne (i := 0) rfl [1] rfl (by decide)) hb_10
        clear T; replace C := C'; clear C'
        refine WL.nilThen ?_
        refine WC.seq ?_
        refine WC.region ?_
        refine WL.val (rv_loadN Try.isAgg26 Try.sizeOf26 rfl hb_9 rfl rfl) rfl ?_
        refine WL.storeK (rs_store (i := 0) (cs' := [.int .u16 c_1.Local, .int .u16 c_1.Remote, .int .u16 c_1.PSM, .int .i64 c_1.MTU, .int .i64 c_1.MPS, .int .i64 c_1.PeerMTU, .int .i64 c_1.PeerMPS, .int .i64 c_1.TxCredits, .int .i64 (w64 (c_1.RxCredits + n_8)), .int .i64 c_1.Given, .slice A_2 (List.length c_1.Out) k_3, .int .i64 c_1.Sent, .slice A_5 (List.length c_1.In) k_6, .int .i64 c_1.Want, .bool c_1.Failed]) Try.sizeOf26 rfl rfl rfl rfl rfl hb_10 rfl C rfl rfl) ?_
        rintro w ⟨hb_10, C', T⟩
        replace f_4 := T.sl f_4
        replace f_7 := T.sl f_7
        replace hb_9 := T.blk (C.ne (i := 1) rfl [0] rfl (by decide)) hb_9
        clear T; replace C := C'; clear C'
        refine WL.val (rv_assign rfl) rfl ?_
        refine WL.nilThen ?_
        obtain rfl := some_inv' hp
        refine WC.ret (retK (rs := [.cell 4 26, .tmp 5]) (vs := [.agg #[.int .u16 c_1.Local, .int .u16 c_1.Remote, .int .u16 c_1.PSM, .int .i64 c_1.MTU, .int .i64 c_1.MPS, .int .i64 c_1.PeerMTU, .int .i64 c_1.PeerMPS, .int .i64 c_1.TxCredits, .int .i64 (w64 (c_1.RxCredits + n_8)), .int .i64 c_1.Given, .slice A_2 (List.length c_1.Out) k_3, .int .i64 c_1.Sent, .slice A_5 (List.length c_1.In) k_6, .int .i64 c_1.Want, .bool c_1.Failed], .int .i64 0]) rfl ⟨rv1_cell Try.isAgg26 Try.sizeOf26 rfl hb_10 rfl, rv1_tmp rfl, trivial⟩ ?_)
        have T : TR U0 [some b_10, some b_9] w [] w [] := TR.pick [] rfl
        have C' : Ctx U0 [] w0 [] _ := C.pick [] (by decide) rfl
        replace f_4 := T.sl f_4
        replace f_7 := T.sl f_7
        clear T; replace C := C'; clear C'
        exact ⟨_, rfl, A_2, k_3, A_5, k_6, rfl, C, f_4, f_7⟩

theorem ok_wirelessref33_Credit (F : Nat) (U0 : Nat → Prop) (w0 : World) (c_1 : T_api_Channel) (n_8 : Int) (A_2 : Option Addr) (k_3 : Nat) (A_5 : Option Addr) (k_6 : Nat) (C : Ctx U0 [] w0 [] w0) (f_4 : Sl 1 (RSl 1 (RInt .u8)) (Mu U0 []) w0 A_2 k_3 c_1.Out) (f_7 : Sl 1 (RInt .u8) (Mu U0 []) w0 A_5 k_6 c_1.In) (r : T_api_Channel × Int) (hp : wirelessref33_Credit F c_1 n_8 = some r) :
    Calls Try.prog 25 #[.agg #[.int .u16 c_1.Local, .int .u16 c_1.Remote, .int .u16 c_1.PSM, .int .i64 c_1.MTU, .int .i64 c_1.MPS, .int .i64 c_1.PeerMTU, .int .i64 c_1.PeerMPS, .int .i64 c_1.TxCredits, .int .i64 c_1.RxCredits, .int .i64 c_1.Given, .slice A_2 (List.length c_1.Out) k_3, .int .i64 c_1.Sent, .slice A_5 (List.length c_1.In) k_6, .int .i64 c_1.Want, .bool c_1.Failed], .int .i64 n_8] w0 fun e w => ∃ v, e = .returned v ∧ ∃ (A_12 : Option Addr) (k_13 : Nat) (A_15 : Option Addr) (k_16 : Nat), (v = .tuple #[.agg #[.int .u16 r.1.Local, .int .u16 r.1.Remote, .int .u16 r.1.PSM, .int .i64 r.1.MTU, .int .i64 r.1.MPS, .int .i64 r.1.PeerMTU, .int .i64 r.1.PeerMPS, .int .i64 r.1.TxCredits, .int .i64 r.1.RxCredits, .int .i64 r.1.Given, .slice A_12 (List.length r.1.Out) k_13, .int .i64 r.1.Sent, .slice A_15 (List.length r.1.In) k_16, .int .i64 r.1.Want, .bool r.1.Failed], .int .i64 r.2]) ∧ (Ctx U0 [] w0 [] w) ∧ (Sl 1 (RSl 1 (RInt .u8)) (Mu U0 []) w A_12 k_13 r.1.Out) ∧ (Sl 1 (RInt .u8) (Mu U0 []) w A_15 k_16 r.1.In) := by
  refine calls_enter (vs := [.agg #[.int .u16 c_1.Local, .int .u16 c_1.Remote, .int .u16 c_1.PSM, .int .i64 c_1.MTU, .int .i64 c_1.MPS, .int .i64 c_1.PeerMTU, .int .i64 c_1.PeerMPS, .int .i64 c_1.TxCredits, .int .i64 c_1.RxCredits, .int .i64 c_1.Given, .slice A_2 (List.length c_1.Out) k_3, .int .i64 c_1.Sent, .slice A_5 (List.length c_1.In) k_6, .int .i64 c_1.Want, .bool c_1.Failed], .int .i64 n_8]) Try.func25 rfl Try.ntmps25 rfl ?_
  refine WC.prune (l' := [(0, .agg #[.int .u16 c_1.Local, .int .u16 c_1.Remote, .int .u16 c_1.PSM, .int .i64 c_1.MTU, .int .i64 c_1.MPS, .int .i64 c_1.PeerMTU, .int .i64 c_1.PeerMPS, .int .i64 c_1.TxCredits, .int .i64 c_1.RxCredits, .int .i64 c_1.Given, .slice A_2 (List.length c_1.Out) k_3, .int .i64 c_1.Sent, .slice A_5 (List.length c_1.In) k_6, .int .i64 c_1.Want, .bool c_1.Failed]), (1, .int .i64 n_8)]) ⟨rfl, rfl, trivial⟩ ?_
  skip
  refine WC.seq ?_
  refine WC.region ?_
  refine WL.world (rw_box rfl rfl C) rfl ?_
  rintro v w ⟨b_9, rfl, hb_9, C', T⟩
  replace C' : Ctx U0 [] w0 [some b_9] _ := C'
  replace T : TR U0 [] _ [some b_9] _ [] := T
  replace hb_9 : Blk _ b_9 26 [.int .u16 c_1.Local, .int .u16 c_1.Remote, .int .u16 c_1.PSM, .int .i64 c_1.MTU, .int .i64 c_1.MPS, .int .i64 c_1.PeerMTU, .int .i64 c_1.PeerMPS, .int .i64 c_1.TxCredits, .int .i64 c_1.RxCredits, .int .i64 c_1.Given, .slice A_2 (List.length c_1.Out) k_3, .int .i64 c_1.Sent, .slice A_5 (List.length c_1.In) k_6, .int .i64 c_1.Want, .bool c_1.Failed] := hb_9
  replace f_4 := T.sl f_4
  replace f_7 := T.sl f_7
  clear T; replace C := C'; clear C'
  refine WL.world (rw_alloc Try.zeroValue26 rfl C) rfl ?_
  rintro v w ⟨b_10, rfl, hb_10, C', T⟩
  replace C' : Ctx U0 [] w0 [some b_10, some b_9] _ := C'
  replace T : TR U0 [some b_9] _ [some b_10, some b_9] _ [] := T
  replace hb_10 : Blk _ b_10 26 [.int .u16 0, .int .u16 0, .int .u16 0, .int .i64 0, .int .i64 0, .int .i64 0, .int .i64 0, .int .i64 0, .int .i64 0, .int .i64 0, .slice none 0 0, .int .i64 0, .slice none 0 0, .int .i64 0, .bool false] := hb_10
  replace f_4 := T.sl f_4
  replace f_7 := T.sl f_7
  replace hb_9 := T.blk ne0 hb_9
  clear T; replace C := C'; clear C'
  refine WL.val (rv_assign rfl) rfl ?_
  refine WL.nilThen ?_
  refine WC.seq ?_
  refine WC.seq ?_
  refine WC.region ?_
  refine WL.val (rv_fieldAddr FA26_14 rfl rfl) rfl ?_
  refine WL.val (rv_load1 Try.isAgg4 rfl hb_9 rfl) rfl ?_
  refine WL.nilThen ?_
  refine WC.cond rfl (fun hc => ?_) (fun hc => ?_)
  · replace hp := if_t hp hc
    clear hc
    refine WC.seq ?_
    refine WC.region ?_
    refine WL.val (rv_loadN Try.isAgg26 Try.sizeOf26 rfl hb_9 rfl rfl) rfl ?_
    refine WL.storeK (rs_store (i := 0) (cs' := [.int .u16 c_1.Local, .int .u16 c_1.Remote, .int .u16 c_1.PSM, .int .i64 c_1.MTU, .int .i64 c_1.MPS, .int .i64 c_1.PeerMTU, .int .i64 c_1.PeerMPS, .int .i64 c_1.TxCredits, .int .i64 c_1.RxCredits, .int .i64 c_1.Given, .slice A_2 (List.length c_1.Out) k_3, .int .i64 c_1.Sent, .slice A_5 (List.length c_1.In) k_6, .int .i64 c_1.Want, .bool c_1.Failed]) Try.sizeOf26 rfl rfl rfl rfl rfl hb_10 rfl C rfl rfl) ?_
    rintro w ⟨hb_10, C', T⟩
    replace f_4 := T.sl f_4
    replace f_7 := T.sl f_7
    replace hb_9 := T.blk (C.ne (i := 1) rfl [0] rfl (by decide)) hb_9
    clear T; replace C := C'; clear C'
    refine WL.val (rv_assign rfl) rfl ?_
    refine WL.nilThen ?_
    obtain rfl := some_inv' hp
    refine WC.ret (retK (rs := [.cell 4 26, .tmp 5]) (vs := [.agg #[.int .u16 c_1.Local, .int .u16 c_1.Remote, .int .u16 c_1.PSM, .int .i64 c_1.MTU, .int .i64 c_1.MPS, .int .i64 c_1.PeerMTU, .int .i64 c_1.PeerMPS, .int .i64 c_1.TxCredits, .int .i64 c_1.RxCredits, .int .i64 c_1.Given, .slice A_2 (List.length c_1.Out) k_3, .int .i64 c_1.Sent, .slice A_5 (List.length c_1.In) k_6, .int .i64 c_1.Want, .bool c_1.Failed], .int .i64 9]) rfl ⟨rv1_cell Try.isAgg26 Try.sizeOf26 rfl hb_10 rfl, rv1_tmp rfl, trivial⟩ ?_)
    have T : TR U0 [some b_10, some b_9] w [] w [] := TR.pick [] rfl
    have C' : Ctx U0 [] w0 [] _ := C.pick [] (by decide) rfl
    replace f_4 := T.sl f_4
    replace f_7 := T.sl f_7
    clear T; replace C := C'; clear C'
    exact ⟨_, rfl, A_2, k_3, A_5, k_6, rfl, C, f_4, f_7⟩
  · replace hp := if_f hp hc
    clear hc
    refine WC.skipThen ?_
    refine WC.seq ?_
    refine WC.seq ?_
    refine WC.region ?_
    refine WL.val (rv_move rfl) rfl ?_
    refine WL.val (rv_lss rfl rfl) rfl ?_
    refine WL.val (rv_move rfl) rfl ?_
    refine WL.cutAt 6 (fun a w' => w = w' ∧ Holds 29 [(1, .int .i64 n_8), (2, .pointer (some ⟨b_9, 0, none⟩)), (4, .pointer (some ⟨b_10, 0, none⟩)), (17, .bool ((decide (n_8 < 1)) || (decide (n_8 > (w64 (65535 - c_1.TxCredits))))))] a) ?_ ?_
    · rcases Bool.eq_false_or_eq_true (decide (n_8 < 1)) with hg_11 | hg_11
      · refine WL.no rfl rfl hg_11 rfl ?_
        refine WL.no rfl rfl hg_11 rfl ?_
        refine WL.no rfl rfl hg_11 rfl ?_
        refine WL.no rfl rfl hg_11 rfl ?_
        refine WL.no rfl rfl hg_11 rfl ?_
        refine WL.val (rv_pick_t rfl hg_11 rfl) rfl ?_
        refine WL.nil (fun a ha => ?_)
        exact ⟨rfl, ha.sub ⟨rfl, rfl, rfl, or_t hg_11, trivial⟩⟩
      · refine WL.yes rfl rfl hg_11 ?_
        refine WL.val (rv_move rfl) rfl ?_
        refine WL.yes rfl rfl hg_11 ?_
        refine WL.val (rv_fieldAddr FA26_7 rfl rfl) rfl ?_
        refine WL.yes rfl rfl hg_11 ?_
        refine WL.val (rv_load1 Try.isAgg3 rfl hb_9 rfl) rfl ?_
        refine WL.yes rfl rfl hg_11 ?_
        refine WL.val (rv_sub rfl rfl (wrap_i64 _)) rfl ?_
        refine WL.yes rfl rfl hg_11 ?_
        refine WL.val (rv_gtr rfl rfl) rfl ?_
        refine WL.val (rv_pick_f rfl hg_11 rfl) rfl ?_
        refine WL.nil (fun a ha => ?_)
        exact ⟨rfl, ha.sub ⟨rfl, rfl, rfl, or_f hg_11, trivial⟩⟩
    · rintro a w' ⟨rfl, ha⟩
      refine WL.ofJ (l := [(1, .int .i64 n_8), (2, .pointer (some ⟨b_9, 0, none⟩)), (4, .pointer (some ⟨b_10, 0, none⟩)), (17, .bool ((decide (n_8 < 1)) || (decide (n_8 > (w64 (65535 - c_1.TxCredits))))))]) ?_ ha
      refine WL.nilThen ?_
      refine WC.cond rfl (fun hc => ?_) (fun hc => ?_)
      · replace hp := if_t hp hc
        clear hc
        refine WC.seq ?_
        refine WC.region ?_
        refine WL.val (rv_fieldAddr FA26_14 rfl rfl) rfl ?_
        refine WL.storeK (rs_store (i := 1) (cs' := [.int .u16 c_1.Local, .int .u16 c_1.Remote, .int .u16 c_1.PSM, .int .i64 c_1.MTU, .int .i64 c_1.MPS, .int .i64 c_1.PeerMTU, .int .i64 c_1.PeerMPS, .int .i64 c_1.TxCredits, .int .i64 c_1.RxCredits, .int .i64 c_1.Given, .slice A_2 (List.length c_1.Out) k_3, .int .i64 c_1.Sent, .slice A_5 (List.length c_1.In) k_6, .int .i64 c_1.Want, .bool true]) Try.sizeOf4 rfl rfl rfl rfl rfl hb_9 rfl C rfl rfl) ?_
        rintro w ⟨hb_9, C', T⟩
        replace f_4 := T.sl f_4
        replace f_7 := T.sl f_7
        replace hb_10 := T.blk (C.ne (i := 0) rfl [1] rfl (by decide)) hb_10
        clear T; replace C := C'; clear C'
        refine WL.nilThen ?_
        refine WC.seq ?_
        refine WC.seq ?_
        refine WC.region ?_
        refine WL.val (rv_move rfl) rfl ?_
        refine WL.val (rv_lss rfl rfl) rfl ?_
        refine WL.nilThen ?_
        refine WC.cond rfl (fun hc => ?_) (fun hc => ?_)
        · replace hp := if_t hp hc
          clear hc
          refine WC.seq ?_
          refine WC.region ?_
          refine WL.val (rv_loadN Try.isAgg26 Try.sizeOf26 rfl hb_9 rfl rfl) rfl ?_
          refine WL.storeK (rs_store (i := 0) (cs' := [.int .u16 c_1.Local, .int .u16 c_1.Remote, .int .u16 c_1.PSM, .int .i64 c_1.MTU, .int .i64 c_1.MPS, .int .i64 c_1.PeerMTU, .int .i64 c_1.PeerMPS, .int .i64 c_1.TxCredits, .int .i64 c_1.RxCredits, .int .i64 c_1.Given, .slice A_2 (List.length c_1.Out) k_3, .int .i64 c_1.Sent, .slice A_5 (List.length c_1.In) k_6, .int .i64 c_1.Want, .bool true]) Try.sizeOf26 rfl rfl rfl rfl rfl hb_10 rfl C rfl rfl) ?_
          rintro w ⟨hb_10, C', T⟩
          replace f_4 := T.sl f_4
          replace f_7 := T.sl f_7
          replace hb_9 := T.blk (C.ne (i := 1) rfl [0] rfl (by decide)) hb_9
          clear T; replace C := C'; clear C'
          refine WL.val (rv_assign rfl) rfl ?_
          refine WL.nilThen ?_
          obtain rfl := some_inv' hp
          refine WC.ret (retK (rs := [.cell 4 26, .tmp 5]) (vs := [.agg #[.int .u16 c_1.Local, .int .u16 c_1.Remote, .int .u16 c_1.PSM, .int .i64 c_1.MTU, .int .i64 c_1.MPS, .int .i64 c_1.PeerMTU, .int .i64 c_1.PeerMPS, .int .i64 c_1.TxCredits, .int .i64 c_1.RxCredits, .int .i64 c_1.Given, .slice A_2 (List.length c_1.Out) k_3, .int .i64 c_1.Sent, .slice A_5 (List.length c_1.In) k_6, .int .i64 c_1.Want, .bool true], .int .i64 5]) rfl ⟨rv1_cell Try.isAgg26 Try.sizeOf26 rfl hb_10 rfl, rv1_tmp rfl, trivial⟩ ?_)
          have T : TR U0 [some b_10, some b_9] w [] w [] := TR.pick [] rfl
          have C' : Ctx U0 [] w0 [] _ := C.pick [] (by decide) rfl
          replace f_4 := T.sl f_4
          replace f_7 := T.sl f_7
          clear T; replace C := C'; clear C'
          exact ⟨_, rfl, A_2, k_3, A_5, k_6, rfl, C, f_4, f_7⟩
        · replace hp := if_f hp hc
          clear hc
          refine WC.skipThen ?_
          refine WC.seq ?_
          refine WC.region ?_
          refine WL.val (rv_loadN Try.isAgg26 Try.sizeOf26 rfl hb_9 rfl rfl) rfl ?_
          refine WL.storeK (rs_store (i := 0) (cs' := [.int .u16 c_1.Local, .int .u16 c_1.Remote, .int .u16 c_1.PSM, .int .i64 c_1.MTU, .int .i64 c_1.MPS, .int .i64 c_1.PeerMTU, .int .i64 c_1.PeerMPS, .int .i64 c_1.TxCredits, .int .i64 c_1.RxCredits, .int .i64 c_1.Given, .slice A_2 (List.length c_1.Out) k_3, .int .i64 c_1.Sent, .slice A_5 (List.length c_1.In) k_6, .int .i64 c_1.Want, .bool true]) Try.sizeOf26 rfl rfl rfl rfl rfl hb_10 rfl C rfl rfl) ?_
          rintro w ⟨hb_10, C', T⟩
          replace f_4 := T.sl f_4
          replace f_7 := T.sl f_7
          replace hb_9 := T.blk (C.ne (i := 1) rfl [0] rfl (by decide)) hb_9
          clear T; replace C := C'; clear C'
          refine WL.val (rv_assign rfl) rfl ?_
          refine WL.nilThen ?_
          obtain rfl := some_inv' hp
          refine WC.ret (retK (rs := [.cell 4 26, .tmp 5]) (vs := [.agg #[.int .u16 c_1.Local, .int .u16 c_1.Remote, .int .u16 c_1.PSM, .int .i64 c_1.MTU, .int .i64 c_1.MPS, .int .i64 c_1.PeerMTU, .int .i64 c_1.PeerMPS, .int .i64 c_1.TxCredits, .int .i64 c_1.RxCredits, .int .i64 c_1.Given, .slice A_2 (List.length c_1.Out) k_3, .int .i64 c_1.Sent, .slice A_5 (List.length c_1.In) k_6, .int .i64 c_1.Want, .bool true], .int .i64 19]) rfl ⟨rv1_cell Try.isAgg26 Try.sizeOf26 rfl hb_10 rfl, rv1_tmp rfl, trivial⟩ ?_)
          have T : TR U0 [some b_10, some b_9] w [] w [] := TR.pick [] rfl
          have C' : Ctx U0 [] w0 [] _ := C.pick [] (by decide) rfl
          replace f_4 := T.sl f_4
          replace f_7 := T.sl f_7
          clear T; replace C := C'; clear C'
          exact ⟨_, rfl, A_2, k_3, A_5, k_6, rfl, C, f_4, f_7⟩
      · replace hp := if_f hp hc
        clear hc
        refine WC.skipThen ?_
        refine WC.seq ?_
        refine WC.region ?_
        refine WL.val (rv_fieldAddr FA26_7 rfl rfl) rfl ?_
        refine WL.val (rv_load1 Try.isAgg3 rfl hb_9 rfl) rfl ?_
        refine WL.val (rv_move rfl) rfl ?_
        refine WL.val (rv_add rfl rfl (wrap_i64 _)) rfl ?_
        refine WL.val (rv_fieldAddr FA26_7 rfl rfl) rfl ?_
        refine WL.storeK (rs_store (i := 1) (cs' := [.int .u16 c_1.Local, .int .u16 c_1.Remote, .int .u16 c_1.PSM, .int .i64 c_1.MTU, .int .i64 c_1.MPS, .int .i64 c_1.PeerMTU, .int .i64 c_1.PeerMPS, .int .i64 (w64 (c_1.TxCredits + n_8)), .int .i64 c_1.RxCredits, .int .i64 c_1.Given, .slice A_2 (List.length c_1.Out) k_3, .int .i64 c_1.Sent, .slice A_5 (List.length c_1.In) k_6, .int .i64 c_1.Want, .bool c_1.Failed]) Try.sizeOf3 rfl rfl rfl rfl rfl hb_9 rfl C rfl rfl) ?_
        rintro w ⟨hb_9, C', T⟩
        replace f_4 := T.sl f_4
        replace f_7 := T.sl f_7
        replace hb_10 := T.blk (C.ne (i := 0) rfl [1] rfl (by decide)) hb_10
        clear T; replace C := C'; clear C'
        refine WL.nilThen ?_
        refine WC.seq ?_
        refine WC.region ?_
        refine WL.val (rv_loadN Try.isAgg26 Try.sizeOf26 rfl hb_9 rfl rfl) rfl ?_
        refine WL.storeK (rs_store (i := 0) (cs' := [.int .u16 c_1.Local, .int .u16 c_1.Remote, .int .u16 c_1.PSM, .int .i64 c_1.MTU, .int .i64 c_1.MPS, .int .i64 c_1.PeerMTU, .int .i64 c_1.PeerMPS, .int .i64 (w64 (c_1.TxCredits + n_8)), .int .i64 c_1.RxCredits, .int .i64 c_1.Given, .slice A_2 (List.length c_1.Out) k_3, .int .i64 c_1.Sent, .slice A_5 (List.length c_1.In) k_6, .int .i64 c_1.Want, .bool c_1.Failed]) Try.sizeOf26 rfl rfl rfl rfl rfl hb_10 rfl C rfl rfl) ?_
        rintro w ⟨hb_10, C', T⟩
        replace f_4 := T.sl f_4
        replace f_7 := T.sl f_7
        replace hb_9 := T.blk (C.ne (i := 1) rfl [0] rfl (by decide)) hb_9
        clear T; replace C := C'; clear C'
        refine WL.val (rv_assign rfl) rfl ?_
        refine WL.nilThen ?_
        obtain rfl := some_inv' hp
        refine WC.ret (retK (rs := [.cell 4 26, .tmp 5]) (vs := [.agg #[.int .u16 c_1.Local, .int .u16 c_1.Remote, .int .u16 c_1.PSM, .int .i64 c_1.MTU, .int .i64 c_1.MPS, .int .i64 c_1.PeerMTU, .int .i64 c_1.PeerMPS, .int .i64 (w64 (c_1.TxCredits + n_8)), .int .i64 c_1.RxCredits, .int .i64 c_1.Given, .slice A_2 (List.length c_1.Out) k_3, .int .i64 c_1.Sent, .slice A_5 (List.length c_1.In) k_6, .int .i64 c_1.Want, .bool c_1.Failed], .int .i64 0]) rfl ⟨rv1_cell Try.isAgg26 Try.sizeOf26 rfl hb_10 rfl, rv1_tmp rfl, trivial⟩ ?_)
        have T : TR U0 [some b_10, some b_9] w [] w [] := TR.pick [] rfl
        have C' : Ctx U0 [] w0 [] _ := C.pick [] (by decide) rfl
        replace f_4 := T.sl f_4
        replace f_7 := T.sl f_7
        clear T; replace C := C'; clear C'
        exact ⟨_, rfl, A_2, k_3, A_5, k_6, rfl, C, f_4, f_7⟩

theorem ok_sdu_positions (F : Nat) (U0 : Nat → Prop) (w0 : World) (c_1 : T_api_Channel) (A_2 : Option Addr) (k_3 : Nat) (A_5 : Option Addr) (k_6 : Nat) (C : Ctx U0 [] w0 [] w0) (f_4 : Sl 1 (RSl 1 (RInt .u8)) (Mu U0 []) w0 A_2 k_3 c_1.Out) (f_7 : Sl 1 (RInt .u8) (Mu U0 []) w0 A_5 k_6 c_1.In) (r : Int) (hp : sdu_positions F c_1 = some r) :
    Calls Try.prog 42 #[.agg #[.int .u16 c_1.Local, .int .u16 c_1.Remote, .int .u16 c_1.PSM, .int .i64 c_1.MTU, .int .i64 c_1.MPS, .int .i64 c_1.PeerMTU, .int .i64 c_1.PeerMPS, .int .i64 c_1.TxCredits, .int .i64 c_1.RxCredits, .int .i64 c_1.Given, .slice A_2 (List.length c_1.Out) k_3, .int .i64 c_1.Sent, .slice A_5 (List.length c_1.In) k_6, .int .i64 c_1.Want, .bool c_1.Failed]] w0 fun e w => ∃ v, e = .returned v ∧ (v = .int .i64 r) ∧ (Ctx U0 [] w0 [] w) := by
  refine calls_enter (vs := [.agg #[.int .u16 c_1.Local, .int .u16 c_1.Remote, .int .u16 c_1.PSM, .int .i64 c_1.MTU, .int .i64 c_1.MPS, .int .i64 c_1.PeerMTU, .int .i64 c_1.PeerMPS, .int .i64 c_1.TxCredits, .int .i64 c_1.RxCredits, .int .i64 c_1.Given, .slice A_2 (List.length c_1.Out) k_3, .int .i64 c_1.Sent, .slice A_5 (List.length c_1.In) k_6, .int .i64 c_1.Want, .bool c_1.Failed]]) Try.func42 rfl Try.ntmps42 rfl ?_
  refine WC.prune (l' := [(0, .agg #[.int .u16 c_1.Local, .int .u16 c_1.Remote, .int .u16 c_1.PSM, .int .i64 c_1.MTU, .int .i64 c_1.MPS, .int .i64 c_1.PeerMTU, .int .i64 c_1.PeerMPS, .int .i64 c_1.TxCredits, .int .i64 c_1.RxCredits, .int .i64 c_1.Given, .slice A_2 (List.length c_1.Out) k_3, .int .i64 c_1.Sent, .slice A_5 (List.length c_1.In) k_6, .int .i64 c_1.Want, .bool c_1.Failed])]) ⟨rfl, trivial⟩ ?_
  skip
  refine WC.seq ?_
  refine WC.region ?_
  refine WL.world (rw_box rfl rfl C) rfl ?_
  rintro v w ⟨b_8, rfl, hb_8, C', T⟩
  replace C' : Ctx U0 [] w0 [some b_8] _ := C'
  replace T : TR U0 [] _ [some b_8] _ [] := T
  replace hb_8 : Blk _ b_8 26 [.int .u16 c_1.Local, .int .u16 c_1.Remote, .int .u16 c_1.PSM, .int .i64 c_1.MTU, .int .i64 c_1.MPS, .int .i64 c_1.PeerMTU, .int .i64 c_1.PeerMPS, .int .i64 c_1.TxCredits, .int .i64 c_1.RxCredits, .int .i64 c_1.Given, .slice A_2 (List.length c_1.Out) k_3, .int .i64 c_1.Sent, .slice A_5 (List.length c_1.In) k_6, .int .i64 c_1.Want, .bool c_1.Failed] := hb_8
  replace f_4 := T.sl f_4
  replace f_7 := T.sl f_7
  clear T; replace C := C'; clear C'
  refine WL.val (rv_assign rfl) rfl ?_
  refine WL.nilThen ?_
  refine WC.seq ?_
  refine WC.region ?_
  refine WL.val (rv_assign rfl) rfl ?_
  refine WL.nilThen ?_
  refine WC.seqCut (fun a w => ∃ (x_9 : Int), (sdu_positions_j1 F c_1 x_9 = some r) ∧ (Holds 51 [(1, .pointer (some ⟨b_8, 0, none⟩)), (3, .int .i64 x_9)] a) ∧ (Ctx U0 [] w0 [some b_8] w) ∧ (Sl 1 (RSl 1 (RInt .u8)) (Mu U0 [some b_8]) w A_2 k_3 c_1.Out) ∧ (Sl 1 (RInt .u8) (Mu U0 [some b_8]) w A_5 k_6 c_1.In) ∧ (Blk w b_8 26 [.int .u16 c_1.Local, .int .u16 c_1.Remote, .int .u16 c_1.PSM, .int .i64 c_1.MTU, .int .i64 c_1.MPS, .int .i64 c_1.PeerMTU, .int .i64 c_1.PeerMPS, .int .i64 c_1.TxCredits, .int .i64 c_1.RxCredits, .int .i64 c_1.Given, .slice A_2 (List.length c_1.Out) k_3, .int .i64 c_1.Sent, .slice A_5 (List.length c_1.In) k_6, .int .i64 c_1.Want, .bool c_1.Failed])) ?_ ?_
  · refine WC.seq ?_
    refine WC.region ?_
    refine WL.val (rv_fieldAddr FA26_10 rfl rfl) rfl ?_
    refine WL.val (rv_load1 Try.isAgg23 rfl hb_8 rfl) rfl ?_
    refine WL.val (rv_len (dt := c_1.Out) Try.underlying23 rfl) rfl ?_
    refine WL.val (rv_gtr rfl rfl) rfl ?_
    refine WL.nilThen ?_
    refine WC.cond rfl (fun hc => ?_) (fun hc => ?_)
    · replace hp := if_t hp hc
      clear hc
      refine WC.region ?_
      refine WL.val (rv_fieldAddr FA26_10 rfl rfl) rfl ?_
      refine WL.val (rv_load1 Try.isAgg23 rfl hb_8 rfl) rfl ?_
      replace hp := bind_inv hp
      obtain ⟨x_19, e_x_19, hp⟩ := hp
      refine WL.ixSl (dt := c_1.Out) Try.underlying23 Try.sizeOf24 rfl rfl rfl f_4 e_x_19 rfl ?_
      intro d_20 es_21 f_22 hl hr
      obtain ⟨A_23, k_24, rfl, f_25⟩ := hr
      clear hl
      refine WL.val (rv_loadA1 (ad := d_20) (o := 0) Try.isAgg24 rfl f_22 rfl) rfl ?_
      refine WL.val (rv_len (dt := x_19) Try.underlying24 rfl) rfl ?_
      refine WL.val (rv_add rfl rfl (wrap_i64 _)) rfl ?_
      refine WL.val (rv_assign rfl) rfl ?_
      refine WL.nil (fun a ha => ?_)
      exact ⟨w64 (1 + (len x_19)), hp, ha.sub ⟨rfl, rfl, trivial⟩, C, f_4, f_7, hb_8⟩
    · replace hp := if_f hp hc
      clear hc
      refine WC.skip (fun a ha => ?_)
      exact ⟨0, hp, ha.sub ⟨rfl, rfl, trivial⟩, C, f_4, f_7, hb_8⟩
  · rintro a w ⟨x_9, hp, ha, C, f_4, f_7, hb_8⟩
    refine WC.ofJ (l := [(1, .pointer (some ⟨b_8, 0, none⟩)), (3, .int .i64 x_9)]) ?_ ha
    refine WC.seq ?_
    refine WC.seq ?_
    refine WC.region ?_
    refine WL.val (rv_fieldAddr FA26_11 rfl rfl) rfl ?_
    refine WL.val (rv_load1 Try.isAgg3 rfl hb_8 rfl) rfl ?_
    refine WL.val (rv_move rfl) rfl ?_
    replace hp := bind_inv hp
    obtain ⟨x_10, e_x_10, hp⟩ := hp
    refine WL.call (rc_func Try.call41 rfl) (ok_sdu_in F (Mu U0 [some b_8]) _ c_1.Sent 0 x_9 (C.give [0] [] (by decide) rfl rfl (by decide)) _ e_x_10) rfl ?_
    rintro v w ⟨rfl, D⟩
    obtain ⟨C', T⟩ := C.join D [0] [] (by decide) rfl rfl (by decide)
    replace C' : Ctx U0 [] w0 [some b_8] _ := C'
    replace T : TR U0 [some b_8] _ [some b_8] _ [] := T
    replace f_4 := T.sl f_4
    replace f_7 := T.sl f_7
    replace hb_8 := T.blk ne0 hb_8
    clear T; replace C := C'; clear C'
    clear D
    refine WL.val (rv_not rfl) rfl ?_
    refine WL.val (rv_move rfl) rfl ?_
    obtain ⟨z_12, hz, hpr⟩ := bind_inv hp
    clear hp
    refine WL.cutAt 7 (fun a w => (True) ∧ (Holds 51 [(1, .pointer (some ⟨b_8, 0, none⟩)), (26, .bool z_12)] a) ∧ (Ctx U0 [] w0 [some b_8] w) ∧ (Sl 1 (RSl 1 (RInt .u8)) (Mu U0 [some b_8]) w A_2 k_3 c_1.Out) ∧ (Sl 1 (RInt .u8) (Mu U0 [some b_8]) w A_5 k_6 c_1.In) ∧ (Blk w b_8 26 [.int .u16 c_1.Local, .int .u16 c_1.Remote, .int .u16 c_1.PSM, .int .i64 c_1.MTU, .int .i64 c_1.MPS, .int .i64 c_1.PeerMTU, .int .i64 c_1.PeerMPS, .int .i64 c_1.TxCredits, .int .i64 c_1.RxCredits, .int .i64 c_1.Given, .slice A_2 (List.length c_1.Out) k_3, .int .i64 c_1.Sent, .slice A_5 (List.length c_1.In) k_6, .int .i64 c_1.Want, .bool c_1.Failed])) ?_ ?_
    · have hp := hz
      rcases Bool.eq_false_or_eq_true ((!x_10)) with hg_11 | hg_11
      · replace hp := if_t hp hg_11
        refine WL.no rfl rfl hg_11 rfl ?_
        refine WL.no rfl rfl hg_11 rfl ?_
        refine WL.no rfl rfl hg_11 rfl ?_
        refine WL.no rfl rfl hg_11 rfl ?_
        refine WL.no rfl rfl hg_11 rfl ?_
        refine WL.no rfl rfl hg_11 rfl ?_
        refine WL.val (rv_pick_t rfl hg_11 rfl) rfl ?_
        refine WL.nil (fun a ha => ?_)
        obtain rfl := some_inv' hp
        exact ⟨trivial, ha.sub ⟨rfl, rfl, trivial⟩, C, f_4, f_7, hb_8⟩
      · replace hp := if_f hp hg_11
        refine WL.yes rfl rfl hg_11 ?_
        refine WL.val (rv_fieldAddr FA26_13 rfl rfl) rfl ?_
        refine WL.yes rfl rfl hg_11 ?_
        refine WL.val (rv_load1 Try.isAgg3 rfl hb_8 rfl) rfl ?_
        refine WL.yes rfl rfl hg_11 ?_
        refine WL.val (rv_fieldAddr FA26_3 rfl rfl) rfl ?_
        refine WL.yes rfl rfl hg_11 ?_
        refine WL.val (rv_load1 Try.isAgg3 rfl hb_8 rfl) rfl ?_
        replace hp := bind_inv hp
        obtain ⟨x_18, e_x_18, hp⟩ := hp
        refine WL.yes rfl rfl hg_11 ?_
        refine WL.call (rc_func Try.call41 rfl) (ok_sdu_in F (Mu U0 [some b_8]) _ c_1.Want (-1) c_1.MTU (C.give [0] [] (by decide) rfl rfl (by decide)) _ e_x_18) rfl ?_
        rintro v w ⟨rfl, D⟩
        obtain ⟨C', T⟩ := C.join D [0] [] (by decide) rfl rfl (by decide)
        replace C' : Ctx U0 [] w0 [some b_8] _ := C'
        replace T : TR U0 [some b_8] _ [some b_8] _ [] := T
        replace f_4 := T.sl f_4
        replace f_7 := T.sl f_7
        replace hb_8 := T.blk ne0 hb_8
        clear T; replace C := C'; clear C'
        clear D
        refine WL.yes rfl rfl hg_11 ?_
        refine WL.val (rv_not rfl) rfl ?_
        refine WL.val (rv_pick_f rfl hg_11 rfl) rfl ?_
        refine WL.nil (fun a ha => ?_)
        obtain rfl := some_inv' hp
        exact ⟨trivial, ha.sub ⟨rfl, rfl, trivial⟩, C, f_4, f_7, hb_8⟩
    · rintro a w ⟨hp, ha, C, f_4, f_7, hb_8⟩
      have hp := hpr; clear hpr hz
      refine WL.ofJ (l := [(1, .pointer (some ⟨b_8, 0, none⟩)), (26, .bool z_12)]) ?_ ha
      refine WL.val (rv_move rfl) rfl ?_
      refine WL.cutAt 10 (fun a w' => w = w' ∧ Holds 51 [(1, .pointer (some ⟨b_8, 0, none⟩)), (37, .bool (z_12 || ((c_1.Want == (-1)) && (decide ((len c_1.In) > 0)))))] a) ?_ ?_
      · rcases Bool.eq_false_or_eq_true (z_12) with hg_13 | hg_13
        · refine WL.no rfl rfl hg_13 rfl ?_
          refine WL.no rfl rfl hg_13 rfl ?_
          refine WL.no rfl rfl hg_13 rfl ?_
          refine WL.no rfl rfl hg_13 rfl ?_
          refine WL.noU rfl rfl rfl ?_
          refine WL.noU rfl rfl rfl ?_
          refine WL.noU rfl rfl rfl ?_
          refine WL.noU rfl rfl rfl ?_
          refine WL.no rfl rfl hg_13 rfl ?_
          refine WL.val (rv_pick_t rfl hg_13 rfl) rfl ?_
          refine WL.nil (fun a ha => ?_)
          exact ⟨rfl, ha.sub ⟨rfl, or_t hg_13, trivial⟩⟩
        · refine WL.yes rfl rfl hg_13 ?_
          refine WL.val (rv_fieldAddr FA26_13 rfl rfl) rfl ?_
          refine WL.yes rfl rfl hg_13 ?_
          refine WL.val (rv_load1 Try.isAgg3 rfl hb_8 rfl) rfl ?_
          refine WL.yes rfl rfl hg_13 ?_
          refine WL.val (rv_eql rfl rfl) rfl ?_
          refine WL.yes rfl rfl hg_13 ?_
          refine WL.val (rv_move rfl) rfl ?_
          refine WL.cutAt 5 (fun a w' => w = w' ∧ Holds 51 [(1, .pointer (some ⟨b_8, 0, none⟩)), (27, .bool z_12), (36, .bool ((c_1.Want == (-1)) && (decide ((len c_1.In) > 0))))] a) ?_ ?_
          · rcases Bool.eq_false_or_eq_true ((c_1.Want == (-1))) with hg_14 | hg_14
            · refine WL.yes rfl rfl hg_14 ?_
              refine WL.val (rv_fieldAddr FA26_12 rfl rfl) rfl ?_
              refine WL.yes rfl rfl hg_14 ?_
              refine WL.val (rv_load1 Try.isAgg24 rfl hb_8 rfl) rfl ?_
              refine WL.yes rfl rfl hg_14 ?_
              refine WL.val (rv_len (dt := c_1.In) Try.underlying24 rfl) rfl ?_
              refine WL.yes rfl rfl hg_14 ?_
              refine WL.val (rv_gtr rfl rfl) rfl ?_
              refine WL.yes rfl rfl hg_13 ?_
              refine WL.val (rv_pick_t rfl hg_14 rfl) rfl ?_
              refine WL.nil (fun a ha => ?_)
              exact ⟨rfl, ha.sub ⟨rfl, rfl, and_t hg_14, trivial⟩⟩
            · refine WL.no rfl rfl hg_14 rfl ?_
              refine WL.no rfl rfl hg_14 rfl ?_
              refine WL.no rfl rfl hg_14 rfl ?_
              refine WL.no rfl rfl hg_14 rfl ?_
              refine WL.yes rfl rfl hg_13 ?_
              refine WL.val (rv_pick_f rfl hg_14 rfl) rfl ?_
              refine WL.nil (fun a ha => ?_)
              exact ⟨rfl, ha.sub ⟨rfl, rfl, and_f hg_14, trivial⟩⟩
          · rintro a w' ⟨rfl, ha⟩
            refine WL.ofJ (l := [(1, .pointer (some ⟨b_8, 0, none⟩)), (27, .bool z_12), (36, .bool ((c_1.Want == (-1)) && (decide ((len c_1.In) > 0))))]) ?_ ha
            refine WL.val (rv_pick_f rfl hg_13 rfl) rfl ?_
            refine WL.nil (fun a ha => ?_)
            exact ⟨rfl, ha.sub ⟨rfl, or_f hg_13, trivial⟩⟩
      · rintro a w' ⟨rfl, ha⟩
        refine WL.ofJ (l := [(1, .pointer (some ⟨b_8, 0, none⟩)), (37, .bool (z_12 || ((c_1.Want == (-1)) && (decide ((len c_1.In) > 0)))))]) ?_ ha
        refine WL.val (rv_move rfl) rfl ?_
        refine WL.cutAt 12 (fun a w' => w = w' ∧ Holds 51 [(50, .bool ((z_12 || ((c_1.Want == (-1)) && (decide ((len c_1.In) > 0)))) || ((c_1.Want != (-1)) && (decide ((len c_1.In) ≥ c_1.Want)))))] a) ?_ ?_
        · rcases Bool.eq_false_or_eq_true ((z_12 || ((c_1.Want == (-1)) && (decide ((len c_1.In) > 0))))) with hg_15 | hg_15
          · refine WL.no rfl rfl hg_15 rfl ?_
            refine WL.no rfl rfl hg_15 rfl ?_
            refine WL.no rfl rfl hg_15 rfl ?_
            refine WL.no rfl rfl hg_15 rfl ?_
            refine WL.noU rfl rfl rfl ?_
            refine WL.noU rfl rfl rfl ?_
            refine WL.noU rfl rfl rfl ?_
            refine WL.noU rfl rfl rfl ?_
            refine WL.noU rfl rfl rfl ?_
            refine WL.noU rfl rfl rfl ?_
            refine WL.no rfl rfl hg_15 rfl ?_
            refine WL.val (rv_pick_t rfl hg_15 rfl) rfl ?_
            refine WL.nil (fun a ha => ?_)
            exact ⟨rfl, ha.sub ⟨or_t hg_15, trivial⟩⟩
          · refine WL.yes rfl rfl hg_15 ?_
            refine WL.val (rv_fieldAddr FA26_13 rfl rfl) rfl ?_
            refine WL.yes rfl rfl hg_15 ?_
            refine WL.val (rv_load1 Try.isAgg3 rfl hb_8 rfl) rfl ?_
            refine WL.yes rfl rfl hg_15 ?_
            refine WL.val (rv_neq rfl rfl) rfl ?_
            refine WL.yes rfl rfl hg_15 ?_
            refine WL.val (rv_move rfl) rfl ?_
            refine WL.cutAt 7 (fun a w' => w = w' ∧ Holds 51 [(38, .bool (z_12 || ((c_1.Want == (-1)) && (decide ((len c_1.In) > 0))))), (49, .bool ((c_1.Want != (-1)) && (decide ((len c_1.In) ≥ c_1.Want))))] a) ?_ ?_
            · rcases Bool.eq_false_or_eq_true ((c_1.Want != (-1))) with hg_16 | hg_16
              · refine WL.yes rfl rfl hg_16 ?_
                refine WL.val (rv_fieldAddr FA26_12 rfl rfl) rfl ?_
                refine WL.yes rfl rfl hg_16 ?_
                refine WL.val (rv_load1 Try.isAgg24 rfl hb_8 rfl) rfl ?_
                refine WL.yes rfl rfl hg_16 ?_
                refine WL.val (rv_len (dt := c_1.In) Try.underlying24 rfl) rfl ?_
                refine WL.yes rfl rfl hg_16 ?_
                refine WL.val (rv_fieldAddr FA26_13 rfl rfl) rfl ?_
                refine WL.yes rfl rfl hg_16 ?_
                refine WL.val (rv_load1 Try.isAgg3 rfl hb_8 rfl) rfl ?_
                refine WL.yes rfl rfl hg_16 ?_
                refine WL.val (rv_geq rfl rfl) rfl ?_
                refine WL.yes rfl rfl hg_15 ?_
                refine WL.val (rv_pick_t rfl hg_16 rfl) rfl ?_
                refine WL.nil (fun a ha => ?_)
                exact ⟨rfl, ha.sub ⟨rfl, and_t hg_16, trivial⟩⟩
              · refine WL.no rfl rfl hg_16 rfl ?_
                refine WL.no rfl rfl hg_16 rfl ?_
                refine WL.no rfl rfl hg_16 rfl ?_
                refine WL.no rfl rfl hg_16 rfl ?_
                refine WL.no rfl rfl hg_16 rfl ?_
                refine WL.no rfl rfl hg_16 rfl ?_
                refine WL.yes rfl rfl hg_15 ?_
                refine WL.val (rv_pick_f rfl hg_16 rfl) rfl ?_
                refine WL.nil (fun a ha => ?_)
                exact ⟨rfl, ha.sub ⟨rfl, and_f hg_16, trivial⟩⟩
            · rintro a w' ⟨rfl, ha⟩
              refine WL.ofJ (l := [(38, .bool (z_12 || ((c_1.Want == (-1)) && (decide ((len c_1.In) > 0))))), (49, .bool ((c_1.Want != (-1)) && (decide ((len c_1.In) ≥ c_1.Want))))]) ?_ ha
              refine WL.val (rv_pick_f rfl hg_15 rfl) rfl ?_
              refine WL.nil (fun a ha => ?_)
              exact ⟨rfl, ha.sub ⟨or_f hg_15, trivial⟩⟩
        · rintro a w' ⟨rfl, ha⟩
          refine WL.ofJ (l := [(50, .bool ((z_12 || ((c_1.Want == (-1)) && (decide ((len c_1.In) > 0)))) || ((c_1.Want != (-1)) && (decide ((len c_1.In) ≥ c_1.Want)))))]) ?_ ha
          refine WL.nilThen ?_
          refine WC.cond rfl (fun hc => ?_) (fun hc => ?_)
          · replace hp := if_t hp hc
            clear hc
            refine WC.seq ?_
            refine WC.region ?_
            refine WL.val (rv_assign rfl) rfl ?_
            refine WL.nilThen ?_
            obtain rfl := some_inv' hp
            refine WC.ret (retK (rs := [.tmp 2]) (vs := [.int .i64 1]) rfl ⟨rv1_tmp rfl, trivial⟩ ?_)
            have T : TR U0 [some b_8] w [] w [] := TR.pick [] rfl
            have C' : Ctx U0 [] w0 [] _ := C.pick [] (by decide) rfl
            clear T; replace C := C'; clear C'
            exact ⟨_, rfl, rfl, C⟩
          · replace hp := if_f hp hc
            clear hc
            refine WC.skipThen ?_
            refine WC.seq ?_
            refine WC.region ?_
            refine WL.val (rv_assign rfl) rfl ?_
            refine WL.nilThen ?_
            obtain rfl := some_inv' hp
            refine WC.ret (retK (rs := [.tmp 2]) (vs := [.int .i64 0]) rfl ⟨rv1_tmp rfl, trivial⟩ ?_)
            have T : TR U0 [some b_8] w [] w [] := TR.pick [] rfl
            have C' : Ctx U0 [] w0 [] _ := C.pick [] (by decide) rfl
            clear T; replace C := C'; clear C'
            exact ⟨_, rfl, rfl, C⟩

theorem ok_sdu_Check (F : Nat) (U0 : Nat → Prop) (w0 : World) (c_1 : T_api_Channel) (A_2 : Option Addr) (k_3 : Nat) (A_5 : Option Addr) (k_6 : Nat) (C : Ctx U0 [] w0 [] w0) (f_4 : Sl 1 (RSl 1 (RInt .u8)) (Mu U0 []) w0 A_2 k_3 c_1.Out) (f_7 : Sl 1 (RInt .u8) (Mu U0 []) w0 A_5 k_6 c_1.In) (r : Int) (hp : sdu_Check F c_1 = some r) :
    Calls Try.prog 28 #[.agg #[.int .u16 c_1.Local, .int .u16 c_1.Remote, .int .u16 c_1.PSM, .int .i64 c_1.MTU, .int .i64 c_1.MPS, .int .i64 c_1.PeerMTU, .int .i64 c_1.PeerMPS, .int .i64 c_1.TxCredits, .int .i64 c_1.RxCredits, .int .i64 c_1.Given, .slice A_2 (List.length c_1.Out) k_3, .int .i64 c_1.Sent, .slice A_5 (List.length c_1.In) k_6, .int .i64 c_1.Want, .bool c_1.Failed]] w0 fun e w => ∃ v, e = .returned v ∧ (v = .int .i64 r) ∧ (Ctx U0 [] w0 [] w) := by
  refine calls_enter (vs := [.agg #[.int .u16 c_1.Local, .int .u16 c_1.Remote, .int .u16 c_1.PSM, .int .i64 c_1.MTU, .int .i64 c_1.MPS, .int .i64 c_1.PeerMTU, .int .i64 c_1.PeerMPS, .int .i64 c_1.TxCredits, .int .i64 c_1.RxCredits, .int .i64 c_1.Given, .slice A_2 (List.length c_1.Out) k_3, .int .i64 c_1.Sent, .slice A_5 (List.length c_1.In) k_6, .int .i64 c_1.Want, .bool c_1.Failed]]) Try.func28 rfl Try.ntmps28 rfl ?_
  refine WC.prune (l' := [(0, .agg #[.int .u16 c_1.Local, .int .u16 c_1.Remote, .int .u16 c_1.PSM, .int .i64 c_1.MTU, .int .i64 c_1.MPS, .int .i64 c_1.PeerMTU, .int .i64 c_1.PeerMPS, .int .i64 c_1.TxCredits, .int .i64 c_1.RxCredits, .int .i64 c_1.Given, .slice A_2 (List.length c_1.Out) k_3, .int .i64 c_1.Sent, .slice A_5 (List.length c_1.In) k_6, .int .i64 c_1.Want, .bool c_1.Failed])]) ⟨rfl, trivial⟩ ?_
  skip
  refine WC.seq ?_
  refine WC.region ?_
  refine WL.world (rw_box rfl rfl C) rfl ?_
  rintro v w ⟨b_8, rfl, hb_8, C', T⟩
  replace C' : Ctx U0 [] w0 [some b_8] _ := C'
  replace T : TR U0 [] _ [some b_8] _ [] := T
  replace hb_8 : Blk _ b_8 26 [.int .u16 c_1.Local, .int .u16 c_1.Remote, .int .u16 c_1.PSM, .int .i64 c_1.MTU, .int .i64 c_1.MPS, .int .i64 c_1.PeerMTU, .int .i64 c_1.PeerMPS, .int .i64 c_1.TxCredits, .int .i64 c_1.RxCredits, .int .i64 c_1.Given, .slice A_2 (List.length c_1.Out) k_3, .int .i64 c_1.Sent, .slice A_5 (List.length c_1.In) k_6, .int .i64 c_1.Want, .bool c_1.Failed] := hb_8
  replace f_4 := T.sl f_4
  replace f_7 := T.sl f_7
  clear T; replace C := C'; clear C'
  refine WL.val (rv_assign rfl) rfl ?_
  refine WL.nilThen ?_
  refine WC.seq ?_
  refine WC.block ?_
  refine WC.seq ?_
  refine WC.region ?_
  refine WL.val (rv_fieldAddr FA26_0 rfl rfl) rfl ?_
  refine WL.val (rv_load1 Try.isAgg22 rfl hb_8 rfl) rfl ?_
  refine WL.val (rv_lss rfl rfl) rfl ?_
  refine WL.val (rv_move rfl) rfl ?_
  refine WL.cutAt 4 (fun a w' => w = w' ∧ Holds 81 [(1, .pointer (some ⟨b_8, 0, none⟩)), (15, .bool ((decide (c_1.Local < 64)) || (decide (c_1.Local > 127))))] a) ?_ ?_
  · rcases Bool.eq_false_or_eq_true (decide (c_1.Local < 64)) with hg_9 | hg_9
    · refine WL.no rfl rfl hg_9 rfl ?_
      refine WL.no rfl rfl hg_9 rfl ?_
      refine WL.no rfl rfl hg_9 rfl ?_
      refine WL.val (rv_pick_t rfl hg_9 rfl) rfl ?_
      refine WL.nil (fun a ha => ?_)
      exact ⟨rfl, ha.sub ⟨rfl, or_t hg_9, trivial⟩⟩
    · refine WL.yes rfl rfl hg_9 ?_
      refine WL.val (rv_fieldAddr FA26_0 rfl rfl) rfl ?_
      refine WL.yes rfl rfl hg_9 ?_
      refine WL.val (rv_load1 Try.isAgg22 rfl hb_8 rfl) rfl ?_
      refine WL.yes rfl rfl hg_9 ?_
      refine WL.val (rv_gtr rfl rfl) rfl ?_
      refine WL.val (rv_pick_f rfl hg_9 rfl) rfl ?_
      refine WL.nil (fun a ha => ?_)
      exact ⟨rfl, ha.sub ⟨rfl, or_f hg_9, trivial⟩⟩
  · rintro a w' ⟨rfl, ha⟩
    refine WL.ofJ (l := [(1, .pointer (some ⟨b_8, 0, none⟩)), (15, .bool ((decide (c_1.Local < 64)) || (decide (c_1.Local > 127))))]) ?_ ha
    refine WL.val (rv_move rfl) rfl ?_
    refine WL.cutAt 4 (fun a w' => w = w' ∧ Holds 81 [(1, .pointer (some ⟨b_8, 0, none⟩)), (20, .bool (((decide (c_1.Local < 64)) || (decide (c_1.Local > 127))) || (decide (c_1.Remote < 64))))] a) ?_ ?_
    · rcases Bool.eq_false_or_eq_true (((decide (c_1.Local < 64)) || (decide (c_1.Local > 127)))) with hg_10 | hg_10
      · refine WL.no rfl rfl hg_10 rfl ?_
        refine WL.no rfl rfl hg_10 rfl ?_
        refine WL.no rfl rfl hg_10 rfl ?_
        refine WL.val (rv_pick_t rfl hg_10 rfl) rfl ?_
        refine WL.nil (fun a ha => ?_)
        exact ⟨rfl, ha.sub ⟨rfl, or_t hg_10, trivial⟩⟩
      · refine WL.yes rfl rfl hg_10 ?_
        refine WL.val (rv_fieldAddr FA26_1 rfl rfl) rfl ?_
        refine WL.yes rfl rfl hg_10 ?_
        refine WL.val (rv_load1 Try.isAgg22 rfl hb_8 rfl) rfl ?_
        refine WL.yes rfl rfl hg_10 ?_
        refine WL.val (rv_lss rfl rfl) rfl ?_
        refine WL.val (rv_pick_f rfl hg_10 rfl) rfl ?_
        refine WL.nil (fun a ha => ?_)
        exact ⟨rfl, ha.sub ⟨rfl, or_f hg_10, trivial⟩⟩
    · rintro a w' ⟨rfl, ha⟩
      refine WL.ofJ (l := [(1, .pointer (some ⟨b_8, 0, none⟩)), (20, .bool (((decide (c_1.Local < 64)) || (decide (c_1.Local > 127))) || (decide (c_1.Remote < 64))))]) ?_ ha
      refine WL.val (rv_move rfl) rfl ?_
      refine WL.cutAt 4 (fun a w' => w = w' ∧ Holds 81 [(1, .pointer (some ⟨b_8, 0, none⟩)), (25, .bool ((((decide (c_1.Local < 64)) || (decide (c_1.Local > 127))) || (decide (c_1.Remote < 64))) || (decide (c_1.Remote > 127))))] a) ?_ ?_
      · rcases Bool.eq_false_or_eq_true ((((decide (c_1.Local < 64)) || (decide (c_1.Local > 127))) || (decide (c_1.Remote < 64)))) with hg_11 | hg_11
        · refine WL.no rfl rfl hg_11 rfl ?_
          refine WL.no rfl rfl hg_11 rfl ?_
          refine WL.no rfl rfl hg_11 rfl ?_
          refine WL.val (rv_pick_t rfl hg_11 rfl) rfl ?_
          refine WL.nil (fun a ha => ?_)
          exact ⟨rfl, ha.sub ⟨rfl, or_t hg_11, trivial⟩⟩
        · refine WL.yes rfl rfl hg_11 ?_
          refine WL.val (rv_fieldAddr FA26_1 rfl rfl) rfl ?_
          refine WL.yes rfl rfl hg_11 ?_
          refine WL.val (rv_load1 Try.isAgg22 rfl hb_8 rfl) rfl ?_
          refine WL.yes rfl rfl hg_11 ?_
          refine WL.val (rv_gtr rfl rfl) rfl ?_
          refine WL.val (rv_pick_f rfl hg_11 rfl) rfl ?_
          refine WL.nil (fun a ha => ?_)
          exact ⟨rfl, ha.sub ⟨rfl, or_f hg_11, trivial⟩⟩
      · rintro a w' ⟨rfl, ha⟩
        refine WL.ofJ (l := [(1, .pointer (some ⟨b_8, 0, none⟩)), (25, .bool ((((decide (c_1.Local < 64)) || (decide (c_1.Local > 127))) || (decide (c_1.Remote < 64))) || (decide (c_1.Remote > 127))))]) ?_ ha
        refine WL.val (rv_assign rfl) rfl ?_
        refine WL.nilThen ?_
        refine WC.cond rfl (fun hc => ?_) (fun hc => ?_)
        · replace hp := if_t hp hc
          clear hc
          refine WC.seq ?_
          refine WC.region ?_
          refine WL.val (rv_assign rfl) rfl ?_
          refine WL.nilThen ?_
          obtain rfl := some_inv' hp
          refine WC.ret (retK (rs := [.tmp 2]) (vs := [.int .i64 5]) rfl ⟨rv1_tmp rfl, trivial⟩ ?_)
          have T : TR U0 [some b_8] w [] w [] := TR.pick [] rfl
          have C' : Ctx U0 [] w0 [] _ := C.pick [] (by decide) rfl
          clear T; replace C := C'; clear C'
          exact ⟨_, rfl, rfl, C⟩
        · replace hp := if_f hp hc
          clear hc
          refine WC.seq ?_
          refine WC.region ?_
          refine WL.val (rv_fieldAddr FA26_2 rfl rfl) rfl ?_
          refine WL.val (rv_load1 Try.isAgg22 rfl hb_8 rfl) rfl ?_
          refine WL.val (rv_eql rfl rfl) rfl ?_
          refine WL.val (rv_assign rfl) rfl ?_
          refine WL.nilThen ?_
          refine WC.cond rfl (fun hc => ?_) (fun hc => ?_)
          · replace hp := if_t hp hc
            clear hc
            refine WC.seq ?_
            refine WC.region ?_
            refine WL.val (rv_assign rfl) rfl ?_
            refine WL.nilThen ?_
            obtain rfl := some_inv' hp
            refine WC.ret (retK (rs := [.tmp 2]) (vs := [.int .i64 1]) rfl ⟨rv1_tmp rfl, trivial⟩ ?_)
            have T : TR U0 [some b_8] w [] w [] := TR.pick [] rfl
            have C' : Ctx U0 [] w0 [] _ := C.pick [] (by decide) rfl
            clear T; replace C := C'; clear C'
            exact ⟨_, rfl, rfl, C⟩
          · replace hp := if_f hp hc
            clear hc
            refine WC.skipThen ?_
            refine WC.seqCut (fun a w => (sdu_Check_j1 F c_1 = some r) ∧ (Holds 81 [(1, .pointer (some ⟨b_8, 0, none⟩))] a) ∧ (Ctx U0 [] w0 [some b_8] w) ∧ (Sl 1 (RSl 1 (RInt .u8)) (Mu U0 [some b_8]) w A_2 k_3 c_1.Out) ∧ (Sl 1 (RInt .u8) (Mu U0 [some b_8]) w A_5 k_6 c_1.In) ∧ (Blk w b_8 26 [.int .u16 c_1.Local, .int .u16 c_1.Remote, .int .u16 c_1.PSM, .int .i64 c_1.MTU, .int .i64 c_1.MPS, .int .i64 c_1.PeerMTU, .int .i64 c_1.PeerMPS, .int .i64 c_1.TxCredits, .int .i64 c_1.RxCredits, .int .i64 c_1.Given, .slice A_2 (List.length c_1.Out) k_3, .int .i64 c_1.Sent, .slice A_5 (List.length c_1.In) k_6, .int .i64 c_1.Want, .bool c_1.Failed])) ?_ ?_
            · refine WC.seq ?_
              refine WC.region ?_
              refine WL.val (rv_fieldAddr FA26_3 rfl rfl) rfl ?_
              refine WL.val (rv_load1 Try.isAgg3 rfl hb_8 rfl) rfl ?_
              refine WL.val (rv_fieldAddr FA26_4 rfl rfl) rfl ?_
              refine WL.val (rv_load1 Try.isAgg3 rfl hb_8 rfl) rfl ?_
              refine WL.val (rv_fieldAddr FA26_5 rfl rfl) rfl ?_
              refine WL.val (rv_load1 Try.isAgg3 rfl hb_8 rfl) rfl ?_
              refine WL.val (rv_fieldAddr FA26_6 rfl rfl) rfl ?_
              refine WL.val (rv_load1 Try.isAgg3 rfl hb_8 rfl) rfl ?_
              refine WL.val (rv_buildArr (cs := [.int .i64 c_1.MTU, .int .i64 c_1.MPS, .int .i64 c_1.PeerMTU, .int .i64 c_1.PeerMPS]) Try.zeroValue67 Try.underlying67 Try.sizeOf3 rfl rfl) rfl ?_
              refine WL.val (rv_move rfl) rfl ?_
              refine WL.nilThen ?_
              refine WC.block ?_
              obtain ⟨o_32, hi_32, hpo_32⟩ := bind_inv hp
              clear hp
              refine WC.loop (fun n a w => ∃ (x_31 : Int), (iter (fun s => sdu_Check_l32 F c_1 s) n (x_31) = some o_32) ∧ (Holds 81 [(1, .pointer (some ⟨b_8, 0, none⟩)), (38, .agg #[.int .i64 c_1.MTU, .int .i64 c_1.MPS, .int .i64 c_1.PeerMTU, .int .i64 c_1.PeerMPS]), (39, .int .i64 x_31)] a) ∧ (Ctx U0 [] w0 [some b_8] w) ∧ (Sl 1 (RSl 1 (RInt .u8)) (Mu U0 [some b_8]) w A_2 k_3 c_1.Out) ∧ (Sl 1 (RInt .u8) (Mu U0 [some b_8]) w A_5 k_6 c_1.In) ∧ (Blk w b_8 26 [.int .u16 c_1.Local, .int .u16 c_1.Remote, .int .u16 c_1.PSM, .int .i64 c_1.MTU, .int .i64 c_1.MPS, .int .i64 c_1.PeerMTU, .int .i64 c_1.PeerMPS, .int .i64 c_1.TxCredits, .int .i64 c_1.RxCredits, .int .i64 c_1.Given, .slice A_2 (List.length c_1.Out) k_3, .int .i64 c_1.Sent, .slice A_5 (List.length c_1.In) k_6, .int .i64 c_1.Want, .bool c_1.Failed])) F ?_ ?_
              · intro a ha
                exact ⟨0, hi_32, ha.sub ⟨rfl, rfl, rfl, trivial⟩, C, f_4, f_7, hb_8⟩
              · rintro n_32 a w ⟨x_31, hi_32, ha, C, f_4, f_7, hb_8⟩
                obtain ⟨n_32, q_32, rfl, hp, hs_32⟩ := iter_inv hi_32
                replace hp : sdu_Check_l32 F c_1 x_31 = some q_32 := hp
                clear hi_32
                refine WC.ofJ (l := [(1, .pointer (some ⟨b_8, 0, none⟩)), (38, .agg #[.int .i64 c_1.MTU, .int .i64 c_1.MPS, .int .i64 c_1.PeerMTU, .int .i64 c_1.PeerMPS]), (39, .int .i64 x_31)]) ?_ ha
                refine WC.seq ?_
                refine WC.region ?_
                refine WL.val (rv_lss rfl rfl) rfl ?_
                refine WL.nilThen ?_
                refine WC.seq ?_
                refine WC.cond rfl (fun hc => ?_) (fun hc => ?_)
                · replace hp := if_t hp hc
                  clear hc
                  refine WC.skipThen ?_
                  refine WC.seq ?_
                  refine WC.block ?_
                  refine WC.seq ?_
                  refine WC.region ?_
                  replace hp := bind_inv hp
                  obtain ⟨x_33, e_x_33, hp⟩ := hp
                  refine WL.val (rv_index1 Try.underlying67 Try.isAgg3 Try.sizeOf3 rfl rfl rfl (idx_map e_x_33)) rfl ?_
                  refine WL.val (rv_assign rfl) rfl ?_
                  refine WL.nilThen ?_
                  refine WC.seq ?_
                  refine WC.region ?_
                  refine WL.val (rv_move rfl) rfl ?_
                  replace hp := bind_inv hp
                  obtain ⟨x_34, e_x_34, hp⟩ := hp
                  refine WL.call (rc_func Try.call41 rfl) (ok_sdu_in F (Mu U0 [some b_8]) _ x_33 23 4096 (C.give [0] [] (by decide) rfl rfl (by decide)) _ e_x_34) rfl ?_
                  rintro v w ⟨rfl, D⟩
                  obtain ⟨C', T⟩ := C.join D [0] [] (by decide) rfl rfl (by decide)
                  replace C' : Ctx U0 [] w0 [some b_8] _ := C'
                  replace T : TR U0 [some b_8] _ [some b_8] _ [] := T
                  replace f_4 := T.sl f_4
                  replace f_7 := T.sl f_7
                  replace hb_8 := T.blk ne0 hb_8
                  clear T; replace C := C'; clear C'
                  clear D
                  refine WL.val (rv_not rfl) rfl ?_
                  refine WL.nilThen ?_
                  refine WC.cond rfl (fun hc => ?_) (fun hc => ?_)
                  · replace hp := if_t hp hc
                    clear hc
                    refine WC.seq ?_
                    refine WC.region ?_
                    refine WL.val (rv_assign rfl) rfl ?_
                    refine WL.nilThen ?_
                    have ho := done_inv hp hs_32
                    replace hp := hpo_32
                    try rw [ho] at hp
                    obtain rfl := some_inv' hp
                    refine WC.ret (retK (rs := [.tmp 2]) (vs := [.int .i64 5]) rfl ⟨rv1_tmp rfl, trivial⟩ ?_)
                    have T : TR U0 [some b_8] w [] w [] := TR.pick [] rfl
                    have C' : Ctx U0 [] w0 [] _ := C.pick [] (by decide) rfl
                    clear T; replace C := C'; clear C'
                    exact ⟨_, rfl, rfl, C⟩
                  · replace hp := if_f hp hc
                    clear hc
                    refine WC.skipThen ?_
                    refine WC.region ?_
                    refine WL.val (rv_add rfl rfl (wrap_i64 _)) rfl ?_
                    refine WL.val (rv_move rfl) rfl ?_
                    refine WL.nil (fun a ha => ?_)
                    have ho := next_inv hp hs_32
                    exact ⟨n_32, Nat.lt_succ_self _, ⟨w64 (x_31 + 1), ho, ha.sub ⟨rfl, rfl, rfl, trivial⟩, C, f_4, f_7, hb_8⟩⟩
                · replace hp := if_f hp hc
                  clear hc
                  refine WC.exitJ rfl (fun a ha => ?_)
                  have ho := done_inv hp hs_32
                  replace hp := hpo_32
                  try rw [ho] at hp
                  exact ⟨hp, ha.sub ⟨rfl, trivial⟩, C, f_4, f_7, hb_8⟩
            · rintro a w ⟨hp, ha, C, f_4, f_7, hb_8⟩
              refine WC.ofJ (l := [(1, .pointer (some ⟨b_8, 0, none⟩))]) ?_ ha
              refine WC.seq ?_
              refine WC.seq ?_
              refine WC.region ?_
              refine WL.val (rv_fieldAddr FA26_7 rfl rfl) rfl ?_
              refine WL.val (rv_load1 Try.isAgg3 rfl hb_8 rfl) rfl ?_
              replace hp := bind_inv hp
              obtain ⟨x_12, e_x_12, hp⟩ := hp
              refine WL.call (rc_func Try.call41 rfl) (ok_sdu_in F (Mu U0 [some b_8]) _ c_1.TxCredits 0 65535 (C.give [0] [] (by decide) rfl rfl (by decide)) _ e_x_12) rfl ?_
              rintro v w ⟨rfl, D⟩
              obtain ⟨C', T⟩ := C.join D [0] [] (by decide) rfl rfl (by decide)
              replace C' : Ctx U0 [] w0 [some b_8] _ := C'
              replace T : TR U0 [some b_8] _ [some b_8] _ [] := T
              replace f_4 := T.sl f_4
              replace f_7 := T.sl f_7
              replace hb_8 := T.blk ne0 hb_8
              clear T; replace C := C'; clear C'
              clear D
              refine WL.val (rv_not rfl) rfl ?_
              refine WL.val (rv_move rfl) rfl ?_
              obtain ⟨z_14, hz, hpr⟩ := bind_inv hp
              clear hp
              refine WL.cutAt 5 (fun a w => (True) ∧ (Holds 81 [(1, .pointer (some ⟨b_8, 0, none⟩)), (55, .bool z_14)] a) ∧ (Ctx U0 [] w0 [some b_8] w) ∧ (Sl 1 (RSl 1 (RInt .u8)) (Mu U0 [some b_8]) w A_2 k_3 c_1.Out) ∧ (Sl 1 (RInt .u8) (Mu U0 [some b_8]) w A_5 k_6 c_1.In) ∧ (Blk w b_8 26 [.int .u16 c_1.Local, .int .u16 c_1.Remote, .int .u16 c_1.PSM, .int .i64 c_1.MTU, .int .i64 c_1.MPS, .int .i64 c_1.PeerMTU, .int .i64 c_1.PeerMPS, .int .i64 c_1.TxCredits, .int .i64 c_1.RxCredits, .int .i64 c_1.Given, .slice A_2 (List.length c_1.Out) k_3, .int .i64 c_1.Sent, .slice A_5 (List.length c_1.In) k_6, .int .i64 c_1.Want, .bool c_1.Failed])) ?_ ?_
              · have hp := hz
                rcases Bool.eq_false_or_eq_true ((!x_12)) with hg_13 | hg_13
                · replace hp := if_t hp hg_13
                  refine WL.no rfl rfl hg_13 rfl ?_
                  refine WL.no rfl rfl hg_13 rfl ?_
                  refine WL.no rfl rfl hg_13 rfl ?_
                  refine WL.no rfl rfl hg_13 rfl ?_
                  refine WL.val (rv_pick_t rfl hg_13 rfl) rfl ?_
                  refine WL.nil (fun a ha => ?_)
                  obtain rfl := some_inv' hp
                  exact ⟨trivial, ha.sub ⟨rfl, rfl, trivial⟩, C, f_4, f_7, hb_8⟩
                · replace hp := if_f hp hg_13
                  refine WL.yes rfl rfl hg_13 ?_
                  refine WL.val (rv_fieldAddr FA26_8 rfl rfl) rfl ?_
                  refine WL.yes rfl rfl hg_13 ?_
                  refine WL.val (rv_load1 Try.isAgg3 rfl hb_8 rfl) rfl ?_
                  replace hp := bind_inv hp
                  obtain ⟨x_30, e_x_30, hp⟩ := hp
                  refine WL.yes rfl rfl hg_13 ?_
                  refine WL.call (rc_func Try.call41 rfl) (ok_sdu_in F (Mu U0 [some b_8]) _ c_1.RxCredits 0 65535 (C.give [0] [] (by decide) rfl rfl (by decide)) _ e_x_30) rfl ?_
                  rintro v w ⟨rfl, D⟩
                  obtain ⟨C', T⟩ := C.join D [0] [] (by decide) rfl rfl (by decide)
                  replace C' : Ctx U0 [] w0 [some b_8] _ := C'
                  replace T : TR U0 [some b_8] _ [some b_8] _ [] := T
                  replace f_4 := T.sl f_4
                  replace f_7 := T.sl f_7
                  replace hb_8 := T.blk ne0 hb_8
                  clear T; replace C := C'; clear C'
                  clear D
                  refine WL.yes rfl rfl hg_13 ?_
                  refine WL.val (rv_not rfl) rfl ?_
                  refine WL.val (rv_pick_f rfl hg_13 rfl) rfl ?_
                  refine WL.nil (fun a ha => ?_)
                  obtain rfl := some_inv' hp
                  exact ⟨trivial, ha.sub ⟨rfl, rfl, trivial⟩, C, f_4, f_7, hb_8⟩
              · rintro a w ⟨hp, ha, C, f_4, f_7, hb_8⟩
                have hp := hpr; clear hpr hz
                refine WL.ofJ (l := [(1, .pointer (some ⟨b_8, 0, none⟩)), (55, .bool z_14)]) ?_ ha
                refine WL.val (rv_move rfl) rfl ?_
                obtain ⟨z_16, hz, hpr⟩ := bind_inv hp
                clear hp
                refine WL.cutAt 5 (fun a w => (True) ∧ (Holds 81 [(1, .pointer (some ⟨b_8, 0, none⟩)), (61, .bool z_16)] a) ∧ (Ctx U0 [] w0 [some b_8] w) ∧ (Sl 1 (RSl 1 (RInt .u8)) (Mu U0 [some b_8]) w A_2 k_3 c_1.Out) ∧ (Sl 1 (RInt .u8) (Mu U0 [some b_8]) w A_5 k_6 c_1.In) ∧ (Blk w b_8 26 [.int .u16 c_1.Local, .int .u16 c_1.Remote, .int .u16 c_1.PSM, .int .i64 c_1.MTU, .int .i64 c_1.MPS, .int .i64 c_1.PeerMTU, .int .i64 c_1.PeerMPS, .int .i64 c_1.TxCredits, .int .i64 c_1.RxCredits, .int .i64 c_1.Given, .slice A_2 (List.length c_1.Out) k_3, .int .i64 c_1.Sent, .slice A_5 (List.length c_1.In) k_6, .int .i64 c_1.Want, .bool c_1.Failed])) ?_ ?_
                · have hp := hz
                  rcases Bool.eq_false_or_eq_true (z_14) with hg_15 | hg_15
                  · replace hp := if_t hp hg_15
                    refine WL.no rfl rfl hg_15 rfl ?_
                    refine WL.no rfl rfl hg_15 rfl ?_
                    refine WL.no rfl rfl hg_15 rfl ?_
                    refine WL.no rfl rfl hg_15 rfl ?_
                    refine WL.val (rv_pick_t rfl hg_15 rfl) rfl ?_
                    refine WL.nil (fun a ha => ?_)
                    obtain rfl := some_inv' hp
                    exact ⟨trivial, ha.sub ⟨rfl, rfl, trivial⟩, C, f_4, f_7, hb_8⟩
                  · replace hp := if_f hp hg_15
                    refine WL.yes rfl rfl hg_15 ?_
                    refine WL.val (rv_fieldAddr FA26_9 rfl rfl) rfl ?_
                    refine WL.yes rfl rfl hg_15 ?_
                    refine WL.val (rv_load1 Try.isAgg3 rfl hb_8 rfl) rfl ?_
                    replace hp := bind_inv hp
                    obtain ⟨x_28, e_x_28, hp⟩ := hp
                    refine WL.yes rfl rfl hg_15 ?_
                    refine WL.call (rc_func Try.call41 rfl) (ok_sdu_in F (Mu U0 [some b_8]) _ c_1.Given 0 65535 (C.give [0] [] (by decide) rfl rfl (by decide)) _ e_x_28) rfl ?_
                    rintro v w ⟨rfl, D⟩
                    obtain ⟨C', T⟩ := C.join D [0] [] (by decide) rfl rfl (by decide)
                    replace C' : Ctx U0 [] w0 [some b_8] _ := C'
                    replace T : TR U0 [some b_8] _ [some b_8] _ [] := T
                    replace f_4 := T.sl f_4
                    replace f_7 := T.sl f_7
                    replace hb_8 := T.blk ne0 hb_8
                    clear T; replace C := C'; clear C'
                    clear D
                    refine WL.yes rfl rfl hg_15 ?_
                    refine WL.val (rv_not rfl) rfl ?_
                    refine WL.val (rv_pick_f rfl hg_15 rfl) rfl ?_
                    refine WL.nil (fun a ha => ?_)
                    obtain rfl := some_inv' hp
                    exact ⟨trivial, ha.sub ⟨rfl, rfl, trivial⟩, C, f_4, f_7, hb_8⟩
                · rintro a w ⟨hp, ha, C, f_4, f_7, hb_8⟩
                  have hp := hpr; clear hpr hz
                  refine WL.ofJ (l := [(1, .pointer (some ⟨b_8, 0, none⟩)), (61, .bool z_16)]) ?_ ha
                  refine WL.nilThen ?_
                  refine WC.cond rfl (fun hc => ?_) (fun hc => ?_)
                  · replace hp := if_t hp hc
                    clear hc
                    refine WC.seq ?_
                    refine WC.region ?_
                    refine WL.val (rv_assign rfl) rfl ?_
                    refine WL.nilThen ?_
                    obtain rfl := some_inv' hp
                    refine WC.ret (retK (rs := [.tmp 2]) (vs := [.int .i64 5]) rfl ⟨rv1_tmp rfl, trivial⟩ ?_)
                    have T : TR U0 [some b_8] w [] w [] := TR.pick [] rfl
                    have C' : Ctx U0 [] w0 [] _ := C.pick [] (by decide) rfl
                    clear T; replace C := C'; clear C'
                    exact ⟨_, rfl, rfl, C⟩
                  · replace hp := if_f hp hc
                    clear hc
                    refine WC.skipThen ?_
                    refine WC.seq ?_
                    refine WC.seq ?_
                    refine WC.region ?_
                    refine WL.val (rv_fieldAddr FA26_10 rfl rfl) rfl ?_
                    refine WL.val (rv_load1 Try.isAgg23 rfl hb_8 rfl) rfl ?_
                    refine WL.val (rv_len (dt := c_1.Out) Try.underlying23 rfl) rfl ?_
                    refine WL.val (rv_gtr rfl rfl) rfl ?_
                    refine WL.nilThen ?_
                    refine WC.cond rfl (fun hc => ?_) (fun hc => ?_)
                    · replace hp := if_t hp hc
                      clear hc
                      refine WC.seq ?_
                      refine WC.region ?_
                      refine WL.val (rv_assign rfl) rfl ?_
                      refine WL.nilThen ?_
                      obtain rfl := some_inv' hp
                      refine WC.ret (retK (rs := [.tmp 2]) (vs := [.int .i64 4]) rfl ⟨rv1_tmp rfl, trivial⟩ ?_)
                      have T : TR U0 [some b_8] w [] w [] := TR.pick [] rfl
                      have C' : Ctx U0 [] w0 [] _ := C.pick [] (by decide) rfl
                      clear T; replace C := C'; clear C'
                      exact ⟨_, rfl, rfl, C⟩
                    · replace hp := if_f hp hc
                      clear hc
                      refine WC.skipThen ?_
                      refine WC.seqCut (fun a w => (sdu_Check_j2 F c_1 = some r) ∧ (Holds 81 [(1, .pointer (some ⟨b_8, 0, none⟩))] a) ∧ (Ctx U0 [] w0 [some b_8] w) ∧ (Sl 1 (RSl 1 (RInt .u8)) (Mu U0 [some b_8]) w A_2 k_3 c_1.Out) ∧ (Sl 1 (RInt .u8) (Mu U0 [some b_8]) w A_5 k_6 c_1.In) ∧ (Blk w b_8 26 [.int .u16 c_1.Local, .int .u16 c_1.Remote, .int .u16 c_1.PSM, .int .i64 c_1.MTU, .int .i64 c_1.MPS, .int .i64 c_1.PeerMTU, .int .i64 c_1.PeerMPS, .int .i64 c_1.TxCredits, .int .i64 c_1.RxCredits, .int .i64 c_1.Given, .slice A_2 (List.length c_1.Out) k_3, .int .i64 c_1.Sent, .slice A_5 (List.length c_1.In) k_6, .int .i64 c_1.Want, .bool c_1.Failed])) ?_ ?_
                      · refine WC.seq ?_
                        refine WC.region ?_
                        refine WL.val (rv_fieldAddr FA26_10 rfl rfl) rfl ?_
                        refine WL.val (rv_load1 Try.isAgg23 rfl hb_8 rfl) rfl ?_
                        refine WL.val (rv_len (dt := c_1.Out) Try.underlying23 rfl) rfl ?_
                        refine WL.val (rv_move rfl) rfl ?_
                        refine WL.nilThen ?_
                        refine WC.block ?_
                        obtain ⟨o_19, hi_19, hpo_19⟩ := bind_inv hp
                        clear hp
                        refine WC.loop (fun n a w => ∃ (x_18 : Int), (iter (fun s => sdu_Check_l19 F c_1 s) n (x_18) = some o_19) ∧ (Holds 81 [(1, .pointer (some ⟨b_8, 0, none⟩)), (67, .slice A_2 (List.length c_1.Out) k_3), (68, .int .i64 (len c_1.Out)), (69, .int .i64 x_18)] a) ∧ (Ctx U0 [] w0 [some b_8] w) ∧ (Sl 1 (RSl 1 (RInt .u8)) (Mu U0 [some b_8]) w A_2 k_3 c_1.Out) ∧ (Sl 1 (RInt .u8) (Mu U0 [some b_8]) w A_5 k_6 c_1.In) ∧ (Blk w b_8 26 [.int .u16 c_1.Local, .int .u16 c_1.Remote, .int .u16 c_1.PSM, .int .i64 c_1.MTU, .int .i64 c_1.MPS, .int .i64 c_1.PeerMTU, .int .i64 c_1.PeerMPS, .int .i64 c_1.TxCredits, .int .i64 c_1.RxCredits, .int .i64 c_1.Given, .slice A_2 (List.length c_1.Out) k_3, .int .i64 c_1.Sent, .slice A_5 (List.length c_1.In) k_6, .int .i64 c_1.Want, .bool c_1.Failed])) F ?_ ?_
                        · intro a ha
                          exact ⟨0, hi_19, ha.sub ⟨rfl, rfl, rfl, rfl, trivial⟩, C, f_4, f_7, hb_8⟩
                        · rintro n_19 a w ⟨x_18, hi_19, ha, C, f_4, f_7, hb_8⟩
                          obtain ⟨n_19, q_19, rfl, hp, hs_19⟩ := iter_inv hi_19
                          replace hp : sdu_Check_l19 F c_1 x_18 = some q_19 := hp
                          clear hi_19
                          refine WC.ofJ (l := [(1, .pointer (some ⟨b_8, 0, none⟩)), (67, .slice A_2 (List.length c_1.Out) k_3), (68, .int .i64 (len c_1.Out)), (69, .int .i64 x_18)]) ?_ ha
                          refine WC.seq ?_
                          refine WC.region ?_
                          refine WL.val (rv_lss rfl rfl) rfl ?_
                          refine WL.nilThen ?_
                          refine WC.seq ?_
                          refine WC.cond rfl (fun hc => ?_) (fun hc => ?_)
                          · replace hp := if_t hp hc
                            clear hc
                            refine WC.skipThen ?_
                            refine WC.seq ?_
                            refine WC.block ?_
                            refine WC.seq ?_
                            refine WC.region ?_
                            replace hp := bind_inv hp
                            obtain ⟨x_20, e_x_20, hp⟩ := hp
                            refine WL.ixSl (dt := c_1.Out) Try.underlying23 Try.sizeOf24 rfl rfl rfl f_4 e_x_20 rfl ?_
                            intro d_21 es_22 f_23 hl hr
                            obtain ⟨A_24, k_25, rfl, f_26⟩ := hr
                            clear hl
                            refine WL.val (rv_loadA1 (ad := d_21) (o := 0) Try.isAgg24 rfl f_23 rfl) rfl ?_
                            refine WL.val (rv_assign rfl) rfl ?_
                            refine WL.nilThen ?_
                            refine WC.seq ?_
                            refine WC.region ?_
                            refine WL.val (rv_move rfl) rfl ?_
                            refine WL.val (rv_len (dt := x_20) Try.underlying24 rfl) rfl ?_
                            refine WL.val (rv_fieldAddr FA26_5 rfl rfl) rfl ?_
                            refine WL.val (rv_load1 Try.isAgg3 rfl hb_8 rfl) rfl ?_
                            refine WL.val (rv_gtr rfl rfl) rfl ?_
                            refine WL.nilThen ?_
                            refine WC.cond rfl (fun hc => ?_) (fun hc => ?_)
                            · replace hp := if_t hp hc
                              clear hc
                              refine WC.seq ?_
                              refine WC.region ?_
                              refine WL.val (rv_assign rfl) rfl ?_
                              refine WL.nilThen ?_
                              have ho := done_inv hp hs_19
                              replace hp := hpo_19
                              try rw [ho] at hp
                              obtain rfl := some_inv' hp
                              refine WC.ret (retK (rs := [.tmp 2]) (vs := [.int .i64 4]) rfl ⟨rv1_tmp rfl, trivial⟩ ?_)
                              have T : TR U0 [some b_8] w [] w [] := TR.pick [] rfl
                              have C' : Ctx U0 [] w0 [] _ := C.pick [] (by decide) rfl
                              clear T; replace C := C'; clear C'
                              exact ⟨_, rfl, rfl, C⟩
                            · replace hp := if_f hp hc
                              clear hc
                              refine WC.skipThen ?_
                              refine WC.region ?_
                              refine WL.val (rv_add rfl rfl (wrap_i64 _)) rfl ?_
                              refine WL.val (rv_move rfl) rfl ?_
                              refine WL.nil (fun a ha => ?_)
                              have ho := next_inv hp hs_19
                              exact ⟨n_19, Nat.lt_succ_self _, ⟨w64 (x_18 + 1), ho, ha.sub ⟨rfl, rfl, rfl, rfl, trivial⟩, C, f_4, f_7, hb_8⟩⟩
                          · replace hp := if_f hp hc
                            clear hc
                            refine WC.exitJ rfl (fun a ha => ?_)
                            have ho := done_inv hp hs_19
                            replace hp := hpo_19
                            try rw [ho] at hp
                            exact ⟨hp, ha.sub ⟨rfl, trivial⟩, C, f_4, f_7, hb_8⟩
                      · rintro a w ⟨hp, ha, C, f_4, f_7, hb_8⟩
                        refine WC.ofJ (l := [(1, .pointer (some ⟨b_8, 0, none⟩))]) ?_ ha
                        refine WC.seq ?_
                        refine WC.region ?_
                        refine WL.val (rv_loadN Try.isAgg26 Try.sizeOf26 rfl hb_8 rfl rfl) rfl ?_
                        replace hp := bind_inv hp
                        obtain ⟨x_17, e_x_17, hp⟩ := hp
                        refine WL.call (rc_func Try.call42 rfl) (ok_sdu_positions F (Mu U0 [some b_8]) _ c_1 A_2 k_3 A_5 k_6 (C.give [0] [] (by decide) rfl rfl (by decide)) (f_4.mu (mu_give [0] [] rfl rfl)) (f_7.mu (mu_give [0] [] rfl rfl)) _ e_x_17) rfl ?_
                        rintro v w ⟨rfl, D⟩
                        obtain ⟨C', T⟩ := C.join D [0] [] (by decide) rfl rfl (by decide)
                        replace C' : Ctx U0 [] w0 [some b_8] _ := C'
                        replace T : TR U0 [some b_8] _ [some b_8] _ [] := T
                        replace f_4 := T.sl f_4
                        replace f_7 := T.sl f_7
                        replace hb_8 := T.blk ne0 hb_8
                        clear T; replace C := C'; clear C'
                        clear D
                        refine WL.val (rv_assign rfl) rfl ?_
                        refine WL.nilThen ?_
                        obtain rfl := some_inv' hp
                        refine WC.ret (retK (rs := [.tmp 2]) (vs := [.int .i64 x_17]) rfl ⟨rv1_tmp rfl, trivial⟩ ?_)
                        have T : TR U0 [some b_8] w [] w [] := TR.pick [] rfl
                        have C' : Ctx U0 [] w0 [] _ := C.pick [] (by decide) rfl
                        clear T; replace C := C'; clear C'
                        exact ⟨_, rfl, rfl, C⟩

theorem ok_wirelessref33_Check (F : Nat) (U0 : Nat → Prop) (w0 : World) (c_1 : T_api_Channel) (A_2 : Option Addr) (k_3 : Nat) (A_5 : Option Addr) (k_6 : Nat) (C : Ctx U0 [] w0 [] w0) (f_4 : Sl 1 (RSl 1 (RInt .u8)) (Mu U0 []) w0 A_2 k_3 c_1.Out) (f_7 : Sl 1 (RInt .u8) (Mu U0 []) w0 A_5 k_6 c_1.In) (r : Int) (hp : wirelessref33_Check F c_1 = some r) :
    Calls Try.prog 10 #[.agg #[.int .u16 c_1.Local, .int .u16 c_1.Remote, .int .u16 c_1.PSM, .int .i64 c_1.MTU, .int .i64 c_1.MPS, .int .i64 c_1.PeerMTU, .int .i64 c_1.PeerMPS, .int .i64 c_1.TxCredits, .int .i64 c_1.RxCredits, .int .i64 c_1.Given, .slice A_2 (List.length c_1.Out) k_3, .int .i64 c_1.Sent, .slice A_5 (List.length c_1.In) k_6, .int .i64 c_1.Want, .bool c_1.Failed]] w0 fun e w => ∃ v, e = .returned v ∧ (v = .int .i64 r) ∧ (Ctx U0 [] w0 [] w) := by
  refine calls_enter (vs := [.agg #[.int .u16 c_1.Local, .int .u16 c_1.Remote, .int .u16 c_1.PSM, .int .i64 c_1.MTU, .int .i64 c_1.MPS, .int .i64 c_1.PeerMTU, .int .i64 c_1.PeerMPS, .int .i64 c_1.TxCredits, .int .i64 c_1.RxCredits, .int .i64 c_1.Given, .slice A_2 (List.length c_1.Out) k_3, .int .i64 c_1.Sent, .slice A_5 (List.length c_1.In) k_6, .int .i64 c_1.Want, .bool c_1.Failed]]) Try.func10 rfl Try.ntmps10 rfl ?_
  refine WC.prune (l' := [(0, .agg #[.int .u16 c_1.Local, .int .u16 c_1.Remote, .int .u16 c_1.PSM, .int .i64 c_1.MTU, .int .i64 c_1.MPS, .int .i64 c_1.PeerMTU, .int .i64 c_1.PeerMPS, .int .i64 c_1.TxCredits, .int .i64 c_1.RxCredits, .int .i64 c_1.Given, .slice A_2 (List.length c_1.Out) k_3, .int .i64 c_1.Sent, .slice A_5 (List.length c_1.In) k_6, .int .i64 c_1.Want, .bool c_1.Failed])]) ⟨rfl, trivial⟩ ?_
  skip
  refine WC.seq ?_
  refine WC.region ?_
  refine WL.world (rw_box rfl rfl C) rfl ?_
  rintro v w ⟨b_8, rfl, hb_8, C', T⟩
  replace C' : Ctx U0 [] w0 [some b_8] _ := C'
  replace T : TR U0 [] _ [some b_8] _ [] := T
  replace hb_8 : Blk _ b_8 26 [.int .u16 c_1.Local, .int .u16 c_1.Remote, .int .u16 c_1.PSM, .int .i64 c_1.MTU, .int .i64 c_1.MPS, .int .i64 c_1.PeerMTU, .int .i64 c_1.PeerMPS, .int .i64 c_1.TxCredits, .int .i64 c_1.RxCredits, .int .i64 c_1.Given, .slice A_2 (List.length c_1.Out) k_3, .int .i64 c_1.Sent, .slice A_5 (List.length c_1.In) k_6, .int .i64 c_1.Want, .bool c_1.Failed] := hb_8
  replace f_4 := T.sl f_4
  replace f_7 := T.sl f_7
  clear T; replace C := C'; clear C'
  refine WL.val (rv_assign rfl) rfl ?_
  refine WL.nilThen ?_
  refine WC.seq ?_
  refine WC.seq ?_
  refine WC.region ?_
  refine WL.val (rv_fieldAddr FA26_0 rfl rfl) rfl ?_
  refine WL.val (rv_load1 Try.isAgg22 rfl hb_8 rfl) rfl ?_
  replace hp := bind_inv hp
  obtain ⟨x_9, e_x_9, hp⟩ := hp
  refine WL.call (rc_func Try.call29 rfl) (ok_wirelessref33_isCID F (Mu U0 [some b_8]) _ c_1.Local (C.give [0] [] (by decide) rfl rfl (by decide)) _ e_x_9) rfl ?_
  rintro v w ⟨rfl, D⟩
  obtain ⟨C', T⟩ := C.join D [0] [] (by decide) rfl rfl (by decide)
  replace C' : Ctx U0 [] w0 [some b_8] _ := C'
  replace T : TR U0 [some b_8] _ [some b_8] _ [] := T
  replace f_4 := T.sl f_4
  replace f_7 := T.sl f_7
  replace hb_8 := T.blk ne0 hb_8
  clear T; replace C := C'; clear C'
  clear D
  refine WL.val (rv_not rfl) rfl ?_
  refine WL.val (rv_move rfl) rfl ?_
  obtain ⟨z_11, hz, hpr⟩ := bind_inv hp
  clear hp
  refine WL.cutAt 5 (fun a w => (True) ∧ (Holds 131 [(1, .pointer (some ⟨b_8, 0, none⟩)), (14, .bool z_11)] a) ∧ (Ctx U0 [] w0 [some b_8] w) ∧ (Sl 1 (RSl 1 (RInt .u8)) (Mu U0 [some b_8]) w A_2 k_3 c_1.Out) ∧ (Sl 1 (RInt .u8) (Mu U0 [some b_8]) w A_5 k_6 c_1.In) ∧ (Blk w b_8 26 [.int .u16 c_1.Local, .int .u16 c_1.Remote, .int .u16 c_1.PSM, .int .i64 c_1.MTU, .int .i64 c_1.MPS, .int .i64 c_1.PeerMTU, .int .i64 c_1.PeerMPS, .int .i64 c_1.TxCredits, .int .i64 c_1.RxCredits, .int .i64 c_1.Given, .slice A_2 (List.length c_1.Out) k_3, .int .i64 c_1.Sent, .slice A_5 (List.length c_1.In) k_6, .int .i64 c_1.Want, .bool c_1.Failed])) ?_ ?_
  · have hp := hz
    rcases Bool.eq_false_or_eq_true ((!x_9)) with hg_10 | hg_10
    · replace hp := if_t hp hg_10
      refine WL.no rfl rfl hg_10 rfl ?_
      refine WL.no rfl rfl hg_10 rfl ?_
      refine WL.no rfl rfl hg_10 rfl ?_
      refine WL.no rfl rfl hg_10 rfl ?_
      refine WL.val (rv_pick_t rfl hg_10 rfl) rfl ?_
      refine WL.nil (fun a ha => ?_)
      obtain rfl := some_inv' hp
      exact ⟨trivial, ha.sub ⟨rfl, rfl, trivial⟩, C, f_4, f_7, hb_8⟩
    · replace hp := if_f hp hg_10
      refine WL.yes rfl rfl hg_10 ?_
      refine WL.val (rv_fieldAddr FA26_1 rfl rfl) rfl ?_
      refine WL.yes rfl rfl hg_10 ?_
      refine WL.val (rv_load1 Try.isAgg22 rfl hb_8 rfl) rfl ?_
      replace hp := bind_inv hp
      obtain ⟨x_63, e_x_63, hp⟩ := hp
      refine WL.yes rfl rfl hg_10 ?_
      refine WL.call (rc_func Try.call29 rfl) (ok_wirelessref33_isCID F (Mu U0 [some b_8]) _ c_1.Remote (C.give [0] [] (by decide) rfl rfl (by decide)) _ e_x_63) rfl ?_
      rintro v w ⟨rfl, D⟩
      obtain ⟨C', T⟩ := C.join D [0] [] (by decide) rfl rfl (by decide)
      replace C' : Ctx U0 [] w0 [some b_8] _ := C'
      replace T : TR U0 [some b_8] _ [some b_8] _ [] := T
      replace f_4 := T.sl f_4
      replace f_7 := T.sl f_7
      replace hb_8 := T.blk ne0 hb_8
      clear T; replace C := C'; clear C'
      clear D
      refine WL.yes rfl rfl hg_10 ?_
      refine WL.val (rv_not rfl) rfl ?_
      refine WL.val (rv_pick_f rfl hg_10 rfl) rfl ?_
      refine WL.nil (fun a ha => ?_)
      obtain rfl := some_inv' hp
      exact ⟨trivial, ha.sub ⟨rfl, rfl, trivial⟩, C, f_4, f_7, hb_8⟩
  · rintro a w ⟨hp, ha, C, f_4, f_7, hb_8⟩
    have hp := hpr; clear hpr hz
    refine WL.ofJ (l := [(1, .pointer (some ⟨b_8, 0, none⟩)), (14, .bool z_11)]) ?_ ha
    refine WL.nilThen ?_
    refine WC.cond rfl (fun hc => ?_) (fun hc => ?_)
    · replace hp := if_t hp hc
      clear hc
      refine WC.seq ?_
      refine WC.region ?_
      refine WL.val (rv_assign rfl) rfl ?_
      refine WL.nilThen ?_
      obtain rfl := some_inv' hp
      refine WC.ret (retK (rs := [.tmp 2]) (vs := [.int .i64 5]) rfl ⟨rv1_tmp rfl, trivial⟩ ?_)
      have T : TR U0 [some b_8] w [] w [] := TR.pick [] rfl
      have C' : Ctx U0 [] w0 [] _ := C.pick [] (by decide) rfl
      clear T; replace C := C'; clear C'
      exact ⟨_, rfl, rfl, C⟩
    · replace hp := if_f hp hc
      clear hc
      refine WC.skipThen ?_
      refine WC.seq ?_
      refine WC.seq ?_
      refine WC.region ?_
      refine WL.val (rv_fieldAddr FA26_2 rfl rfl) rfl ?_
      refine WL.val (rv_load1 Try.isAgg22 rfl hb_8 rfl) rfl ?_
      refine WL.val (rv_eql rfl rfl) rfl ?_
      refine WL.nilThen ?_
      refine WC.cond rfl (fun hc => ?_) (fun hc => ?_)
      · replace hp := if_t hp hc
        clear hc
        refine WC.seq ?_
        refine WC.region ?_
        refine WL.val (rv_assign rfl) rfl ?_
        refine WL.nilThen ?_
        obtain rfl := some_inv' hp
        refine WC.ret (retK (rs := [.tmp 2]) (vs := [.int .i64 1]) rfl ⟨rv1_tmp rfl, trivial⟩ ?_)
        have T : TR U0 [some b_8] w [] w [] := TR.pick [] rfl
        have C' : Ctx U0 [] w0 [] _ := C.pick [] (by decide) rfl
        clear T; replace C := C'; clear C'
        exact ⟨_, rfl, rfl, C⟩
      · replace hp := if_f hp hc
        clear hc
        refine WC.skipThen ?_
        refine WC.seq ?_
        refine WC.seq ?_
        refine WC.region ?_
        refine WL.val (rv_fieldAddr FA26_3 rfl rfl) rfl ?_
        refine WL.val (rv_load1 Try.isAgg3 rfl hb_8 rfl) rfl ?_
        replace hp := bind_inv hp
        obtain ⟨x_12, e_x_12, hp⟩ := hp
        refine WL.call (rc_func Try.call30 rfl) (ok_wirelessref33_isSize F (Mu U0 [some b_8]) _ c_1.MTU (C.give [0] [] (by decide) rfl rfl (by decide)) _ e_x_12) rfl ?_
        rintro v w ⟨rfl, D⟩
        obtain ⟨C', T⟩ := C.join D [0] [] (by decide) rfl rfl (by decide)
        replace C' : Ctx U0 [] w0 [some b_8] _ := C'
        replace T : TR U0 [some b_8] _ [some b_8] _ [] := T
        replace f_4 := T.sl f_4
        replace f_7 := T.sl f_7
        replace hb_8 := T.blk ne0 hb_8
        clear T; replace C := C'; clear C'
        clear D
        refine WL.val (rv_not rfl) rfl ?_
        refine WL.val (rv_move rfl) rfl ?_
        obtain ⟨z_14, hz, hpr⟩ := bind_inv hp
        clear hp
        refine WL.cutAt 5 (fun a w => (True) ∧ (Holds 131 [(1, .pointer (some ⟨b_8, 0, none⟩)), (27, .bool z_14)] a) ∧ (Ctx U0 [] w0 [some b_8] w) ∧ (Sl 1 (RSl 1 (RInt .u8)) (Mu U0 [some b_8]) w A_2 k_3 c_1.Out) ∧ (Sl 1 (RInt .u8) (Mu U0 [some b_8]) w A_5 k_6 c_1.In) ∧ (Blk w b_8 26 [.int .u16 c_1.Local, .int .u16 c_1.Remote, .int .u16 c_1.PSM, .int .i64 c_1.MTU, .int .i64 c_1.MPS, .int .i64 c_1.PeerMTU, .int .i64 c_1.PeerMPS, .int .i64 c_1.TxCredits, .int .i64 c_1.RxCredits, .int .i64 c_1.Given, .slice A_2 (List.length c_1.Out) k_3, .int .i64 c_1.Sent, .slice A_5 (List.length c_1.In) k_6, .int .i64 c_1.Want, .bool c_1.Failed])) ?_ ?_
        · have hp := hz
          rcases Bool.eq_false_or_eq_true ((!x_12)) with hg_13 | hg_13
          · replace hp := if_t hp hg_13
            refine WL.no rfl rfl hg_13 rfl ?_
            refine WL.no rfl rfl hg_13 rfl ?_
            refine WL.no rfl rfl hg_13 rfl ?_
            refine WL.no rfl rfl hg_13 rfl ?_
            refine WL.val (rv_pick_t rfl hg_13 rfl) rfl ?_
            refine WL.nil (fun a ha => ?_)
            obtain rfl := some_inv' hp
            exact ⟨trivial, ha.sub ⟨rfl, rfl, trivial⟩, C, f_4, f_7, hb_8⟩
          · replace hp := if_f hp hg_13
            refine WL.yes rfl rfl hg_13 ?_
            refine WL.val (rv_fieldAddr FA26_4 rfl rfl) rfl ?_
            refine WL.yes rfl rfl hg_13 ?_
            refine WL.val (rv_load1 Try.isAgg3 rfl hb_8 rfl) rfl ?_
            replace hp := bind_inv hp
            obtain ⟨x_61, e_x_61, hp⟩ := hp
            refine WL.yes rfl rfl hg_13 ?_
            refine WL.call (rc_func Try.call30 rfl) (ok_wirelessref33_isSize F (Mu U0 [some b_8]) _ c_1.MPS (C.give [0] [] (by decide) rfl rfl (by decide)) _ e_x_61) rfl ?_
            rintro v w ⟨rfl, D⟩
            obtain ⟨C', T⟩ := C.join D [0] [] (by decide) rfl rfl (by decide)
            replace C' : Ctx U0 [] w0 [some b_8] _ := C'
            replace T : TR U0 [some b_8] _ [some b_8] _ [] := T
            replace f_4 := T.sl f_4
            replace f_7 := T.sl f_7
            replace hb_8 := T.blk ne0 hb_8
            clear T; replace C := C'; clear C'
            clear D
            refine WL.yes rfl rfl hg_13 ?_
            refine WL.val (rv_not rfl) rfl ?_
            refine WL.val (rv_pick_f rfl hg_13 rfl) rfl ?_
            refine WL.nil (fun a ha => ?_)
            obtain rfl := some_inv' hp
            exact ⟨trivial, ha.sub ⟨rfl, rfl, trivial⟩, C, f_4, f_7, hb_8⟩
        · rintro a w ⟨hp, ha, C, f_4, f_7, hb_8⟩
          have hp := hpr; clear hpr hz
          refine WL.ofJ (l := [(1, .pointer (some ⟨b_8, 0, none⟩)), (27, .bool z_14)]) ?_ ha
          refine WL.val (rv_move rfl) rfl ?_
          obtain ⟨z_16, hz, hpr⟩ := bind_inv hp
          clear hp
          refine WL.cutAt 5 (fun a w => (True) ∧ (Holds 131 [(1, .pointer (some ⟨b_8, 0, none⟩)), (33, .bool z_16)] a) ∧ (Ctx U0 [] w0 [some b_8] w) ∧ (Sl 1 (RSl 1 (RInt .u8)) (Mu U0 [some b_8]) w A_2 k_3 c_1.Out) ∧ (Sl 1 (RInt .u8) (Mu U0 [some b_8]) w A_5 k_6 c_1.In) ∧ (Blk w b_8 26 [.int .u16 c_1.Local, .int .u16 c_1.Remote, .int .u16 c_1.PSM, .int .i64 c_1.MTU, .int .i64 c_1.MPS, .int .i64 c_1.PeerMTU, .int .i64 c_1.PeerMPS, .int .i64 c_1.TxCredits, .int .i64 c_1.RxCredits, .int .i64 c_1.Given, .slice A_2 (List.length c_1.Out) k_3, .int .i64 c_1.Sent, .slice A_5 (List.length c_1.In) k_6, .int .i64 c_1.Want, .bool c_1.Failed])) ?_ ?_
          · have hp := hz
            rcases Bool.eq_false_or_eq_true (z_14) with hg_15 | hg_15
            · replace hp := if_t hp hg_15
              refine WL.no rfl rfl hg_15 rfl ?_
              refine WL.no rfl rfl hg_15 rfl ?_
              refine WL.no rfl rfl hg_15 rfl ?_
              refine WL.no rfl rfl hg_15 rfl ?_
              refine WL.val (rv_pick_t rfl hg_15 rfl) rfl ?_
              refine WL.nil (fun a ha => ?_)
              obtain rfl := some_inv' hp
              exact ⟨trivial, ha.sub ⟨rfl, rfl, trivial⟩, C, f_4, f_7, hb_8⟩
            · replace hp := if_f hp hg_15
              refine WL.yes rfl rfl hg_15 ?_
              refine WL.val (rv_fieldAddr FA26_5 rfl rfl) rfl ?_
              refine WL.yes rfl rfl hg_15 ?_
              refine WL.val (rv_load1 Try.isAgg3 rfl hb_8 rfl) rfl ?_
              replace hp := bind_inv hp
              obtain ⟨x_59, e_x_59, hp⟩ := hp
              refine WL.yes rfl rfl hg_15 ?_
              refine WL.call (rc_func Try.call30 rfl) (ok_wirelessref33_isSize F (Mu U0 [some b_8]) _ c_1.PeerMTU (C.give [0] [] (by decide) rfl rfl (by decide)) _ e_x_59) rfl ?_
              rintro v w ⟨rfl, D⟩
              obtain ⟨C', T⟩ := C.join D [0] [] (by decide) rfl rfl (by decide)
              replace C' : Ctx U0 [] w0 [some b_8] _ := C'
              replace T : TR U0 [some b_8] _ [some b_8] _ [] := T
              replace f_4 := T.sl f_4
              replace f_7 := T.sl f_7
              replace hb_8 := T.blk ne0 hb_8
              clear T; replace C := C'; clear C'
              clear D
              refine WL.yes rfl rfl hg_15 ?_
              refine WL.val (rv_not rfl) rfl ?_
              refine WL.val (rv_pick_f rfl hg_15 rfl) rfl ?_
              refine WL.nil (fun a ha => ?_)
              obtain rfl := some_inv' hp
              exact ⟨trivial, ha.sub ⟨rfl, rfl, trivial⟩, C, f_4, f_7, hb_8⟩
          · rintro a w ⟨hp, ha, C, f_4, f_7, hb_8⟩
            have hp := hpr; clear hpr hz
            refine WL.ofJ (l := [(1, .pointer (some ⟨b_8, 0, none⟩)), (33, .bool z_16)]) ?_ ha
            refine WL.val (rv_move rfl) rfl ?_
            obtain ⟨z_18, hz, hpr⟩ := bind_inv hp
            clear hp
            refine WL.cutAt 5 (fun a w => (True) ∧ (Holds 131 [(1, .pointer (some ⟨b_8, 0, none⟩)), (39, .bool z_18)] a) ∧ (Ctx U0 [] w0 [some b_8] w) ∧ (Sl 1 (RSl 1 (RInt .u8)) (Mu U0 [some b_8]) w A_2 k_3 c_1.Out) ∧ (Sl 1 (RInt .u8) (Mu U0 [some b_8]) w A_5 k_6 c_1.In) ∧ (Blk w b_8 26 [.int .u16 c_1.Local, .int .u16 c_1.Remote, .int .u16 c_1.PSM, .int .i64 c_1.MTU, .int .i64 c_1.MPS, .int .i64 c_1.PeerMTU, .int .i64 c_1.PeerMPS, .int .i64 c_1.TxCredits, .int .i64 c_1.RxCredits, .int .i64 c_1.Given, .slice A_2 (List.length c_1.Out) k_3, .int .i64 c_1.Sent, .slice A_5 (List.length c_1.In) k_6, .int .i64 c_1.Want, .bool c_1.Failed])) ?_ ?_
            · have hp := hz
              rcases Bool.eq_false_or_eq_true (z_16) with hg_17 | hg_17
              · replace hp := if_t hp hg_17
                refine WL.no rfl rfl hg_17 rfl ?_
                refine WL.no rfl rfl hg_17 rfl ?_
                refine WL.no rfl rfl hg_17 rfl ?_
                refine WL.no rfl rfl hg_17 rfl ?_
                refine WL.val (rv_pick_t rfl hg_17 rfl) rfl ?_
                refine WL.nil (fun a ha => ?_)
                obtain rfl := some_inv' hp
                exact ⟨trivial, ha.sub ⟨rfl, rfl, trivial⟩, C, f_4, f_7, hb_8⟩
              · replace hp := if_f hp hg_17
                refine WL.yes rfl rfl hg_17 ?_
                refine WL.val (rv_fieldAddr FA26_6 rfl rfl) rfl ?_
                refine WL.yes rfl rfl hg_17 ?_
                refine WL.val (rv_load1 Try.isAgg3 rfl hb_8 rfl) rfl ?_
                replace hp := bind_inv hp
                obtain ⟨x_57, e_x_57, hp⟩ := hp
                refine WL.yes rfl rfl hg_17 ?_
                refine WL.call (rc_func Try.call30 rfl) (ok_wirelessref33_isSize F (Mu U0 [some b_8]) _ c_1.PeerMPS (C.give [0] [] (by decide) rfl rfl (by decide)) _ e_x_57) rfl ?_
                rintro v w ⟨rfl, D⟩
                obtain ⟨C', T⟩ := C.join D [0] [] (by decide) rfl rfl (by decide)
                replace C' : Ctx U0 [] w0 [some b_8] _ := C'
                replace T : TR U0 [some b_8] _ [some b_8] _ [] := T
                replace f_4 := T.sl f_4
                replace f_7 := T.sl f_7
                replace hb_8 := T.blk ne0 hb_8
                clear T; replace C := C'; clear C'
                clear D
                refine WL.yes rfl rfl hg_17 ?_
                refine WL.val (rv_not rfl) rfl ?_
                refine WL.val (rv_pick_f rfl hg_17 rfl) rfl ?_
                refine WL.nil (fun a ha => ?_)
                obtain rfl := some_inv' hp
                exact ⟨trivial, ha.sub ⟨rfl, rfl, trivial⟩, C, f_4, f_7, hb_8⟩
            · rintro a w ⟨hp, ha, C, f_4, f_7, hb_8⟩
              have hp := hpr; clear hpr hz
              refine WL.ofJ (l := [(1, .pointer (some ⟨b_8, 0, none⟩)), (39, .bool z_18)]) ?_ ha
              refine WL.val (rv_move rfl) rfl ?_
              obtain ⟨z_20, hz, hpr⟩ := bind_inv hp
              clear hp
              refine WL.cutAt 5 (fun a w => (True) ∧ (Holds 131 [(1, .pointer (some ⟨b_8, 0, none⟩)), (45, .bool z_20)] a) ∧ (Ctx U0 [] w0 [some b_8] w) ∧ (Sl 1 (RSl 1 (RInt .u8)) (Mu U0 [some b_8]) w A_2 k_3 c_1.Out) ∧ (Sl 1 (RInt .u8) (Mu U0 [some b_8]) w A_5 k_6 c_1.In) ∧ (Blk w b_8 26 [.int .u16 c_1.Local, .int .u16 c_1.Remote, .int .u16 c_1.PSM, .int .i64 c_1.MTU, .int .i64 c_1.MPS, .int .i64 c_1.PeerMTU, .int .i64 c_1.PeerMPS, .int .i64 c_1.TxCredits, .int .i64 c_1.RxCredits, .int .i64 c_1.Given, .slice A_2 (List.length c_1.Out) k_3, .int .i64 c_1.Sent, .slice A_5 (List.length c_1.In) k_6, .int .i64 c_1.Want, .bool c_1.Failed])) ?_ ?_
              · have hp := hz
                rcases Bool.eq_false_or_eq_true (z_18) with hg_19 | hg_19
                · replace hp := if_t hp hg_19
                  refine WL.no rfl rfl hg_19 rfl ?_
                  refine WL.no rfl rfl hg_19 rfl ?_
                  refine WL.no rfl rfl hg_19 rfl ?_
                  refine WL.no rfl rfl hg_19 rfl ?_
                  refine WL.val (rv_pick_t rfl hg_19 rfl) rfl ?_
                  refine WL.nil (fun a ha => ?_)
                  obtain rfl := some_inv' hp
                  exact ⟨trivial, ha.sub ⟨rfl, rfl, trivial⟩, C, f_4, f_7, hb_8⟩
                · replace hp := if_f hp hg_19
                  refine WL.yes rfl rfl hg_19 ?_
                  refine WL.val (rv_fieldAddr FA26_7 rfl rfl) rfl ?_
                  refine WL.yes rfl rfl hg_19 ?_
                  refine WL.val (rv_load1 Try.isAgg3 rfl hb_8 rfl) rfl ?_
                  replace hp := bind_inv hp
                  obtain ⟨x_55, e_x_55, hp⟩ := hp
                  refine WL.yes rfl rfl hg_19 ?_
                  refine WL.call (rc_func Try.call31 rfl) (ok_wirelessref33_isCount F (Mu U0 [some b_8]) _ c_1.TxCredits (C.give [0] [] (by decide) rfl rfl (by decide)) _ e_x_55) rfl ?_
                  rintro v w ⟨rfl, D⟩
                  obtain ⟨C', T⟩ := C.join D [0] [] (by decide) rfl rfl (by decide)
                  replace C' : Ctx U0 [] w0 [some b_8] _ := C'
                  replace T : TR U0 [some b_8] _ [some b_8] _ [] := T
                  replace f_4 := T.sl f_4
                  replace f_7 := T.sl f_7
                  replace hb_8 := T.blk ne0 hb_8
                  clear T; replace C := C'; clear C'
                  clear D
                  refine WL.yes rfl rfl hg_19 ?_
                  refine WL.val (rv_not rfl) rfl ?_
                  refine WL.val (rv_pick_f rfl hg_19 rfl) rfl ?_
                  refine WL.nil (fun a ha => ?_)
                  obtain rfl := some_inv' hp
                  exact ⟨trivial, ha.sub ⟨rfl, rfl, trivial⟩, C, f_4, f_7, hb_8⟩
              · rintro a w ⟨hp, ha, C, f_4, f_7, hb_8⟩
                have hp := hpr; clear hpr hz
                refine WL.ofJ (l := [(1, .pointer (some ⟨b_8, 0, none⟩)), (45, .bool z_20)]) ?_ ha
                refine WL.val (rv_move rfl) rfl ?_
                obtain ⟨z_22, hz, hpr⟩ := bind_inv hp
                clear hp
                refine WL.cutAt 5 (fun a w => (True) ∧ (Holds 131 [(1, .pointer (some ⟨b_8, 0, none⟩)), (51, .bool z_22)] a) ∧ (Ctx U0 [] w0 [some b_8] w) ∧ (Sl 1 (RSl 1 (RInt .u8)) (Mu U0 [some b_8]) w A_2 k_3 c_1.Out) ∧ (Sl 1 (RInt .u8) (Mu U0 [some b_8]) w A_5 k_6 c_1.In) ∧ (Blk w b_8 26 [.int .u16 c_1.Local, .int .u16 c_1.Remote, .int .u16 c_1.PSM, .int .i64 c_1.MTU, .int .i64 c_1.MPS, .int .i64 c_1.PeerMTU, .int .i64 c_1.PeerMPS, .int .i64 c_1.TxCredits, .int .i64 c_1.RxCredits, .int .i64 c_1.Given, .slice A_2 (List.length c_1.Out) k_3, .int .i64 c_1.Sent, .slice A_5 (List.length c_1.In) k_6, .int .i64 c_1.Want, .bool c_1.Failed])) ?_ ?_
                · have hp := hz
                  rcases Bool.eq_false_or_eq_true (z_20) with hg_21 | hg_21
                  · replace hp := if_t hp hg_21
                    refine WL.no rfl rfl hg_21 rfl ?_
                    refine WL.no rfl rfl hg_21 rfl ?_
                    refine WL.no rfl rfl hg_21 rfl ?_
                    refine WL.no rfl rfl hg_21 rfl ?_
                    refine WL.val (rv_pick_t rfl hg_21 rfl) rfl ?_
                    refine WL.nil (fun a ha => ?_)
                    obtain rfl := some_inv' hp
                    exact ⟨trivial, ha.sub ⟨rfl, rfl, trivial⟩, C, f_4, f_7, hb_8⟩
                  · replace hp := if_f hp hg_21
                    refine WL.yes rfl rfl hg_21 ?_
                    refine WL.val (rv_fieldAddr FA26_8 rfl rfl) rfl ?_
                    refine WL.yes rfl rfl hg_21 ?_
                    refine WL.val (rv_load1 Try.isAgg3 rfl hb_8 rfl) rfl ?_
                    replace hp := bind_inv hp
                    obtain ⟨x_53, e_x_53, hp⟩ := hp
                    refine WL.yes rfl rfl hg_21 ?_
                    refine WL.call (rc_func Try.call31 rfl) (ok_wirelessref33_isCount F (Mu U0 [some b_8]) _ c_1.RxCredits (C.give [0] [] (by decide) rfl rfl (by decide)) _ e_x_53) rfl ?_
                    rintro v w ⟨rfl, D⟩
                    obtain ⟨C', T⟩ := C.join D [0] [] (by decide) rfl rfl (by decide)
                    replace C' : Ctx U0 [] w0 [some b_8] _ := C'
                    replace T : TR U0 [some b_8] _ [some b_8] _ [] := T
                    replace f_4 := T.sl f_4
                    replace f_7 := T.sl f_7
                    replace hb_8 := T.blk ne0 hb_8
                    clear T; replace C := C'; clear C'
                    clear D
                    refine WL.yes rfl rfl hg_21 ?_
                    refine WL.val (rv_not rfl) rfl ?_
                    refine WL.val (rv_pick_f rfl hg_21 rfl) rfl ?_
                    refine WL.nil (fun a ha => ?_)
                    obtain rfl := some_inv' hp
                    exact ⟨trivial, ha.sub ⟨rfl, rfl, trivial⟩, C, f_4, f_7, hb_8⟩
                · rintro a w ⟨hp, ha, C, f_4, f_7, hb_8⟩
                  have hp := hpr; clear hpr hz
                  refine WL.ofJ (l := [(1, .pointer (some ⟨b_8, 0, none⟩)), (51, .bool z_22)]) ?_ ha
                  refine WL.val (rv_move rfl) rfl ?_
                  obtain ⟨z_24, hz, hpr⟩ := bind_inv hp
                  clear hp
                  refine WL.cutAt 5 (fun a w => (True) ∧ (Holds 131 [(1, .pointer (some ⟨b_8, 0, none⟩)), (57, .bool z_24)] a) ∧ (Ctx U0 [] w0 [some b_8] w) ∧ (Sl 1 (RSl 1 (RInt .u8)) (Mu U0 [some b_8]) w A_2 k_3 c_1.Out) ∧ (Sl 1 (RInt .u8) (Mu U0 [some b_8]) w A_5 k_6 c_1.In) ∧ (Blk w b_8 26 [.int .u16 c_1.Local, .int .u16 c_1.Remote, .int .u16 c_1.PSM, .int .i64 c_1.MTU, .int .i64 c_1.MPS, .int .i64 c_1.PeerMTU, .int .i64 c_1.PeerMPS, .int .i64 c_1.TxCredits, .int .i64 c_1.RxCredits, .int .i64 c_1.Given, .slice A_2 (List.length c_1.Out) k_3, .int .i64 c_1.Sent, .slice A_5 (List.length c_1.In) k_6, .int .i64 c_1.Want, .bool c_1.Failed])) ?_ ?_
                  · have hp := hz
                    rcases Bool.eq_false_or_eq_true (z_22) with hg_23 | hg_23
                    · replace hp := if_t hp hg_23
                      refine WL.no rfl rfl hg_23 rfl ?_
                      refine WL.no rfl rfl hg_23 rfl ?_
                      refine WL.no rfl rfl hg_23 rfl ?_
                      refine WL.no rfl rfl hg_23 rfl ?_
                      refine WL.val (rv_pick_t rfl hg_23 rfl) rfl ?_
                      refine WL.nil (fun a ha => ?_)
                      obtain rfl := some_inv' hp
                      exact ⟨trivial, ha.sub ⟨rfl, rfl, trivial⟩, C, f_4, f_7, hb_8⟩
                    · replace hp := if_f hp hg_23
                      refine WL.yes rfl rfl hg_23 ?_
                      refine WL.val (rv_fieldAddr FA26_9 rfl rfl) rfl ?_
                      refine WL.yes rfl rfl hg_23 ?_
                      refine WL.val (rv_load1 Try.isAgg3 rfl hb_8 rfl) rfl ?_
                      replace hp := bind_inv hp
                      obtain ⟨x_51, e_x_51, hp⟩ := hp
                      refine WL.yes rfl rfl hg_23 ?_
                      refine WL.call (rc_func Try.call31 rfl) (ok_wirelessref33_isCount F (Mu U0 [some b_8]) _ c_1.Given (C.give [0] [] (by decide) rfl rfl (by decide)) _ e_x_51) rfl ?_
                      rintro v w ⟨rfl, D⟩
                      obtain ⟨C', T⟩ := C.join D [0] [] (by decide) rfl rfl (by decide)
                      replace C' : Ctx U0 [] w0 [some b_8] _ := C'
                      replace T : TR U0 [some b_8] _ [some b_8] _ [] := T
                      replace f_4 := T.sl f_4
                      replace f_7 := T.sl f_7
                      replace hb_8 := T.blk ne0 hb_8
                      clear T; replace C := C'; clear C'
                      clear D
                      refine WL.yes rfl rfl hg_23 ?_
                      refine WL.val (rv_not rfl) rfl ?_
                      refine WL.val (rv_pick_f rfl hg_23 rfl) rfl ?_
                      refine WL.nil (fun a ha => ?_)
                      obtain rfl := some_inv' hp
                      exact ⟨trivial, ha.sub ⟨rfl, rfl, trivial⟩, C, f_4, f_7, hb_8⟩
                  · rintro a w ⟨hp, ha, C, f_4, f_7, hb_8⟩
                    have hp := hpr; clear hpr hz
                    refine WL.ofJ (l := [(1, .pointer (some ⟨b_8, 0, none⟩)), (57, .bool z_24)]) ?_ ha
                    refine WL.nilThen ?_
                    refine WC.cond rfl (fun hc => ?_) (fun hc => ?_)
                    · replace hp := if_t hp hc
                      clear hc
                      refine WC.seq ?_
                      refine WC.region ?_
                      refine WL.val (rv_assign rfl) rfl ?_
                      refine WL.nilThen ?_
                      obtain rfl := some_inv' hp
                      refine WC.ret (retK (rs := [.tmp 2]) (vs := [.int .i64 5]) rfl ⟨rv1_tmp rfl, trivial⟩ ?_)
                      have T : TR U0 [some b_8] w [] w [] := TR.pick [] rfl
                      have C' : Ctx U0 [] w0 [] _ := C.pick [] (by decide) rfl
                      clear T; replace C := C'; clear C'
                      exact ⟨_, rfl, rfl, C⟩
                    · replace hp := if_f hp hc
                      clear hc
                      refine WC.skipThen ?_
                      refine WC.seq ?_
                      refine WC.seq ?_
                      refine WC.region ?_
                      refine WL.val (rv_fieldAddr FA26_10 rfl rfl) rfl ?_
                      refine WL.val (rv_load1 Try.isAgg23 rfl hb_8 rfl) rfl ?_
                      refine WL.val (rv_len (dt := c_1.Out) Try.underlying23 rfl) rfl ?_
                      refine WL.val (rv_gtr rfl rfl) rfl ?_
                      refine WL.nilThen ?_
                      refine WC.cond rfl (fun hc => ?_) (fun hc => ?_)
                      · replace hp := if_t hp hc
                        clear hc
                        refine WC.seq ?_
                        refine WC.region ?_
                        refine WL.val (rv_assign rfl) rfl ?_
                        refine WL.nilThen ?_
                        obtain rfl := some_inv' hp
                        refine WC.ret (retK (rs := [.tmp 2]) (vs := [.int .i64 4]) rfl ⟨rv1_tmp rfl, trivial⟩ ?_)
                        have T : TR U0 [some b_8] w [] w [] := TR.pick [] rfl
                        have C' : Ctx U0 [] w0 [] _ := C.pick [] (by decide) rfl
                        clear T; replace C := C'; clear C'
                        exact ⟨_, rfl, rfl, C⟩
                      · replace hp := if_f hp hc
                        clear hc
                        refine WC.skipThen ?_
                        refine WC.seqCut (fun a w => (wirelessref33_Check_j1 F c_1 = some r) ∧ (Holds 131 [(1, .pointer (some ⟨b_8, 0, none⟩))] a) ∧ (Ctx U0 [] w0 [some b_8] w) ∧ (Sl 1 (RSl 1 (RInt .u8)) (Mu U0 [some b_8]) w A_2 k_3 c_1.Out) ∧ (Sl 1 (RInt .u8) (Mu U0 [some b_8]) w A_5 k_6 c_1.In) ∧ (Blk w b_8 26 [.int .u16 c_1.Local, .int .u16 c_1.Remote, .int .u16 c_1.PSM, .int .i64 c_1.MTU, .int .i64 c_1.MPS, .int .i64 c_1.PeerMTU, .int .i64 c_1.PeerMPS, .int .i64 c_1.TxCredits, .int .i64 c_1.RxCredits, .int .i64 c_1.Given, .slice A_2 (List.length c_1.Out) k_3, .int .i64 c_1.Sent, .slice A_5 (List.length c_1.In) k_6, .int .i64 c_1.Want, .bool c_1.Failed])) ?_ ?_
                        · refine WC.seq ?_
                          refine WC.region ?_
                          refine WL.val (rv_assign rfl) rfl ?_
                          refine WL.nilThen ?_
                          refine WC.block ?_
                          obtain ⟨o_40, hi_40, hpo_40⟩ := bind_inv hp
                          clear hp
                          refine WC.loop (fun n a w => ∃ (x_39 : Int), (iter (fun s => wirelessref33_Check_l40 F c_1 s) n (x_39) = some o_40) ∧ (Holds 131 [(1, .pointer (some ⟨b_8, 0, none⟩)), (3, .int .i64 x_39)] a) ∧ (Ctx U0 [] w0 [some b_8] w) ∧ (Sl 1 (RSl 1 (RInt .u8)) (Mu U0 [some b_8]) w A_2 k_3 c_1.Out) ∧ (Sl 1 (RInt .u8) (Mu U0 [some b_8]) w A_5 k_6 c_1.In) ∧ (Blk w b_8 26 [.int .u16 c_1.Local, .int .u16 c_1.Remote, .int .u16 c_1.PSM, .int .i64 c_1.MTU, .int .i64 c_1.MPS, .int .i64 c_1.PeerMTU, .int .i64 c_1.PeerMPS, .int .i64 c_1.TxCredits, .int .i64 c_1.RxCredits, .int .i64 c_1.Given, .slice A_2 (List.length c_1.Out) k_3, .int .i64 c_1.Sent, .slice A_5 (List.length c_1.In) k_6, .int .i64 c_1.Want, .bool c_1.Failed])) F ?_ ?_
                          · intro a ha
                            exact ⟨0, hi_40, ha.sub ⟨rfl, rfl, trivial⟩, C, f_4, f_7, hb_8⟩
                          · rintro n_40 a w ⟨x_39, hi_40, ha, C, f_4, f_7, hb_8⟩
                            obtain ⟨n_40, q_40, rfl, hp, hs_40⟩ := iter_inv hi_40
                            replace hp : wirelessref33_Check_l40 F c_1 x_39 = some q_40 := hp
                            clear hi_40
                            refine WC.ofJ (l := [(1, .pointer (some ⟨b_8, 0, none⟩)), (3, .int .i64 x_39)]) ?_ ha
                            refine WC.seq ?_
                            refine WC.seq ?_
                            refine WC.region ?_
                            refine WL.val (rv_move rfl) rfl ?_
                            refine WL.val (rv_fieldAddr FA26_10 rfl rfl) rfl ?_
                            refine WL.val (rv_load1 Try.isAgg23 rfl hb_8 rfl) rfl ?_
                            refine WL.val (rv_len (dt := c_1.Out) Try.underlying23 rfl) rfl ?_
                            refine WL.val (rv_lss rfl rfl) rfl ?_
                            refine WL.nilThen ?_
                            refine WC.cond rfl (fun hc => ?_) (fun hc => ?_)
                            · replace hp := if_t hp hc
                              clear hc
                              refine WC.skipThen ?_
                              refine WC.seq ?_
                              refine WC.block ?_
                              refine WC.seqCut (fun a w => ∃ (z_41 : Bool), (wirelessref33_Check_j3 F x_39 z_41 = some q_40) ∧ (Holds 131 [(1, .pointer (some ⟨b_8, 0, none⟩)), (3, .int .i64 x_39), (77, .bool z_41)] a) ∧ (Ctx U0 [] w0 [some b_8] w) ∧ (Sl 1 (RSl 1 (RInt .u8)) (Mu U0 [some b_8]) w A_2 k_3 c_1.Out) ∧ (Sl 1 (RInt .u8) (Mu U0 [some b_8]) w A_5 k_6 c_1.In) ∧ (Blk w b_8 26 [.int .u16 c_1.Local, .int .u16 c_1.Remote, .int .u16 c_1.PSM, .int .i64 c_1.MTU, .int .i64 c_1.MPS, .int .i64 c_1.PeerMTU, .int .i64 c_1.PeerMPS, .int .i64 c_1.TxCredits, .int .i64 c_1.RxCredits, .int .i64 c_1.Given, .slice A_2 (List.length c_1.Out) k_3, .int .i64 c_1.Sent, .slice A_5 (List.length c_1.In) k_6, .int .i64 c_1.Want, .bool c_1.Failed])) ?_ ?_
                              · replace hp := bind_inv hp
                                obtain ⟨x_42, e_x_42, hp⟩ := hp
                                obtain ⟨d_43, es_44, f_45, hl, hr, hv_46⟩ := sl_ix2 (P := Try.prog) (iv := x_39) Try.underlying23 Try.sizeOf24 rfl f_4 e_x_42
                                obtain ⟨A_47, k_48, rfl, f_49⟩ := hr
                                clear hl
                                refine WC.draw (fun w => (Blk w b_8 26 [.int .u16 c_1.Local, .int .u16 c_1.Remote, .int .u16 c_1.PSM, .int .i64 c_1.MTU, .int .i64 c_1.MPS, .int .i64 c_1.PeerMTU, .int .i64 c_1.PeerMPS, .int .i64 c_1.TxCredits, .int .i64 c_1.RxCredits, .int .i64 c_1.Given, .slice A_2 (List.length c_1.Out) k_3, .int .i64 c_1.Sent, .slice A_5 (List.length c_1.In) k_6, .int .i64 c_1.Want, .bool c_1.Failed]) ∧ (At (fun _ => False) w d_43 [.slice A_47 (List.length x_42) k_48])) MO C ?_
                                rintro w C' T
                                replace f_4 := T.sl f_4
                                replace f_7 := T.sl f_7
                                replace f_49 := T.sl f_49
                                replace f_45 := T.at_ f_45 (by simp)
                                replace hb_8 := T.blk ne0 hb_8
                                clear T; replace C := C'; clear C'
                                refine WA.take (i := 0) (bs' := [true, false, false, false, false, false, false, false, false]) rfl (by kernel_rfl) (by kernel_rfl) (by kernel_rfl) (fun _ _ => rv_fieldAddr FA26_10 rfl rfl) ⟨hb_8, (f_45.mu (fun _ h => h.elim))⟩ rfl rfl ?_
                                refine WA.take (i := 1) (bs' := [true, true, false, false, false, false, false, false, false]) rfl (by kernel_rfl) (by kernel_rfl) (by kernel_rfl) (fun w hS => by obtain ⟨hb_8, f_45⟩ := hS; exact rv_load1 Try.isAgg23 rfl hb_8 rfl) ⟨hb_8, (f_45.mu (fun _ h => h.elim))⟩ rfl rfl ?_
                                refine WA.take (i := 2) (bs' := [true, true, true, false, false, false, false, false, false]) rfl (by kernel_rfl) (by kernel_rfl) (by kernel_rfl) (fun _ _ => rv_move rfl) ⟨hb_8, (f_45.mu (fun _ h => h.elim))⟩ rfl rfl ?_
                                refine WA.take (i := 3) (bs' := [true, true, true, true, false, false, false, false, false]) rfl (by kernel_rfl) (by kernel_rfl) (by kernel_rfl) (fun _ _ => hv_46 rfl rfl) ⟨hb_8, (f_45.mu (fun _ h => h.elim))⟩ rfl rfl ?_
                                refine WA.take (i := 4) (bs' := [true, true, true, true, true, false, false, false, false]) rfl (by kernel_rfl) (by kernel_rfl) (by kernel_rfl) (fun w hS => by obtain ⟨hb_8, f_45⟩ := hS; exact rv_loadA1 (ad := d_43) (o := 0) Try.isAgg24 rfl f_45 rfl) ⟨hb_8, (f_45.mu (fun _ h => h.elim))⟩ rfl rfl ?_
                                refine WA.take (i := 5) (bs' := [true, true, true, true, true, true, false, false, false]) rfl (by kernel_rfl) (by kernel_rfl) (by kernel_rfl) (fun _ _ => rv_len (dt := x_42) Try.underlying24 rfl) ⟨hb_8, (f_45.mu (fun _ h => h.elim))⟩ rfl rfl ?_
                                refine WA.take (i := 6) (bs' := [true, true, true, true, true, true, true, false, false]) rfl (by kernel_rfl) (by kernel_rfl) (by kernel_rfl) (fun _ _ => rv_fieldAddr FA26_5 rfl rfl) ⟨hb_8, (f_45.mu (fun _ h => h.elim))⟩ rfl rfl ?_
                                refine WA.take (i := 7) (bs' := [true, true, true, true, true, true, true, true, false]) rfl (by kernel_rfl) (by kernel_rfl) (by kernel_rfl) (fun w hS => by obtain ⟨hb_8, f_45⟩ := hS; exact rv_load1 Try.isAgg3 rfl hb_8 rfl) ⟨hb_8, (f_45.mu (fun _ h => h.elim))⟩ rfl rfl ?_
                                refine WA.take (i := 8) (bs' := [true, true, true, true, true, true, true, true, true]) rfl (by kernel_rfl) (by kernel_rfl) (by kernel_rfl) (fun _ _ => rv_gtr rfl rfl) ⟨hb_8, (f_45.mu (fun _ h => h.elim))⟩ rfl rfl ?_
                                refine WA.done (by kernel_rfl) (fun a ha => ?_)
                                exact ⟨decide ((len x_42) > c_1.PeerMTU), hp, ha.sub ⟨rfl, rfl, rfl, trivial⟩, C, f_4, f_7, hb_8⟩
                              · rintro a w ⟨z_41, hp, ha, C, f_4, f_7, hb_8⟩
                                refine WC.ofJ (l := [(1, .pointer (some ⟨b_8, 0, none⟩)), (3, .int .i64 x_39), (77, .bool z_41)]) ?_ ha
                                refine WC.cond rfl (fun hc => ?_) (fun hc => ?_)
                                · replace hp := if_t hp hc
                                  clear hc
                                  refine WC.seq ?_
                                  refine WC.region ?_
                                  refine WL.val (rv_assign rfl) rfl ?_
                                  refine WL.nilThen ?_
                                  have ho := done_inv hp hs_40
                                  replace hp := hpo_40
                                  try rw [ho] at hp
                                  obtain rfl := some_inv' hp
                                  refine WC.ret (retK (rs := [.tmp 2]) (vs := [.int .i64 4]) rfl ⟨rv1_tmp rfl, trivial⟩ ?_)
                                  have T : TR U0 [some b_8] w [] w [] := TR.pick [] rfl
                                  have C' : Ctx U0 [] w0 [] _ := C.pick [] (by decide) rfl
                                  clear T; replace C := C'; clear C'
                                  exact ⟨_, rfl, rfl, C⟩
                                · replace hp := if_f hp hc
                                  clear hc
                                  refine WC.skipThen ?_
                                  refine WC.region ?_
                                  refine WL.val (rv_move rfl) rfl ?_
                                  refine WL.val (rv_add rfl rfl (wrap_i64 _)) rfl ?_
                                  refine WL.val (rv_assign rfl) rfl ?_
                                  refine WL.nil (fun a ha => ?_)
                                  have ho := next_inv hp hs_40
                                  exact ⟨n_40, Nat.lt_succ_self _, ⟨w64 (x_39 + 1), ho, ha.sub ⟨rfl, rfl, trivial⟩, C, f_4, f_7, hb_8⟩⟩
                            · replace hp := if_f hp hc
                              clear hc
                              refine WC.exitJ rfl (fun a ha => ?_)
                              have ho := done_inv hp hs_40
                              replace hp := hpo_40
                              try rw [ho] at hp
                              exact ⟨hp, ha.sub ⟨rfl, trivial⟩, C, f_4, f_7, hb_8⟩
                        · rintro a w ⟨hp, ha, C, f_4, f_7, hb_8⟩
                          refine WC.ofJ (l := [(1, .pointer (some ⟨b_8, 0, none⟩))]) ?_ ha
                          refine WC.seq ?_
                          refine WC.region ?_
                          refine WL.val (rv_assign rfl) rfl ?_
                          refine WL.nilThen ?_
                          refine WC.seqCut (fun a w => ∃ (x_25 : Int), (wirelessref33_Check_j2 F c_1 x_25 = some r) ∧ (Holds 131 [(1, .pointer (some ⟨b_8, 0, none⟩)), (4, .int .i64 x_25)] a) ∧ (Ctx U0 [] w0 [some b_8] w) ∧ (Sl 1 (RSl 1 (RInt .u8)) (Mu U0 [some b_8]) w A_2 k_3 c_1.Out) ∧ (Sl 1 (RInt .u8) (Mu U0 [some b_8]) w A_5 k_6 c_1.In) ∧ (Blk w b_8 26 [.int .u16 c_1.Local, .int .u16 c_1.Remote, .int .u16 c_1.PSM, .int .i64 c_1.MTU, .int .i64 c_1.MPS, .int .i64 c_1.PeerMTU, .int .i64 c_1.PeerMPS, .int .i64 c_1.TxCredits, .int .i64 c_1.RxCredits, .int .i64 c_1.Given, .slice A_2 (List.length c_1.Out) k_3, .int .i64 c_1.Sent, .slice A_5 (List.length c_1.In) k_6, .int .i64 c_1.Want, .bool c_1.Failed])) ?_ ?_
                          · refine WC.seq ?_
                            refine WC.region ?_
                            refine WL.val (rv_fieldAddr FA26_10 rfl rfl) rfl ?_
                            refine WL.val (rv_load1 Try.isAgg23 rfl hb_8 rfl) rfl ?_
                            refine WL.val (rv_len (dt := c_1.Out) Try.underlying23 rfl) rfl ?_
                            refine WL.val (rv_gtr rfl rfl) rfl ?_
                            refine WL.nilThen ?_
                            refine WC.cond rfl (fun hc => ?_) (fun hc => ?_)
                            · replace hp := if_t hp hc
                              clear hc
                              refine WC.region ?_
                              refine WL.val (rv_fieldAddr FA26_10 rfl rfl) rfl ?_
                              refine WL.val (rv_load1 Try.isAgg23 rfl hb_8 rfl) rfl ?_
                              replace hp := bind_inv hp
                              obtain ⟨x_32, e_x_32, hp⟩ := hp
                              refine WL.ixSl (dt := c_1.Out) Try.underlying23 Try.sizeOf24 rfl rfl rfl f_4 e_x_32 rfl ?_
                              intro d_33 es_34 f_35 hl hr
                              obtain ⟨A_36, k_37, rfl, f_38⟩ := hr
                              clear hl
                              refine WL.val (rv_loadA1 (ad := d_33) (o := 0) Try.isAgg24 rfl f_35 rfl) rfl ?_
                              refine WL.val (rv_len (dt := x_32) Try.underlying24 rfl) rfl ?_
                              refine WL.val (rv_add rfl rfl (wrap_i64 _)) rfl ?_
                              refine WL.val (rv_assign rfl) rfl ?_
                              refine WL.nil (fun a ha => ?_)
                              exact ⟨w64 (1 + (len x_32)), hp, ha.sub ⟨rfl, rfl, trivial⟩, C, f_4, f_7, hb_8⟩
                            · replace hp := if_f hp hc
                              clear hc
                              refine WC.skip (fun a ha => ?_)
                              exact ⟨0, hp, ha.sub ⟨rfl, rfl, trivial⟩, C, f_4, f_7, hb_8⟩
                          · rintro a w ⟨x_25, hp, ha, C, f_4, f_7, hb_8⟩
                            refine WC.ofJ (l := [(1, .pointer (some ⟨b_8, 0, none⟩)), (4, .int .i64 x_25)]) ?_ ha
                            refine WC.seq ?_
                            refine WC.seq ?_
                            refine WC.region ?_
                            refine WL.val (rv_fieldAddr FA26_11 rfl rfl) rfl ?_
                            refine WL.val (rv_load1 Try.isAgg3 rfl hb_8 rfl) rfl ?_
                            refine WL.val (rv_lss rfl rfl) rfl ?_
                            refine WL.val (rv_move rfl) rfl ?_
                            refine WL.cutAt 5 (fun a w' => w = w' ∧ Holds 131 [(1, .pointer (some ⟨b_8, 0, none⟩)), (96, .bool ((decide (c_1.Sent < 0)) || (decide (c_1.Sent > x_25))))] a) ?_ ?_
                            · rcases Bool.eq_false_or_eq_true (decide (c_1.Sent < 0)) with hg_26 | hg_26
                              · refine WL.no rfl rfl hg_26 rfl ?_
                                refine WL.no rfl rfl hg_26 rfl ?_
                                refine WL.no rfl rfl hg_26 rfl ?_
                                refine WL.no rfl rfl hg_26 rfl ?_
                                refine WL.val (rv_pick_t rfl hg_26 rfl) rfl ?_
                                refine WL.nil (fun a ha => ?_)
                                exact ⟨rfl, ha.sub ⟨rfl, or_t hg_26, trivial⟩⟩
                              · refine WL.yes rfl rfl hg_26 ?_
                                refine WL.val (rv_fieldAddr FA26_11 rfl rfl) rfl ?_
                                refine WL.yes rfl rfl hg_26 ?_
                                refine WL.val (rv_load1 Try.isAgg3 rfl hb_8 rfl) rfl ?_
                                refine WL.yes rfl rfl hg_26 ?_
                                refine WL.val (rv_move rfl) rfl ?_
                                refine WL.yes rfl rfl hg_26 ?_
                                refine WL.val (rv_gtr rfl rfl) rfl ?_
                                refine WL.val (rv_pick_f rfl hg_26 rfl) rfl ?_
                                refine WL.nil (fun a ha => ?_)
                                exact ⟨rfl, ha.sub ⟨rfl, or_f hg_26, trivial⟩⟩
                            · rintro a w' ⟨rfl, ha⟩
                              refine WL.ofJ (l := [(1, .pointer (some ⟨b_8, 0, none⟩)), (96, .bool ((decide (c_1.Sent < 0)) || (decide (c_1.Sent > x_25))))]) ?_ ha
                              refine WL.val (rv_move rfl) rfl ?_
                              refine WL.cutAt 4 (fun a w' => w = w' ∧ Holds 131 [(1, .pointer (some ⟨b_8, 0, none⟩)), (101, .bool (((decide (c_1.Sent < 0)) || (decide (c_1.Sent > x_25))) || (decide (c_1.Want < (-1)))))] a) ?_ ?_
                              · rcases Bool.eq_false_or_eq_true (((decide (c_1.Sent < 0)) || (decide (c_1.Sent > x_25)))) with hg_27 | hg_27
                                · refine WL.no rfl rfl hg_27 rfl ?_
                                  refine WL.no rfl rfl hg_27 rfl ?_
                                  refine WL.no rfl rfl hg_27 rfl ?_
                                  refine WL.val (rv_pick_t rfl hg_27 rfl) rfl ?_
                                  refine WL.nil (fun a ha => ?_)
                                  exact ⟨rfl, ha.sub ⟨rfl, or_t hg_27, trivial⟩⟩
                                · refine WL.yes rfl rfl hg_27 ?_
                                  refine WL.val (rv_fieldAddr FA26_13 rfl rfl) rfl ?_
                                  refine WL.yes rfl rfl hg_27 ?_
                                  refine WL.val (rv_load1 Try.isAgg3 rfl hb_8 rfl) rfl ?_
                                  refine WL.yes rfl rfl hg_27 ?_
                                  refine WL.val (rv_lss rfl rfl) rfl ?_
                                  refine WL.val (rv_pick_f rfl hg_27 rfl) rfl ?_
                                  refine WL.nil (fun a ha => ?_)
                                  exact ⟨rfl, ha.sub ⟨rfl, or_f hg_27, trivial⟩⟩
                              · rintro a w' ⟨rfl, ha⟩
                                refine WL.ofJ (l := [(1, .pointer (some ⟨b_8, 0, none⟩)), (101, .bool (((decide (c_1.Sent < 0)) || (decide (c_1.Sent > x_25))) || (decide (c_1.Want < (-1)))))]) ?_ ha
                                refine WL.val (rv_move rfl) rfl ?_
                                refine WL.cutAt 6 (fun a w' => w = w' ∧ Holds 131 [(1, .pointer (some ⟨b_8, 0, none⟩)), (108, .bool ((((decide (c_1.Sent < 0)) || (decide (c_1.Sent > x_25))) || (decide (c_1.Want < (-1)))) || (decide (c_1.Want > c_1.MTU))))] a) ?_ ?_
                                · rcases Bool.eq_false_or_eq_true ((((decide (c_1.Sent < 0)) || (decide (c_1.Sent > x_25))) || (decide (c_1.Want < (-1))))) with hg_28 | hg_28
                                  · refine WL.no rfl rfl hg_28 rfl ?_
                                    refine WL.no rfl rfl hg_28 rfl ?_
                                    refine WL.no rfl rfl hg_28 rfl ?_
                                    refine WL.no rfl rfl hg_28 rfl ?_
                                    refine WL.no rfl rfl hg_28 rfl ?_
                                    refine WL.val (rv_pick_t rfl hg_28 rfl) rfl ?_
                                    refine WL.nil (fun a ha => ?_)
                                    exact ⟨rfl, ha.sub ⟨rfl, or_t hg_28, trivial⟩⟩
                                  · refine WL.yes rfl rfl hg_28 ?_
                                    refine WL.val (rv_fieldAddr FA26_13 rfl rfl) rfl ?_
                                    refine WL.yes rfl rfl hg_28 ?_
                                    refine WL.val (rv_load1 Try.isAgg3 rfl hb_8 rfl) rfl ?_
                                    refine WL.yes rfl rfl hg_28 ?_
                                    refine WL.val (rv_fieldAddr FA26_3 rfl rfl) rfl ?_
                                    refine WL.yes rfl rfl hg_28 ?_
                                    refine WL.val (rv_load1 Try.isAgg3 rfl hb_8 rfl) rfl ?_
                                    refine WL.yes rfl rfl hg_28 ?_
                                    refine WL.val (rv_gtr rfl rfl) rfl ?_
                                    refine WL.val (rv_pick_f rfl hg_28 rfl) rfl ?_
                                    refine WL.nil (fun a ha => ?_)
                                    exact ⟨rfl, ha.sub ⟨rfl, or_f hg_28, trivial⟩⟩
                                · rintro a w' ⟨rfl, ha⟩
                                  refine WL.ofJ (l := [(1, .pointer (some ⟨b_8, 0, none⟩)), (108, .bool ((((decide (c_1.Sent < 0)) || (decide (c_1.Sent > x_25))) || (decide (c_1.Want < (-1)))) || (decide (c_1.Want > c_1.MTU))))]) ?_ ha
                                  refine WL.nilThen ?_
                                  refine WC.cond rfl (fun hc => ?_) (fun hc => ?_)
                                  · replace hp := if_t hp hc
                                    clear hc
                                    refine WC.seq ?_
                                    refine WC.region ?_
                                    refine WL.val (rv_assign rfl) rfl ?_
                                    refine WL.nilThen ?_
                                    obtain rfl := some_inv' hp
                                    refine WC.ret (retK (rs := [.tmp 2]) (vs := [.int .i64 1]) rfl ⟨rv1_tmp rfl, trivial⟩ ?_)
                                    have T : TR U0 [some b_8] w [] w [] := TR.pick [] rfl
                                    have C' : Ctx U0 [] w0 [] _ := C.pick [] (by decide) rfl
                                    clear T; replace C := C'; clear C'
                                    exact ⟨_, rfl, rfl, C⟩
                                  · replace hp := if_f hp hc
                                    clear hc
                                    refine WC.skipThen ?_
                                    refine WC.seq ?_
                                    refine WC.seq ?_
                                    refine WC.prune (l' := [(1, .pointer (some ⟨b_8, 0, none⟩))]) ⟨rfl, trivial⟩ ?_
                                    refine WC.region ?_
                                    refine WL.val (rv_fieldAddr FA26_13 rfl rfl) rfl ?_
                                    refine WL.val (rv_load1 Try.isAgg3 rfl hb_8 rfl) rfl ?_
                                    refine WL.val (rv_eql rfl rfl) rfl ?_
                                    refine WL.val (rv_move rfl) rfl ?_
                                    refine WL.cutAt 5 (fun a w' => w = w' ∧ Holds 131 [(1, .pointer (some ⟨b_8, 0, none⟩)), (117, .bool ((c_1.Want == (-1)) && (decide ((len c_1.In) > 0))))] a) ?_ ?_
                                    · rcases Bool.eq_false_or_eq_true ((c_1.Want == (-1))) with hg_29 | hg_29
                                      · refine WL.yes rfl rfl hg_29 ?_
                                        refine WL.val (rv_fieldAddr FA26_12 rfl rfl) rfl ?_
                                        refine WL.yes rfl rfl hg_29 ?_
                                        refine WL.val (rv_load1 Try.isAgg24 rfl hb_8 rfl) rfl ?_
                                        refine WL.yes rfl rfl hg_29 ?_
                                        refine WL.val (rv_len (dt := c_1.In) Try.underlying24 rfl) rfl ?_
                                        refine WL.yes rfl rfl hg_29 ?_
                                        refine WL.val (rv_gtr rfl rfl) rfl ?_
                                        refine WL.val (rv_pick_t rfl hg_29 rfl) rfl ?_
                                        refine WL.nil (fun a ha => ?_)
                                        exact ⟨rfl, ha.sub ⟨rfl, and_t hg_29, trivial⟩⟩
                                      · refine WL.no rfl rfl hg_29 rfl ?_
                                        refine WL.no rfl rfl hg_29 rfl ?_
                                        refine WL.no rfl rfl hg_29 rfl ?_
                                        refine WL.no rfl rfl hg_29 rfl ?_
                                        refine WL.val (rv_pick_f rfl hg_29 rfl) rfl ?_
                                        refine WL.nil (fun a ha => ?_)
                                        exact ⟨rfl, ha.sub ⟨rfl, and_f hg_29, trivial⟩⟩
                                    · rintro a w' ⟨rfl, ha⟩
                                      refine WL.ofJ (l := [(1, .pointer (some ⟨b_8, 0, none⟩)), (117, .bool ((c_1.Want == (-1)) && (decide ((len c_1.In) > 0))))]) ?_ ha
                                      refine WL.val (rv_move rfl) rfl ?_
                                      refine WL.cutAt 12 (fun a w' => w = w' ∧ Holds 131 [(130, .bool (((c_1.Want == (-1)) && (decide ((len c_1.In) > 0))) || ((decide (c_1.Want ≥ 0)) && (decide ((len c_1.In) ≥ c_1.Want)))))] a) ?_ ?_
                                      · rcases Bool.eq_false_or_eq_true (((c_1.Want == (-1)) && (decide ((len c_1.In) > 0)))) with hg_30 | hg_30
                                        · refine WL.no rfl rfl hg_30 rfl ?_
                                          refine WL.no rfl rfl hg_30 rfl ?_
                                          refine WL.no rfl rfl hg_30 rfl ?_
                                          refine WL.no rfl rfl hg_30 rfl ?_
                                          refine WL.noU rfl rfl rfl ?_
                                          refine WL.noU rfl rfl rfl ?_
                                          refine WL.noU rfl rfl rfl ?_
                                          refine WL.noU rfl rfl rfl ?_
                                          refine WL.noU rfl rfl rfl ?_
                                          refine WL.noU rfl rfl rfl ?_
                                          refine WL.no rfl rfl hg_30 rfl ?_
                                          refine WL.val (rv_pick_t rfl hg_30 rfl) rfl ?_
                                          refine WL.nil (fun a ha => ?_)
                                          exact ⟨rfl, ha.sub ⟨or_t hg_30, trivial⟩⟩
                                        · refine WL.yes rfl rfl hg_30 ?_
                                          refine WL.val (rv_fieldAddr FA26_13 rfl rfl) rfl ?_
                                          refine WL.yes rfl rfl hg_30 ?_
                                          refine WL.val (rv_load1 Try.isAgg3 rfl hb_8 rfl) rfl ?_
                                          refine WL.yes rfl rfl hg_30 ?_
                                          refine WL.val (rv_geq rfl rfl) rfl ?_
                                          refine WL.yes rfl rfl hg_30 ?_
                                          refine WL.val (rv_move rfl) rfl ?_
                                          refine WL.cutAt 7 (fun a w' => w = w' ∧ Holds 131 [(118, .bool ((c_1.Want == (-1)) && (decide ((len c_1.In) > 0)))), (129, .bool ((decide (c_1.Want ≥ 0)) && (decide ((len c_1.In) ≥ c_1.Want))))] a) ?_ ?_
                                          · rcases Bool.eq_false_or_eq_true (decide (c_1.Want ≥ 0)) with hg_31 | hg_31
                                            · refine WL.yes rfl rfl hg_31 ?_
                                              refine WL.val (rv_fieldAddr FA26_12 rfl rfl) rfl ?_
                                              refine WL.yes rfl rfl hg_31 ?_
                                              refine WL.val (rv_load1 Try.isAgg24 rfl hb_8 rfl) rfl ?_
                                              refine WL.yes rfl rfl hg_31 ?_
                                              refine WL.val (rv_len (dt := c_1.In) Try.underlying24 rfl) rfl ?_
                                              refine WL.yes rfl rfl hg_31 ?_
                                              refine WL.val (rv_fieldAddr FA26_13 rfl rfl) rfl ?_
                                              refine WL.yes rfl rfl hg_31 ?_
                                              refine WL.val (rv_load1 Try.isAgg3 rfl hb_8 rfl) rfl ?_
                                              refine WL.yes rfl rfl hg_31 ?_
                                              refine WL.val (rv_geq rfl rfl) rfl ?_
                                              refine WL.yes rfl rfl hg_30 ?_
                                              refine WL.val (rv_pick_t rfl hg_31 rfl) rfl ?_
                                              refine WL.nil (fun a ha => ?_)
                                              exact ⟨rfl, ha.sub ⟨rfl, and_t hg_31, trivial⟩⟩
                                            · refine WL.no rfl rfl hg_31 rfl ?_
                                              refine WL.no rfl rfl hg_31 rfl ?_
                                              refine WL.no rfl rfl hg_31 rfl ?_
                                              refine WL.no rfl rfl hg_31 rfl ?_
                                              refine WL.no rfl rfl hg_31 rfl ?_
                                              refine WL.no rfl rfl hg_31 rfl ?_
                                              refine WL.yes rfl rfl hg_30 ?_
                                              refine WL.val (rv_pick_f rfl hg_31 rfl) rfl ?_
                                              refine WL.nil (fun a ha => ?_)
                                              exact ⟨rfl, ha.sub ⟨rfl, and_f hg_31, trivial⟩⟩
                                          · rintro a w' ⟨rfl, ha⟩
                                            refine WL.ofJ (l := [(118, .bool ((c_1.Want == (-1)) && (decide ((len c_1.In) > 0)))), (129, .bool ((decide (c_1.Want ≥ 0)) && (decide ((len c_1.In) ≥ c_1.Want))))]) ?_ ha
                                            refine WL.val (rv_pick_f rfl hg_30 rfl) rfl ?_
                                            refine WL.nil (fun a ha => ?_)
                                            exact ⟨rfl, ha.sub ⟨or_f hg_30, trivial⟩⟩
                                      · rintro a w' ⟨rfl, ha⟩
                                        refine WL.ofJ (l := [(130, .bool (((c_1.Want == (-1)) && (decide ((len c_1.In) > 0))) || ((decide (c_1.Want ≥ 0)) && (decide ((len c_1.In) ≥ c_1.Want)))))]) ?_ ha
                                        refine WL.nilThen ?_
                                        refine WC.cond rfl (fun hc => ?_) (fun hc => ?_)
                                        · replace hp := if_t hp hc
                                          clear hc
                                          refine WC.seq ?_
                                          refine WC.region ?_
                                          refine WL.val (rv_assign rfl) rfl ?_
                                          refine WL.nilThen ?_
                                          obtain rfl := some_inv' hp
                                          refine WC.ret (retK (rs := [.tmp 2]) (vs := [.int .i64 1]) rfl ⟨rv1_tmp rfl, trivial⟩ ?_)
                                          have T : TR U0 [some b_8] w [] w [] := TR.pick [] rfl
                                          have C' : Ctx U0 [] w0 [] _ := C.pick [] (by decide) rfl
                                          clear T; replace C := C'; clear C'
                                          exact ⟨_, rfl, rfl, C⟩
                                        · replace hp := if_f hp hc
                                          clear hc
                                          refine WC.skipThen ?_
                                          refine WC.seq ?_
                                          refine WC.region ?_
                                          refine WL.val (rv_assign rfl) rfl ?_
                                          refine WL.nilThen ?_
                                          obtain rfl := some_inv' hp
                                          refine WC.ret (retK (rs := [.tmp 2]) (vs := [.int .i64 0]) rfl ⟨rv1_tmp rfl, trivial⟩ ?_)
                                          have T : TR U0 [some b_8] w [] w [] := TR.pick [] rfl
                                          have C' : Ctx U0 [] w0 [] _ := C.pick [] (by decide) rfl
                                          clear T; replace C := C'; clear C'
                                          exact ⟨_, rfl, rfl, C⟩

theorem ok_wirelesslaw33_light (F : Nat) (U0 : Nat → Prop) (w0 : World) (c_1 : T_api_Channel) (A_2 : Option Addr) (k_3 : Nat) (A_5 : Option Addr) (k_6 : Nat) (C : Ctx U0 [] w0 [] w0) (f_4 : Sl 1 (RSl 1 (RInt .u8)) (Mu U0 []) w0 A_2 k_3 c_1.Out) (f_7 : Sl 1 (RInt .u8) (Mu U0 []) w0 A_5 k_6 c_1.In) (r : Bool) (hp : wirelesslaw33_light F c_1 = some r) :
    Calls Try.prog 9 #[.agg #[.int .u16 c_1.Local, .int .u16 c_1.Remote, .int .u16 c_1.PSM, .int .i64 c_1.MTU, .int .i64 c_1.MPS, .int .i64 c_1.PeerMTU, .int .i64 c_1.PeerMPS, .int .i64 c_1.TxCredits, .int .i64 c_1.RxCredits, .int .i64 c_1.Given, .slice A_2 (List.length c_1.Out) k_3, .int .i64 c_1.Sent, .slice A_5 (List.length c_1.In) k_6, .int .i64 c_1.Want, .bool c_1.Failed]] w0 fun e w => ∃ v, e = .returned v ∧ (v = .bool r) ∧ (Ctx U0 [] w0 [] w) := by
  refine calls_enter (vs := [.agg #[.int .u16 c_1.Local, .int .u16 c_1.Remote, .int .u16 c_1.PSM, .int .i64 c_1.MTU, .int .i64 c_1.MPS, .int .i64 c_1.PeerMTU, .int .i64 c_1.PeerMPS, .int .i64 c_1.TxCredits, .int .i64 c_1.RxCredits, .int .i64 c_1.Given, .slice A_2 (List.length c_1.Out) k_3, .int .i64 c_1.Sent, .slice A_5 (List.length c_1.In) k_6, .int .i64 c_1.Want, .bool c_1.Failed]]) Try.func9 rfl Try.ntmps9 rfl ?_
  refine WC.prune (l' := [(0, .agg #[.int .u16 c_1.Local, .int .u16 c_1.Remote, .int .u16 c_1.PSM, .int .i64 c_1.MTU, .int .i64 c_1.MPS, .int .i64 c_1.PeerMTU, .int .i64 c_1.PeerMPS, .int .i64 c_1.TxCredits, .int .i64 c_1.RxCredits, .int .i64 c_1.Given, .slice A_2 (List.length c_1.Out) k_3, .int .i64 c_1.Sent, .slice A_5 (List.length c_1.In) k_6, .int .i64 c_1.Want, .bool c_1.Failed])]) ⟨rfl, trivial⟩ ?_
  skip
  refine WC.seq ?_
  refine WC.region ?_
  refine WL.world (rw_box rfl rfl C) rfl ?_
  rintro v w ⟨b_8, rfl, hb_8, C', T⟩
  replace C' : Ctx U0 [] w0 [some b_8] _ := C'
  replace T : TR U0 [] _ [some b_8] _ [] := T
  replace hb_8 : Blk _ b_8 26 [.int .u16 c_1.Local, .int .u16 c_1.Remote, .int .u16 c_1.PSM, .int .i64 c_1.MTU, .int .i64 c_1.MPS, .int .i64 c_1.PeerMTU, .int .i64 c_1.PeerMPS, .int .i64 c_1.TxCredits, .int .i64 c_1.RxCredits, .int .i64 c_1.Given, .slice A_2 (List.length c_1.Out) k_3, .int .i64 c_1.Sent, .slice A_5 (List.length c_1.In) k_6, .int .i64 c_1.Want, .bool c_1.Failed] := hb_8
  replace f_4 := T.sl f_4
  replace f_7 := T.sl f_7
  clear T; replace C := C'; clear C'
  refine WL.val (rv_assign rfl) rfl ?_
  refine WL.nilThen ?_
  refine WC.seq ?_
  refine WC.region ?_
  refine WL.val (rv_fieldAddr FA26_12 rfl rfl) rfl ?_
  refine WL.val (rv_load1 Try.isAgg24 rfl hb_8 rfl) rfl ?_
  refine WL.val (rv_len (dt := c_1.In) Try.underlying24 rfl) rfl ?_
  refine WL.val (rv_assign rfl) rfl ?_
  refine WL.nilThen ?_
  refine WC.seqCut (fun a w => ∃ (x_9 : Int), (wirelesslaw33_light_j1 F c_1 x_9 = some r) ∧ (Holds 42 [(1, .pointer (some ⟨b_8, 0, none⟩)), (3, .int .i64 x_9)] a) ∧ (Ctx U0 [] w0 [some b_8] w) ∧ (Sl 1 (RSl 1 (RInt .u8)) (Mu U0 [some b_8]) w A_2 k_3 c_1.Out) ∧ (Sl 1 (RInt .u8) (Mu U0 [some b_8]) w A_5 k_6 c_1.In) ∧ (Blk w b_8 26 [.int .u16 c_1.Local, .int .u16 c_1.Remote, .int .u16 c_1.PSM, .int .i64 c_1.MTU, .int .i64 c_1.MPS, .int .i64 c_1.PeerMTU, .int .i64 c_1.PeerMPS, .int .i64 c_1.TxCredits, .int .i64 c_1.RxCredits, .int .i64 c_1.Given, .slice A_2 (List.length c_1.Out) k_3, .int .i64 c_1.Sent, .slice A_5 (List.length c_1.In) k_6, .int .i64 c_1.Want, .bool c_1.Failed])) ?_ ?_
  · refine WC.seq ?_
    refine WC.prune (l' := [(1, .pointer (some ⟨b_8, 0, none⟩)), (3, .int .i64 (len c_1.In))]) ⟨rfl, rfl, trivial⟩ ?_
    refine WC.region ?_
    refine WL.val (rv_assign rfl) rfl ?_
    refine WL.nilThen ?_
    refine WC.block ?_
    obtain ⟨o_13, hi_13, hpo_13⟩ := bind_inv hp
    clear hp
    refine WC.loop (fun n a w => ∃ (x_11 : Int) (x_12 : Int), (iter (fun s => wirelesslaw33_light_l13 F c_1 s.1 s.2) n (x_11, x_12) = some o_13) ∧ (Holds 42 [(1, .pointer (some ⟨b_8, 0, none⟩)), (3, .int .i64 x_11), (4, .int .i64 x_12)] a) ∧ (Ctx U0 [] w0 [some b_8] w) ∧ (Sl 1 (RSl 1 (RInt .u8)) (Mu U0 [some b_8]) w A_2 k_3 c_1.Out) ∧ (Sl 1 (RInt .u8) (Mu U0 [some b_8]) w A_5 k_6 c_1.In) ∧ (Blk w b_8 26 [.int .u16 c_1.Local, .int .u16 c_1.Remote, .int .u16 c_1.PSM, .int .i64 c_1.MTU, .int .i64 c_1.MPS, .int .i64 c_1.PeerMTU, .int .i64 c_1.PeerMPS, .int .i64 c_1.TxCredits, .int .i64 c_1.RxCredits, .int .i64 c_1.Given, .slice A_2 (List.length c_1.Out) k_3, .int .i64 c_1.Sent, .slice A_5 (List.length c_1.In) k_6, .int .i64 c_1.Want, .bool c_1.Failed])) F ?_ ?_
    · intro a ha
      exact ⟨len c_1.In, 0, hi_13, ha.sub ⟨rfl, rfl, rfl, trivial⟩, C, f_4, f_7, hb_8⟩
    · rintro n_13 a w ⟨x_11, x_12, hi_13, ha, C, f_4, f_7, hb_8⟩
      obtain ⟨n_13, q_13, rfl, hp, hs_13⟩ := iter_inv hi_13
      replace hp : wirelesslaw33_light_l13 F c_1 x_11 x_12 = some q_13 := hp
      clear hi_13
      refine WC.ofJ (l := [(1, .pointer (some ⟨b_8, 0, none⟩)), (3, .int .i64 x_11), (4, .int .i64 x_12)]) ?_ ha
      refine WC.seq ?_
      refine WC.seq ?_
      refine WC.region ?_
      refine WL.val (rv_move rfl) rfl ?_
      refine WL.val (rv_fieldAddr FA26_10 rfl rfl) rfl ?_
      refine WL.val (rv_load1 Try.isAgg23 rfl hb_8 rfl) rfl ?_
      refine WL.val (rv_len (dt := c_1.Out) Try.underlying23 rfl) rfl ?_
      refine WL.val (rv_lss rfl rfl) rfl ?_
      refine WL.val (rv_move rfl) rfl ?_
      refine WL.cutAt 3 (fun a w' => w = w' ∧ Holds 42 [(1, .pointer (some ⟨b_8, 0, none⟩)), (3, .int .i64 x_11), (4, .int .i64 x_12), (16, .bool ((decide (x_12 < (len c_1.Out))) && (decide (x_12 < 100))))] a) ?_ ?_
      · rcases Bool.eq_false_or_eq_true (decide (x_12 < (len c_1.Out))) with hg_14 | hg_14
        · refine WL.yes rfl rfl hg_14 ?_
          refine WL.val (rv_move rfl) rfl ?_
          refine WL.yes rfl rfl hg_14 ?_
          refine WL.val (rv_lss rfl rfl) rfl ?_
          refine WL.val (rv_pick_t rfl hg_14 rfl) rfl ?_
          refine WL.nil (fun a ha => ?_)
          exact ⟨rfl, ha.sub ⟨rfl, rfl, rfl, and_t hg_14, trivial⟩⟩
        · refine WL.no rfl rfl hg_14 rfl ?_
          refine WL.no rfl rfl hg_14 rfl ?_
          refine WL.val (rv_pick_f rfl hg_14 rfl) rfl ?_
          refine WL.nil (fun a ha => ?_)
          exact ⟨rfl, ha.sub ⟨rfl, rfl, rfl, and_f hg_14, trivial⟩⟩
      · rintro a w' ⟨rfl, ha⟩
        refine WL.ofJ (l := [(1, .pointer (some ⟨b_8, 0, none⟩)), (3, .int .i64 x_11), (4, .int .i64 x_12), (16, .bool ((decide (x_12 < (len c_1.Out))) && (decide (x_12 < 100))))]) ?_ ha
        refine WL.nilThen ?_
        refine WC.cond rfl (fun hc => ?_) (fun hc => ?_)
        · replace hp := if_t hp hc
          clear hc
          refine WC.skipThen ?_
          refine WC.seq ?_
          refine WC.block ?_
          refine WC.seq ?_
          refine WC.seq ?_
          refine WC.region ?_
          refine WL.val (rv_fieldAddr FA26_10 rfl rfl) rfl ?_
          refine WL.val (rv_load1 Try.isAgg23 rfl hb_8 rfl) rfl ?_
          refine WL.val (rv_move rfl) rfl ?_
          replace hp := bind_inv hp
          obtain ⟨x_15, e_x_15, hp⟩ := hp
          refine WL.ixSl (dt := c_1.Out) Try.underlying23 Try.sizeOf24 rfl rfl rfl f_4 e_x_15 rfl ?_
          intro d_16 es_17 f_18 hl hr
          obtain ⟨A_19, k_20, rfl, f_21⟩ := hr
          clear hl
          refine WL.val (rv_loadA1 (ad := d_16) (o := 0) Try.isAgg24 rfl f_18 rfl) rfl ?_
          refine WL.val (rv_len (dt := x_15) Try.underlying24 rfl) rfl ?_
          refine WL.val (rv_gtr rfl rfl) rfl ?_
          refine WL.nilThen ?_
          refine WC.cond rfl (fun hc => ?_) (fun hc => ?_)
          · replace hp := if_t hp hc
            clear hc
            refine WC.seq ?_
            refine WC.region ?_
            refine WL.val (rv_assign rfl) rfl ?_
            refine WL.nilThen ?_
            have ho := done_inv hp hs_13
            replace hp := hpo_13
            try rw [ho] at hp
            obtain rfl := some_inv' hp
            refine WC.ret (retK (rs := [.tmp 2]) (vs := [.bool false]) rfl ⟨rv1_tmp rfl, trivial⟩ ?_)
            have T : TR U0 [some b_8] w [] w [] := TR.pick [] rfl
            have C' : Ctx U0 [] w0 [] _ := C.pick [] (by decide) rfl
            clear T; replace C := C'; clear C'
            exact ⟨_, rfl, rfl, C⟩
          · replace hp := if_f hp hc
            clear hc
            refine WC.skipThen ?_
            refine WC.region ?_
            refine WL.val (rv_move rfl) rfl ?_
            refine WL.val (rv_fieldAddr FA26_10 rfl rfl) rfl ?_
            refine WL.val (rv_load1 Try.isAgg23 rfl hb_8 rfl) rfl ?_
            refine WL.val (rv_move rfl) rfl ?_
            replace hp := bind_inv hp
            obtain ⟨x_22, e_x_22, hp⟩ := hp
            refine WL.ixSl (dt := c_1.Out) Try.underlying23 Try.sizeOf24 rfl rfl rfl f_4 e_x_22 rfl ?_
            intro d_23 es_24 f_25 hl hr
            obtain ⟨A_26, k_27, rfl, f_28⟩ := hr
            clear hl
            refine WL.val (rv_loadA1 (ad := d_23) (o := 0) Try.isAgg24 rfl f_25 rfl) rfl ?_
            refine WL.val (rv_len (dt := x_22) Try.underlying24 rfl) rfl ?_
            refine WL.val (rv_add rfl rfl (wrap_i64 _)) rfl ?_
            refine WL.val (rv_assign rfl) rfl ?_
            refine WL.nilThen ?_
            refine WC.region ?_
            refine WL.val (rv_move rfl) rfl ?_
            refine WL.val (rv_add rfl rfl (wrap_i64 _)) rfl ?_
            refine WL.val (rv_assign rfl) rfl ?_
            refine WL.nil (fun a ha => ?_)
            have ho := next_inv hp hs_13
            exact ⟨n_13, Nat.lt_succ_self _, ⟨w64 (x_11 + (len x_22)), w64 (x_12 + 1), ho, ha.sub ⟨rfl, rfl, rfl, trivial⟩, C, f_4, f_7, hb_8⟩⟩
        · replace hp := if_f hp hc
          clear hc
          refine WC.exitJ rfl (fun a ha => ?_)
          have ho := done_inv hp hs_13
          replace hp := hpo_13
          try rw [ho] at hp
          exact ⟨x_11, hp, ha.sub ⟨rfl, rfl, trivial⟩, C, f_4, f_7, hb_8⟩
  · rintro a w ⟨x_9, hp, ha, C, f_4, f_7, hb_8⟩
    refine WC.ofJ (l := [(1, .pointer (some ⟨b_8, 0, none⟩)), (3, .int .i64 x_9)]) ?_ ha
    refine WC.seq ?_
    refine WC.region ?_
    refine WL.val (rv_fieldAddr FA26_10 rfl rfl) rfl ?_
    refine WL.val (rv_load1 Try.isAgg23 rfl hb_8 rfl) rfl ?_
    refine WL.val (rv_len (dt := c_1.Out) Try.underlying23 rfl) rfl ?_
    refine WL.val (rv_leq rfl rfl) rfl ?_
    refine WL.val (rv_move rfl) rfl ?_
    refine WL.cutAt 3 (fun a w' => w = w' ∧ Holds 42 [(41, .bool ((decide ((len c_1.Out) ≤ 100)) && (decide (x_9 ≤ 65536))))] a) ?_ ?_
    · rcases Bool.eq_false_or_eq_true (decide ((len c_1.Out) ≤ 100)) with hg_10 | hg_10
      · refine WL.yes rfl rfl hg_10 ?_
        refine WL.val (rv_move rfl) rfl ?_
        refine WL.yes rfl rfl hg_10 ?_
        refine WL.val (rv_leq rfl rfl) rfl ?_
        refine WL.val (rv_pick_t rfl hg_10 rfl) rfl ?_
        refine WL.nil (fun a ha => ?_)
        exact ⟨rfl, ha.sub ⟨and_t hg_10, trivial⟩⟩
      · refine WL.no rfl rfl hg_10 rfl ?_
        refine WL.no rfl rfl hg_10 rfl ?_
        refine WL.val (rv_pick_f rfl hg_10 rfl) rfl ?_
        refine WL.nil (fun a ha => ?_)
        exact ⟨rfl, ha.sub ⟨and_f hg_10, trivial⟩⟩
    · rintro a w' ⟨rfl, ha⟩
      refine WL.ofJ (l := [(41, .bool ((decide ((len c_1.Out) ≤ 100)) && (decide (x_9 ≤ 65536))))]) ?_ ha
      refine WL.val (rv_assign rfl) rfl ?_
      refine WL.nilThen ?_
      obtain rfl := some_inv' hp
      refine WC.ret (retK (rs := [.tmp 2]) (vs := [.bool ((decide ((len c_1.Out) ≤ 100)) && (decide (x_9 ≤ 65536)))]) rfl ⟨rv1_tmp rfl, trivial⟩ ?_)
      have T : TR U0 [some b_8] w [] w [] := TR.pick [] rfl
      have C' : Ctx U0 [] w0 [] _ := C.pick [] (by decide) rfl
      clear T; replace C := C'; clear C'
      exact ⟨_, rfl, rfl, C⟩

theorem ok_wirelessref33_Form (F : Nat) (U0 : Nat → Prop) (w0 : World) (sdu_1 : (List Int)) (A_2 : Option Addr) (k_3 : Nat) (C : Ctx U0 [] w0 [] w0) (f_4 : Sl 1 (RInt .u8) (Mu U0 []) w0 A_2 k_3 sdu_1) (r : (List Int)) (hp : wirelessref33_Form F sdu_1 = some r) :
    Calls Try.prog 35 #[.slice A_2 (List.length sdu_1) k_3] w0 fun e w => ∃ v, e = .returned v ∧ ∃ (A_15 : Option Addr) (k_16 : Nat), (v = .slice A_15 (List.length r) k_16) ∧ (Ctx U0 [] w0 [] w) ∧ (Sl 1 (RInt .u8) (Mu U0 []) w A_15 k_16 r) := by
  refine calls_enter (vs := [.slice A_2 (List.length sdu_1) k_3]) Try.func35 rfl Try.ntmps35 rfl ?_
  refine WC.prune (l' := [(0, .slice A_2 (List.length sdu_1) k_3)]) ⟨rfl, trivial⟩ ?_
  skip
  refine WC.seq ?_
  refine WC.region ?_
  refine WL.val (rv_assign rfl) rfl ?_
  refine WL.nilThen ?_
  refine WC.seq ?_
  refine WC.region ?_
  refine WL.val (rv_move rfl) rfl ?_
  refine WL.val (rv_len (dt := sdu_1) Try.underlying24 rfl) rfl ?_
  refine WL.val (rv_conv Try.underlying3 Try.underlying64 rfl (wrap_u64 _)) rfl ?_
  replace hp := bind_inv hp
  obtain ⟨x_5, e_x_5, hp⟩ := hp
  refine WL.call (rc_func Try.call43 rfl) (ok_wirelessref23_Put F (Mu U0 []) _ (wu64 (len sdu_1)) 2 (C.give [] [] (by decide) rfl rfl (by decide)) _ e_x_5) rfl ?_
  rintro v w ⟨A_6, k_7, rfl, D, f_8⟩
  obtain ⟨C', T⟩ := C.join D [] [] (by decide) rfl rfl (by decide)
  replace C' : Ctx U0 [] w0 [ob A_6] _ := C'
  replace T : TR U0 [] _ [ob A_6] _ [] := T
  replace f_8 : Own 1 5 (RInt .u8) (Mu U0 [ob A_6]) _ A_6 k_7 x_5 := f_8.mu (mu_join (R := [ob A_6]) (L2 := []) (fun b h => h))
  replace f_4 := T.sl f_4
  clear T; replace C := C'; clear C'
  clear D
  refine WL.val (rv_move rfl) rfl ?_
  replace hp := bind_inv hp
  obtain ⟨l_10, e_l_10, hp⟩ := hp
  refine WL.world (rw_append (i := 0) (dt := x_5) Try.underlying24 I5 rfl rfl rfl rfl rfl rfl rfl rfl f_8 (f_4.src) e_l_10 rfl C) rfl ?_
  rintro v w ⟨A_11, k_12, rfl, f_13, C', T⟩
  replace C' : Ctx U0 [] w0 [ob A_11] _ := C'
  replace T : TR U0 [ob A_6] _ [ob A_11] _ _ := T
  replace f_13 : Own 1 5 (RInt .u8) (Mu U0 [ob A_11]) _ A_11 k_12 l_10 := f_13
  replace f_4 := T.sl f_4
  clear T; replace C := C'; clear C'
  refine WL.val (rv_assign rfl) rfl ?_
  refine WL.nilThen ?_
  obtain rfl := some_inv' hp
  refine WC.ret (retK (rs := [.tmp 2]) (vs := [.slice A_11 (List.length l_10) k_12]) rfl ⟨rv1_tmp rfl, trivial⟩ ?_)
  have f_18 : Sl 1 (RInt .u8) (Mu U0 []) _ A_11 k_12 l_10 := f_13.toSl (C.off (i := 0) rfl [] rfl (by decide)) (Mu.weaken (mem_pick [] rfl))
  have T : TR U0 [ob A_11] w [] w [] := TR.pick [] rfl
  have C' : Ctx U0 [] w0 [] _ := C.pick [] (by decide) rfl
  clear T; replace C := C'; clear C'
  exact ⟨_, rfl, A_11, k_12, rfl, C, f_18⟩
end V
end Go.Proofs.Ytfdiabglpgkbeaa
