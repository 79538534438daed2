/-
  Walks, written by program: each Go function returns what its pure twin says.
-/
import Derived.Test.YtfdiabglpgkbeaaRep
namespace Go.Proofs.Ytfdiabglpgkbeaa
namespace V
theorem ok_wirelessref33_isCID (F : Nat) (U0 : Nat → Prop) (w0 : World) (n_1 : Int) (C : Ctx U0 [] w0 [] w0)  (r : Bool) (hp : wirelessref33_isCID F n_1 = some r) :
    Calls Try.prog 29 #[.int .u16 n_1] w0 fun e w => ∃ v, e = .returned v ∧ (v = .bool r) ∧ (Ctx U0 [] w0 [] w) := by
  refine calls_enter (vs := [.int .u16 n_1]) Try.func29 rfl Try.ntmps29 rfl ?_
  refine WC.prune (l' := [(0, .int .u16 n_1)]) ⟨rfl, trivial⟩ ?_
  skip
  refine WC.seq ?_
  refine WC.region ?_
  refine WL.val (rv_assign rfl) rfl ?_
  refine WL.nilThen ?_
  refine WC.seq ?_
  refine WC.region ?_
  refine WL.val (rv_move rfl) rfl ?_
  refine WL.val (rv_geq rfl rfl) rfl ?_
  refine WL.val (rv_move rfl) rfl ?_
  refine WL.cutAt 3 (fun a w' => w0 = w' ∧ Holds 9 [(8, .bool ((decide (n_1 ≥ 64)) && (decide (n_1 ≤ 127))))] a) ?_ ?_
  · rcases Bool.eq_false_or_eq_true (decide (n_1 ≥ 64)) with hg_2 | hg_2
    · refine WL.yes rfl rfl hg_2 ?_
      refine WL.val (rv_move rfl) rfl ?_
      refine WL.yes rfl rfl hg_2 ?_
      refine WL.val (rv_leq rfl rfl) rfl ?_
      refine WL.val (rv_pick_t rfl hg_2 rfl) rfl ?_
      refine WL.nil (fun a ha => ?_)
      exact ⟨rfl, ha.sub ⟨and_t hg_2, trivial⟩⟩
    · refine WL.no rfl rfl hg_2 rfl ?_
      refine WL.no rfl rfl hg_2 rfl ?_
      refine WL.val (rv_pick_f rfl hg_2 rfl) rfl ?_
      refine WL.nil (fun a ha => ?_)
      exact ⟨rfl, ha.sub ⟨and_f hg_2, trivial⟩⟩
  · rintro a w' ⟨rfl, ha⟩
    refine WL.ofJ (l := [(8, .bool ((decide (n_1 ≥ 64)) && (decide (n_1 ≤ 127))))]) ?_ ha
    refine WL.val (rv_assign rfl) rfl ?_
    refine WL.nilThen ?_
    obtain rfl := some_inv' hp
    refine WC.ret (retK (rs := [.tmp 2]) (vs := [.bool ((decide (n_1 ≥ 64)) && (decide (n_1 ≤ 127)))]) rfl ⟨rv1_tmp rfl, trivial⟩ ?_)
    exact ⟨_, rfl, rfl, C⟩

theorem ok_wirelessref33_isSize (F : Nat) (U0 : Nat → Prop) (w0 : World) (n_1 : Int) (C : Ctx U0 [] w0 [] w0)  (r : Bool) (hp : wirelessref33_isSize F n_1 = some r) :
    Calls Try.prog 30 #[.int .i64 n_1] w0 fun e w => ∃ v, e = .returned v ∧ (v = .bool r) ∧ (Ctx U0 [] w0 [] w) := by
  refine calls_enter (vs := [.int .i64 n_1]) Try.func30 rfl Try.ntmps30 rfl ?_
  refine WC.prune (l' := [(0, .int .i64 n_1)]) ⟨rfl, trivial⟩ ?_
  skip
  refine WC.seq ?_
  refine WC.region ?_
  refine WL.val (rv_assign rfl) rfl ?_
  refine WL.nilThen ?_
  refine WC.seq ?_
  refine WC.region ?_
  refine WL.val (rv_move rfl) rfl ?_
  refine WL.val (rv_geq rfl rfl) rfl ?_
  refine WL.val (rv_move rfl) rfl ?_
  refine WL.cutAt 3 (fun a w' => w0 = w' ∧ Holds 9 [(8, .bool ((decide (n_1 ≥ 23)) && (decide (n_1 ≤ 4096))))] a) ?_ ?_
  · rcases Bool.eq_false_or_eq_true (decide (n_1 ≥ 23)) with hg_2 | hg_2
    · refine WL.yes rfl rfl hg_2 ?_
      refine WL.val (rv_move rfl) rfl ?_
      refine WL.yes rfl rfl hg_2 ?_
      refine WL.val (rv_leq rfl rfl) rfl ?_
      refine WL.val (rv_pick_t rfl hg_2 rfl) rfl ?_
      refine WL.nil (fun a ha => ?_)
      exact ⟨rfl, ha.sub ⟨and_t hg_2, trivial⟩⟩
    · refine WL.no rfl rfl hg_2 rfl ?_
      refine WL.no rfl rfl hg_2 rfl ?_
      refine WL.val (rv_pick_f rfl hg_2 rfl) rfl ?_
      refine WL.nil (fun a ha => ?_)
      exact ⟨rfl, ha.sub ⟨and_f hg_2, trivial⟩⟩
  · rintro a w' ⟨rfl, ha⟩
    refine WL.ofJ (l := [(8, .bool ((decide (n_1 ≥ 23)) && (decide (n_1 ≤ 4096))))]) ?_ ha
    refine WL.val (rv_assign rfl) rfl ?_
    refine WL.nilThen ?_
    obtain rfl := some_inv' hp
    refine WC.ret (retK (rs := [.tmp 2]) (vs := [.bool ((decide (n_1 ≥ 23)) && (decide (n_1 ≤ 4096)))]) rfl ⟨rv1_tmp rfl, trivial⟩ ?_)
    exact ⟨_, rfl, rfl, C⟩

theorem ok_wirelessref33_isCount (F : Nat) (U0 : Nat → Prop) (w0 : World) (n_1 : Int) (C : Ctx U0 [] w0 [] w0)  (r : Bool) (hp : wirelessref33_isCount F n_1 = some r) :
    Calls Try.prog 31 #[.int .i64 n_1] w0 fun e w => ∃ v, e = .returned v ∧ (v = .bool r) ∧ (Ctx U0 [] w0 [] w) := by
  refine calls_enter (vs := [.int .i64 n_1]) Try.func31 rfl Try.ntmps31 rfl ?_
  refine WC.prune (l' := [(0, .int .i64 n_1)]) ⟨rfl, trivial⟩ ?_
  skip
  refine WC.seq ?_
  refine WC.region ?_
  refine WL.val (rv_assign rfl) rfl ?_
  refine WL.nilThen ?_
  refine WC.seq ?_
  refine WC.region ?_
  refine WL.val (rv_move rfl) rfl ?_
  refine WL.val (rv_geq rfl rfl) rfl ?_
  refine WL.val (rv_move rfl) rfl ?_
  refine WL.cutAt 3 (fun a w' => w0 = w' ∧ Holds 9 [(8, .bool ((decide (n_1 ≥ 0)) && (decide (n_1 ≤ 65535))))] a) ?_ ?_
  · rcases Bool.eq_false_or_eq_true (decide (n_1 ≥ 0)) with hg_2 | hg_2
    · refine WL.yes rfl rfl hg_2 ?_
      refine WL.val (rv_move rfl) rfl ?_
      refine WL.yes rfl rfl hg_2 ?_
      refine WL.val (rv_leq rfl rfl) rfl ?_
      refine WL.val (rv_pick_t rfl hg_2 rfl) rfl ?_
      refine WL.nil (fun a ha => ?_)
      exact ⟨rfl, ha.sub ⟨and_t hg_2, trivial⟩⟩
    · refine WL.no rfl rfl hg_2 rfl ?_
      refine WL.no rfl rfl hg_2 rfl ?_
      refine WL.val (rv_pick_f rfl hg_2 rfl) rfl ?_
      refine WL.nil (fun a ha => ?_)
      exact ⟨rfl, ha.sub ⟨and_f hg_2, trivial⟩⟩
  · rintro a w' ⟨rfl, ha⟩
    refine WL.ofJ (l := [(8, .bool ((decide (n_1 ≥ 0)) && (decide (n_1 ≤ 65535))))]) ?_ ha
    refine WL.val (rv_assign rfl) rfl ?_
    refine WL.nilThen ?_
    obtain rfl := some_inv' hp
    refine WC.ret (retK (rs := [.tmp 2]) (vs := [.bool ((decide (n_1 ≥ 0)) && (decide (n_1 ≤ 65535)))]) rfl ⟨rv1_tmp rfl, trivial⟩ ?_)
    exact ⟨_, rfl, rfl, C⟩

theorem ok_sdu_in (F : Nat) (U0 : Nat → Prop) (w0 : World) (n_1 : Int) (low_2 : Int) (high_3 : Int) (C : Ctx U0 [] w0 [] w0)  (r : Bool) (hp : sdu_in F n_1 low_2 high_3 = some r) :
    Calls Try.prog 41 #[.int .i64 n_1, .int .i64 low_2, .int .i64 high_3] w0 fun e w => ∃ v, e = .returned v ∧ (v = .bool r) ∧ (Ctx U0 [] w0 [] w) := by
  refine calls_enter (vs := [.int .i64 n_1, .int .i64 low_2, .int .i64 high_3]) Try.func41 rfl Try.ntmps41 rfl ?_
  refine WC.prune (l' := [(0, .int .i64 n_1), (1, .int .i64 low_2), (2, .int .i64 high_3)]) ⟨rfl, rfl, rfl, trivial⟩ ?_
  skip
  refine WC.seq ?_
  refine WC.region ?_
  refine WL.val (rv_assign rfl) rfl ?_
  refine WL.nilThen ?_
  refine WC.seq ?_
  refine WC.region ?_
  refine WL.val (rv_move rfl) rfl ?_
  refine WL.val (rv_move rfl) rfl ?_
  refine WL.val (rv_geq rfl rfl) rfl ?_
  refine WL.val (rv_move rfl) rfl ?_
  refine WL.cutAt 4 (fun a w' => w0 = w' ∧ Holds 15 [(14, .bool ((decide (n_1 ≥ low_2)) && (decide (n_1 ≤ high_3))))] a) ?_ ?_
  · rcases Bool.eq_false_or_eq_true (decide (n_1 ≥ low_2)) with hg_4 | hg_4
    · refine WL.yes rfl rfl hg_4 ?_
      refine WL.val (rv_move rfl) rfl ?_
      refine WL.yes rfl rfl hg_4 ?_
      refine WL.val (rv_move rfl) rfl ?_
      refine WL.yes rfl rfl hg_4 ?_
      refine WL.val (rv_leq rfl rfl) rfl ?_
      refine WL.val (rv_pick_t rfl hg_4 rfl) rfl ?_
      refine WL.nil (fun a ha => ?_)
      exact ⟨rfl, ha.sub ⟨and_t hg_4, trivial⟩⟩
    · refine WL.no rfl rfl hg_4 rfl ?_
      refine WL.no rfl rfl hg_4 rfl ?_
      refine WL.no rfl rfl hg_4 rfl ?_
      refine WL.val (rv_pick_f rfl hg_4 rfl) rfl ?_
      refine WL.nil (fun a ha => ?_)
      exact ⟨rfl, ha.sub ⟨and_f hg_4, trivial⟩⟩
  · rintro a w' ⟨rfl, ha⟩
    refine WL.ofJ (l := [(14, .bool ((decide (n_1 ≥ low_2)) && (decide (n_1 ≤ high_3))))]) ?_ ha
    refine WL.val (rv_assign rfl) rfl ?_
    refine WL.nilThen ?_
    obtain rfl := some_inv' hp
    refine WC.ret (retK (rs := [.tmp 6]) (vs := [.bool ((decide (n_1 ≥ low_2)) && (decide (n_1 ≤ high_3)))]) rfl ⟨rv1_tmp rfl, trivial⟩ ?_)
    exact ⟨_, rfl, rfl, C⟩

theorem ok_octets_Join (F : Nat) (U0 : Nat → Prop) (w0 : World) (parts_1 : (List (List Int))) (A_2 : Option Addr) (k_3 : Nat) (C : Ctx U0 [] w0 [] w0) (f_4 : Sl 1 (RSl 1 (RInt .u8)) (Mu U0 []) w0 A_2 k_3 parts_1) (r : (List Int)) (hp : octets_Join F parts_1 = some r) :
    Calls Try.prog 37 #[.slice A_2 (List.length parts_1) k_3] w0 fun e w => ∃ v, e = .returned v ∧ ∃ (A_29 : Option Addr) (k_30 : Nat), (v = .slice A_29 (List.length r) k_30) ∧ (Ctx U0 [] w0 [] w) ∧ (Sl 1 (RInt .u8) (Mu U0 []) w A_29 k_30 r) := by
  refine calls_enter (vs := [.slice A_2 (List.length parts_1) k_3]) Try.func37 rfl Try.ntmps37 rfl ?_
  refine WC.prune (l' := [(0, .slice A_2 (List.length parts_1) k_3)]) ⟨rfl, trivial⟩ ?_
  skip
  refine WC.seq ?_
  refine WC.region ?_
  refine WL.val (rv_assign rfl) rfl ?_
  refine WL.nilThen ?_
  refine WC.seq ?_
  refine WC.region ?_
  refine WL.val (rv_assign rfl) rfl ?_
  refine WL.nilThen ?_
  refine WC.seqCut (fun a w => ∃ (l_5 : (List Int)) (A_6 : Option Addr) (k_7 : Nat), (octets_Join_j1 F l_5 = some r) ∧ (Holds 17 [(3, .slice A_6 (List.length l_5) k_7)] a) ∧ (Ctx U0 [] w0 [ob A_6] w) ∧ (Own 1 5 (RInt .u8) (Mu U0 [ob A_6]) w A_6 k_7 l_5)) ?_ ?_
  · refine WC.seq ?_
    refine WC.region ?_
    refine WL.val (rv_move rfl) rfl ?_
    refine WL.val (rv_len (dt := parts_1) Try.underlying23 rfl) rfl ?_
    refine WL.val (rv_move rfl) rfl ?_
    refine WL.nilThen ?_
    refine WC.block ?_
    obtain ⟨o_16, hi_16, hpo_16⟩ := bind_inv hp
    clear hp
    refine WC.loop (fun n a w => ∃ (l_10 : (List Int)) (x_15 : Int) (A_11 : Option Addr) (k_12 : Nat), (iter (fun s => octets_Join_l16 F parts_1 s.1 s.2) n (l_10, x_15) = some o_16) ∧ (Holds 17 [(3, .slice A_11 (List.length l_10) k_12), (6, .slice A_2 (List.length parts_1) k_3), (7, .int .i64 (len parts_1)), (8, .int .i64 x_15)] a) ∧ (Ctx U0 [] w0 [ob A_11] w) ∧ (Sl 1 (RSl 1 (RInt .u8)) (Mu U0 [ob A_11]) w A_2 k_3 parts_1) ∧ (Own 1 5 (RInt .u8) (Mu U0 [ob A_11]) w A_11 k_12 l_10)) F ?_ ?_
    · intro a ha
      obtain ⟨C', T⟩ := C.addNone
      replace f_4 := T.sl f_4
      clear T; replace C := C'; clear C'
      exact ⟨[], 0, none, 0, hi_16, ha.sub ⟨rfl, rfl, rfl, rfl, trivial⟩, C, f_4, Own.nil⟩
    · rintro n_16 a w ⟨l_10, x_15, A_11, k_12, hi_16, ha, C, f_4, f_13⟩
      obtain ⟨n_16, q_16, rfl, hp, hs_16⟩ := iter_inv hi_16
      replace hp : octets_Join_l16 F parts_1 l_10 x_15 = some q_16 := hp
      clear hi_16
      refine WC.ofJ (l := [(3, .slice A_11 (List.length l_10) k_12), (6, .slice A_2 (List.length parts_1) k_3), (7, .int .i64 (len parts_1)), (8, .int .i64 x_15)]) ?_ ha
      refine WC.seq ?_
      refine WC.region ?_
      refine WL.val (rv_lss rfl rfl) rfl ?_
      refine WL.nilThen ?_
      refine WC.seq ?_
      refine WC.cond rfl (fun hc => ?_) (fun hc => ?_)
      · replace hp := if_t hp hc
        clear hc
        refine WC.skipThen ?_
        refine WC.seq ?_
        refine WC.block ?_
        refine WC.seq ?_
        refine WC.region ?_
        replace hp := bind_inv hp
        obtain ⟨x_17, e_x_17, hp⟩ := hp
        refine WL.ixSl (dt := parts_1) Try.underlying23 Try.sizeOf24 rfl rfl rfl f_4 e_x_17 rfl ?_
        intro d_18 es_19 f_20 hl hr
        obtain ⟨A_21, k_22, rfl, f_23⟩ := hr
        clear hl
        refine WL.val (rv_loadA1 (ad := d_18) (o := 0) Try.isAgg24 rfl f_20 rfl) rfl ?_
        refine WL.val (rv_assign rfl) rfl ?_
        refine WL.nilThen ?_
        refine WC.region ?_
        refine WL.val (rv_move rfl) rfl ?_
        refine WL.val (rv_move rfl) rfl ?_
        replace hp := bind_inv hp
        obtain ⟨l_24, e_l_24, hp⟩ := hp
        refine WL.world (rw_append (i := 0) (dt := l_10) Try.underlying24 I5 rfl rfl rfl rfl rfl rfl rfl rfl f_13 (f_23.src) e_l_24 rfl C) rfl ?_
        rintro v w ⟨A_25, k_26, rfl, f_27, C', T⟩
        replace C' : Ctx U0 [] w0 [ob A_25] _ := C'
        replace T : TR U0 [ob A_11] _ [ob A_25] _ _ := T
        replace f_27 : Own 1 5 (RInt .u8) (Mu U0 [ob A_25]) _ A_25 k_26 l_24 := f_27
        replace f_4 := T.sl f_4
        replace f_23 := T.sl f_23
        clear T; replace C := C'; clear C'
        refine WL.val (rv_assign rfl) rfl ?_
        refine WL.nilThen ?_
        refine WC.region ?_
        refine WL.val (rv_add rfl rfl (wrap_i64 _)) rfl ?_
        refine WL.val (rv_move rfl) rfl ?_
        refine WL.nil (fun a ha => ?_)
        have ho := next_inv hp hs_16
        exact ⟨n_16, Nat.lt_succ_self _, ⟨l_24, w64 (x_15 + 1), A_25, k_26, ho, ha.sub ⟨rfl, rfl, rfl, rfl, trivial⟩, C, f_4, f_27⟩⟩
      · replace hp := if_f hp hc
        clear hc
        refine WC.exitJ rfl (fun a ha => ?_)
        have ho := done_inv hp hs_16
        replace hp := hpo_16
        try rw [ho] at hp
        exact ⟨l_10, A_11, k_12, hp, ha.sub ⟨rfl, trivial⟩, C, f_13⟩
  · rintro a w ⟨l_5, A_6, k_7, hp, ha, C, f_8⟩
    refine WC.ofJ (l := [(3, .slice A_6 (List.length l_5) k_7)]) ?_ ha
    refine WC.seq ?_
    refine WC.region ?_
    refine WL.val (rv_move rfl) rfl ?_
    refine WL.val (rv_assign rfl) rfl ?_
    refine WL.nilThen ?_
    obtain rfl := some_inv' hp
    refine WC.ret (retK (rs := [.tmp 2]) (vs := [.slice A_6 (List.length l_5) k_7]) rfl ⟨rv1_tmp rfl, trivial⟩ ?_)
    have f_13 : Sl 1 (RInt .u8) (Mu U0 []) _ A_6 k_7 l_5 := f_8.toSl (C.off (i := 0) rfl [] rfl (by decide)) (Mu.weaken (mem_pick [] rfl))
    have T : TR U0 [ob A_6] w [] w [] := TR.pick [] rfl
    have C' : Ctx U0 [] w0 [] _ := C.pick [] (by decide) rfl
    clear T; replace C := C'; clear C'
    exact ⟨_, rfl, A_6, k_7, rfl, C, f_13⟩

theorem ok_wirelessref23_Same (F : Nat) (U0 : Nat → Prop) (w0 : World) (a_1 : (List Int)) (b_5 : (List Int)) (A_2 : Option Addr) (k_3 : Nat) (A_6 : Option Addr) (k_7 : Nat) (C : Ctx U0 [] w0 [] w0) (f_4 : Sl 1 (RInt .u8) (Mu U0 []) w0 A_2 k_3 a_1) (f_8 : Sl 1 (RInt .u8) (Mu U0 []) w0 A_6 k_7 b_5) (r : Bool) (hp : wirelessref23_Same F a_1 b_5 = some r) :
    Calls Try.prog 20 #[.slice A_2 (List.length a_1) k_3, .slice A_6 (List.length b_5) k_7] w0 fun e w => ∃ v, e = .returned v ∧ (v = .bool r) ∧ (Ctx U0 [] w0 [] w) := by
  refine calls_enter (vs := [.slice A_2 (List.length a_1) k_3, .slice A_6 (List.length b_5) k_7]) Try.func20 rfl Try.ntmps20 rfl ?_
  refine WC.prune (l' := [(0, .slice A_2 (List.length a_1) k_3), (1, .slice A_6 (List.length b_5) k_7)]) ⟨rfl, rfl, trivial⟩ ?_
  skip
  refine WC.seq ?_
  refine WC.region ?_
  refine WL.val (rv_assign rfl) rfl ?_
  refine WL.nilThen ?_
  refine WC.seq ?_
  refine WC.region ?_
  refine WL.val (rv_move rfl) rfl ?_
  refine WL.b2s Try.underlying24 Try.underlying5 Try.underlying9 rfl rfl (f_4.src) rfl ?_
  intro s_9 f_10
  refine WL.val (rv_move rfl) rfl ?_
  refine WL.b2s Try.underlying24 Try.underlying5 Try.underlying9 rfl rfl (f_8.src) rfl ?_
  intro s_11 f_12
  refine WL.val (rv_eqlss' (f_10) (f_12) rfl rfl) rfl ?_
  refine WL.val (rv_assign rfl) rfl ?_
  refine WL.nilThen ?_
  obtain rfl := some_inv' hp
  refine WC.ret (retK (rs := [.tmp 4]) (vs := [.bool ((str a_1) == (str b_5))]) rfl ⟨rv1_tmp rfl, trivial⟩ ?_)
  exact ⟨_, rfl, rfl, C⟩

theorem ok_wirelessref23_Put (F : Nat) (U0 : Nat → Prop) (w0 : World) (n_1 : Int) (size_2 : Int) (C : Ctx U0 [] w0 [] w0)  (r : (List Int)) (hp : wirelessref23_Put F n_1 size_2 = some r) :
    Calls Try.prog 43 #[.int .u64 n_1, .int .i64 size_2] w0 fun e w => ∃ v, e = .returned v ∧ ∃ (A_27 : Option Addr) (k_28 : Nat), (v = .slice A_27 (List.length r) k_28) ∧ (Ctx U0 [] w0 [ob A_27] w) ∧ (Own 1 5 (RInt .u8) (Mu U0 [ob A_27]) w A_27 k_28 r) := by
  refine calls_enter (vs := [.int .u64 n_1, .int .i64 size_2]) Try.func43 rfl Try.ntmps43 rfl ?_
  refine WC.prune (l' := [(0, .int .u64 n_1), (1, .int .i64 size_2)]) ⟨rfl, rfl, trivial⟩ ?_
  skip
  refine WC.seq ?_
  refine WC.region ?_
  refine WL.val (rv_assign rfl) rfl ?_
  refine WL.nilThen ?_
  refine WC.seq ?_
  refine WC.region ?_
  refine WL.val (rv_assign rfl) rfl ?_
  refine WL.nilThen ?_
  refine WC.seqCut (fun a w => ∃ (l_3 : (List Int)) (A_4 : Option Addr) (k_5 : Nat), (wirelessref23_Put_j1 F l_3 = some r) ∧ (Holds 21 [(5, .slice A_4 (List.length l_3) k_5)] a) ∧ (Ctx U0 [] w0 [ob A_4] w) ∧ (Own 1 5 (RInt .u8) (Mu U0 [ob A_4]) w A_4 k_5 l_3)) ?_ ?_
  · refine WC.seq ?_
    refine WC.region ?_
    refine WL.val (rv_assign rfl) rfl ?_
    refine WL.nilThen ?_
    refine WC.block ?_
    obtain ⟨o_15, hi_15, hpo_15⟩ := bind_inv hp
    clear hp
    refine WC.loop (fun n a w => ∃ (x_8 : Int) (l_9 : (List Int)) (x_14 : Int) (A_10 : Option Addr) (k_11 : Nat), (iter (fun s => wirelessref23_Put_l15 F size_2 s.1 s.2.1 s.2.2) n (x_8, l_9, x_14) = some o_15) ∧ (Holds 21 [(0, .int .u64 x_8), (1, .int .i64 size_2), (5, .slice A_10 (List.length l_9) k_11), (6, .int .i64 x_14)] a) ∧ (Ctx U0 [] w0 [ob A_10] w) ∧ (Own 1 5 (RInt .u8) (Mu U0 [ob A_10]) w A_10 k_11 l_9)) F ?_ ?_
    · intro a ha
      obtain ⟨C', T⟩ := C.addNone
      clear T; replace C := C'; clear C'
      exact ⟨n_1, [], 0, none, 0, hi_15, ha.sub ⟨rfl, rfl, rfl, rfl, trivial⟩, C, Own.nil⟩
    · rintro n_15 a w ⟨x_8, l_9, x_14, A_10, k_11, hi_15, ha, C, f_12⟩
      obtain ⟨n_15, q_15, rfl, hp, hs_15⟩ := iter_inv hi_15
      replace hp : wirelessref23_Put_l15 F size_2 x_8 l_9 x_14 = some q_15 := hp
      clear hi_15
      refine WC.ofJ (l := [(0, .int .u64 x_8), (1, .int .i64 size_2), (5, .slice A_10 (List.length l_9) k_11), (6, .int .i64 x_14)]) ?_ ha
      refine WC.seq ?_
      refine WC.seq ?_
      refine WC.region ?_
      refine WL.val (rv_move rfl) rfl ?_
      refine WL.val (rv_move rfl) rfl ?_
      refine WL.val (rv_lss rfl rfl) rfl ?_
      refine WL.nilThen ?_
      refine WC.cond rfl (fun hc => ?_) (fun hc => ?_)
      · replace hp := if_t hp hc
        clear hc
        refine WC.skipThen ?_
        refine WC.seq ?_
        refine WC.block ?_
        refine WC.seq ?_
        refine WC.region ?_
        refine WL.val (rv_move rfl) rfl ?_
        refine WL.val (rv_move rfl) rfl ?_
        replace hp := bind_inv hp
        obtain ⟨x_16, e_x_16, hp⟩ := hp
        refine WL.val (rv_rem rfl rfl e_x_16) rfl ?_
        refine WL.val (rv_conv Try.underlying64 Try.underlying5 rfl (wrap_u8 _)) rfl ?_
        refine WL.world (rw_buildSlice (sz := 1) (R := (RInt .u8)) (es := [.int .u8 (wu8 x_16)]) (dt := [wu8 x_16]) Try.underlying24 Try.sizeOf5 Try.zeroValue5 rfl rfl rfl rfl rfl rfl rfl rfl ⟨_, _, rfl, rfl, rfl, rfl⟩ C) rfl ?_
        rintro v w ⟨A_18, k_19, rfl, f_20, C', T⟩
        replace C' : Ctx U0 [] w0 [ob A_18, ob A_10] _ := C'
        replace T : TR U0 [ob A_10] _ [ob A_18, ob A_10] _ _ := T
        replace f_20 : Own 1 5 (RInt .u8) (Mu U0 [ob A_18, ob A_10]) _ A_18 k_19 [wu8 x_16] := f_20
        replace f_12 := T.own ne0 f_12
        clear T; replace C := C'; clear C'
        replace hp := bind_inv hp
        obtain ⟨l_21, e_l_21, hp⟩ := hp
        refine WL.world (rw_append (i := 1) (dt := l_9) Try.underlying24 I5 rfl rfl rfl rfl rfl rfl rfl rfl f_12 (f_20.src) e_l_21 rfl C) rfl ?_
        rintro v w ⟨A_22, k_23, rfl, f_24, C', T⟩
        replace C' : Ctx U0 [] w0 [ob A_18, ob A_22] _ := C'
        replace T : TR U0 [ob A_18, ob A_10] _ [ob A_18, ob A_22] _ _ := T
        replace f_24 : Own 1 5 (RInt .u8) (Mu U0 [ob A_18, ob A_22]) _ A_22 k_23 l_21 := f_24
        replace f_20 := T.own (C.ne (i := 0) rfl [1] rfl (by decide)) f_20
        clear T; replace C := C'; clear C'
        refine WL.val (rv_assign rfl) rfl ?_
        refine WL.nilThen ?_
        refine WC.region ?_
        refine WL.val (rv_move rfl) rfl ?_
        replace hp := bind_inv hp
        obtain ⟨x_26, e_x_26, hp⟩ := hp
        refine WL.val (rv_quo rfl rfl e_x_26) rfl ?_
        refine WL.val (rv_assign rfl) rfl ?_
        refine WL.nilThen ?_
        refine WC.region ?_
        refine WL.val (rv_move rfl) rfl ?_
        refine WL.val (rv_add rfl rfl (wrap_i64 _)) rfl ?_
        refine WL.val (rv_assign rfl) rfl ?_
        refine WL.nil (fun a ha => ?_)
        have ho := next_inv hp hs_15
        have T : TR U0 [ob A_18, ob A_22] w [ob A_22] w [] := TR.pick [1] rfl
        have C' : Ctx U0 [] w0 [ob A_22] _ := C.pick [1] (by decide) rfl
        replace f_24 := T.own ne0 f_24
        clear T; replace C := C'; clear C'
        exact ⟨n_15, Nat.lt_succ_self _, ⟨x_26, l_21, w64 (x_14 + 1), A_22, k_23, ho, ha.sub ⟨rfl, rfl, rfl, rfl, trivial⟩, C, f_24⟩⟩
      · replace hp := if_f hp hc
        clear hc
        refine WC.exitJ rfl (fun a ha => ?_)
        have ho := done_inv hp hs_15
        replace hp := hpo_15
        try rw [ho] at hp
        exact ⟨l_9, A_10, k_11, hp, ha.sub ⟨rfl, trivial⟩, C, f_12⟩
  · rintro a w ⟨l_3, A_4, k_5, hp, ha, C, f_6⟩
    refine WC.ofJ (l := [(5, .slice A_4 (List.length l_3) k_5)]) ?_ ha
    refine WC.seq ?_
    refine WC.region ?_
    refine WL.val (rv_move rfl) rfl ?_
    refine WL.val (rv_assign rfl) rfl ?_
    refine WL.nilThen ?_
    obtain rfl := some_inv' hp
    refine WC.ret (retK (rs := [.tmp 4]) (vs := [.slice A_4 (List.length l_3) k_5]) rfl ⟨rv1_tmp rfl, trivial⟩ ?_)
    exact ⟨_, rfl, A_4, k_5, rfl, C, f_6⟩

theorem ok_wirelessref33_SameLists (F : Nat) (U0 : Nat → Prop) (w0 : World) (a_1 : (List (List Int))) (b_5 : (List (List Int))) (A_2 : Option Addr) (k_3 : Nat) (A_6 : Option Addr) (k_7 : Nat) (C : Ctx U0 [] w0 [] w0) (f_4 : Sl 1 (RSl 1 (RInt .u8)) (Mu U0 []) w0 A_2 k_3 a_1) (f_8 : Sl 1 (RSl 1 (RInt .u8)) (Mu U0 []) w0 A_6 k_7 b_5) (r : Bool) (hp : wirelessref33_SameLists F a_1 b_5 = some r) :
    Calls Try.prog 15 #[.slice A_2 (List.length a_1) k_3, .slice A_6 (List.length b_5) k_7] w0 fun e w => ∃ v, e = .returned v ∧ (v = .bool r) ∧ (Ctx U0 [] w0 [] w) := by
  refine calls_enter (vs := [.slice A_2 (List.length a_1) k_3, .slice A_6 (List.length b_5) k_7]) Try.func15 rfl Try.ntmps15 rfl ?_
  refine WC.prune (l' := [(0, .slice A_2 (List.length a_1) k_3), (1, .slice A_6 (List.length b_5) k_7)]) ⟨rfl, rfl, trivial⟩ ?_
  skip
  refine WC.seq ?_
  refine WC.region ?_
  refine WL.val (rv_assign rfl) rfl ?_
  refine WL.nilThen ?_
  refine WC.seq ?_
  refine WC.seq ?_
  refine WC.region ?_
  refine WL.val (rv_move rfl) rfl ?_
  refine WL.val (rv_len (dt := a_1) Try.underlying23 rfl) rfl ?_
  refine WL.val (rv_move rfl) rfl ?_
  refine WL.val (rv_len (dt := b_5) Try.underlying23 rfl) rfl ?_
  refine WL.val (rv_neq rfl rfl) rfl ?_
  refine WL.nilThen ?_
  refine WC.cond rfl (fun hc => ?_) (fun hc => ?_)
  · replace hp := if_t hp hc
    clear hc
    refine WC.seq ?_
    refine WC.region ?_
    refine WL.val (rv_assign rfl) rfl ?_
    refine WL.nilThen ?_
    obtain rfl := some_inv' hp
    refine WC.ret (retK (rs := [.tmp 4]) (vs := [.bool false]) rfl ⟨rv1_tmp rfl, trivial⟩ ?_)
    exact ⟨_, rfl, rfl, C⟩
  · replace hp := if_f hp hc
    clear hc
    refine WC.skipThen ?_
    refine WC.seqCut (fun a w => (wirelessref33_SameLists_j1 F = some r) ∧ (Holds 27 [] a) ∧ (Ctx U0 [] w0 [] w)) ?_ ?_
    · refine WC.seq ?_
      refine WC.region ?_
      refine WL.val (rv_assign rfl) rfl ?_
      refine WL.nilThen ?_
      refine WC.block ?_
      obtain ⟨o_10, hi_10, hpo_10⟩ := bind_inv hp
      clear hp
      refine WC.loop (fun n a w => ∃ (x_9 : Int), (iter (fun s => wirelessref33_SameLists_l10 F a_1 b_5 s) n (x_9) = some o_10) ∧ (Holds 27 [(0, .slice A_2 (List.length a_1) k_3), (1, .slice A_6 (List.length b_5) k_7), (5, .int .i64 x_9)] a) ∧ (Ctx U0 [] w0 [] w) ∧ (Sl 1 (RSl 1 (RInt .u8)) (Mu U0 []) w A_2 k_3 a_1) ∧ (Sl 1 (RSl 1 (RInt .u8)) (Mu U0 []) w A_6 k_7 b_5)) F ?_ ?_
      · intro a ha
        exact ⟨0, hi_10, ha.sub ⟨rfl, rfl, rfl, trivial⟩, C, f_4, f_8⟩
      · rintro n_10 a w ⟨x_9, hi_10, ha, C, f_4, f_8⟩
        obtain ⟨n_10, q_10, rfl, hp, hs_10⟩ := iter_inv hi_10
        replace hp : wirelessref33_SameLists_l10 F a_1 b_5 x_9 = some q_10 := hp
        clear hi_10
        refine WC.ofJ (l := [(0, .slice A_2 (List.length a_1) k_3), (1, .slice A_6 (List.length b_5) k_7), (5, .int .i64 x_9)]) ?_ ha
        refine WC.seq ?_
        refine WC.seq ?_
        refine WC.region ?_
        refine WL.val (rv_move rfl) rfl ?_
        refine WL.val (rv_move rfl) rfl ?_
        refine WL.val (rv_len (dt := a_1) Try.underlying23 rfl) rfl ?_
        refine WL.val (rv_lss rfl rfl) rfl ?_
        refine WL.nilThen ?_
        refine WC.cond rfl (fun hc => ?_) (fun hc => ?_)
        · replace hp := if_t hp hc
          clear hc
          refine WC.skipThen ?_
          refine WC.seq ?_
          refine WC.block ?_
          refine WC.seqCut (fun a w => ∃ (z_11 : Bool), (wirelessref33_SameLists_j2 F x_9 z_11 = some q_10) ∧ (Holds 27 [(0, .slice A_2 (List.length a_1) k_3), (1, .slice A_6 (List.length b_5) k_7), (5, .int .i64 x_9), (26, .bool z_11)] a) ∧ (Ctx U0 [] w0 [] w) ∧ (Sl 1 (RSl 1 (RInt .u8)) (Mu U0 []) w A_2 k_3 a_1) ∧ (Sl 1 (RSl 1 (RInt .u8)) (Mu U0 []) w A_6 k_7 b_5)) ?_ ?_
          · replace hp := bind_inv hp
            obtain ⟨x_12, e_x_12, hp⟩ := hp
            obtain ⟨d_13, es_14, f_15, hl, hr, hv_16⟩ := sl_ix2 (P := Try.prog) (iv := x_9) Try.underlying23 Try.sizeOf24 rfl f_4 e_x_12
            obtain ⟨A_17, k_18, rfl, f_19⟩ := hr
            clear hl
            replace hp := bind_inv hp
            obtain ⟨x_20, e_x_20, hp⟩ := hp
            obtain ⟨d_21, es_22, f_23, hl, hr, hv_24⟩ := sl_ix2 (P := Try.prog) (iv := x_9) Try.underlying23 Try.sizeOf24 rfl f_8 e_x_20
            obtain ⟨A_25, k_26, rfl, f_27⟩ := hr
            clear hl
            refine WC.draw (fun w => (At (fun _ => False) w d_13 [.slice A_17 (List.length x_12) k_18]) ∧ (At (fun _ => False) w d_21 [.slice A_25 (List.length x_20) k_26])) MO C ?_
            rintro w C' T
            replace f_4 := T.sl f_4
            replace f_8 := T.sl f_8
            replace f_19 := T.sl f_19
            replace f_15 := T.at_ f_15 (by simp)
            replace f_27 := T.sl f_27
            replace f_23 := T.at_ f_23 (by simp)
            clear T; replace C := C'; clear C'
            refine WA.take (i := 0) (bs' := [true, false, false, false, false, false, false, false, false, false]) rfl (by kernel_rfl) (by kernel_rfl) (by kernel_rfl) (fun _ _ => rv_move rfl) ⟨(f_15.mu (fun _ h => h.elim)), (f_23.mu (fun _ h => h.elim))⟩ rfl rfl ?_
            refine WA.take (i := 1) (bs' := [true, true, false, false, false, false, false, false, false, false]) rfl (by kernel_rfl) (by kernel_rfl) (by kernel_rfl) (fun _ _ => rv_move rfl) ⟨(f_15.mu (fun _ h => h.elim)), (f_23.mu (fun _ h => h.elim))⟩ rfl rfl ?_
            refine WA.take (i := 2) (bs' := [true, true, true, false, false, false, false, false, false, false]) rfl (by kernel_rfl) (by kernel_rfl) (by kernel_rfl) (fun _ _ => hv_16 rfl rfl) ⟨(f_15.mu (fun _ h => h.elim)), (f_23.mu (fun _ h => h.elim))⟩ rfl rfl ?_
            refine WA.take (i := 3) (bs' := [true, true, true, true, false, false, false, false, false, false]) rfl (by kernel_rfl) (by kernel_rfl) (by kernel_rfl) (fun w hS => by obtain ⟨f_15, f_23⟩ := hS; exact rv_loadA1 (ad := d_13) (o := 0) Try.isAgg24 rfl f_15 rfl) ⟨(f_15.mu (fun _ h => h.elim)), (f_23.mu (fun _ h => h.elim))⟩ rfl rfl ?_
            refine WA.take (i := 4) (bs' := [true, true, true, true, true, false, false, false, false, false]) rfl (by kernel_rfl) (by kernel_rfl) (by kernel_rfl) (fun _ _ => rv_move rfl) ⟨(f_15.mu (fun _ h => h.elim)), (f_23.mu (fun _ h => h.elim))⟩ rfl rfl ?_
            refine WA.take (i := 5) (bs' := [true, true, true, true, true, true, false, false, false, false]) rfl (by kernel_rfl) (by kernel_rfl) (by kernel_rfl) (fun _ _ => rv_move rfl) ⟨(f_15.mu (fun _ h => h.elim)), (f_23.mu (fun _ h => h.elim))⟩ rfl rfl ?_
            refine WA.take (i := 6) (bs' := [true, true, true, true, true, true, true, false, false, false]) rfl (by kernel_rfl) (by kernel_rfl) (by kernel_rfl) (fun _ _ => hv_24 rfl rfl) ⟨(f_15.mu (fun _ h => h.elim)), (f_23.mu (fun _ h => h.elim))⟩ rfl rfl ?_
            refine WA.take (i := 7) (bs' := [true, true, true, true, true, true, true, true, false, false]) rfl (by kernel_rfl) (by kernel_rfl) (by kernel_rfl) (fun w hS => by obtain ⟨f_15, f_23⟩ := hS; exact rv_loadA1 (ad := d_21) (o := 0) Try.isAgg24 rfl f_23 rfl) ⟨(f_15.mu (fun _ h => h.elim)), (f_23.mu (fun _ h => h.elim))⟩ rfl rfl ?_
            refine WA.all1 (i := 8) (by kernel_rfl) ?_
            replace hp := bind_inv hp
            obtain ⟨x_28, e_x_28, hp⟩ := hp
            refine WS.call (i := 8) (bs' := [true, true, true, true, true, true, true, true, true, false]) rfl (rc_func Try.call20 rfl) (ok_wirelessref23_Same F (Mu U0 []) _ x_12 x_20 A_17 k_18 A_25 k_26 (C.give [] [] (by decide) rfl rfl (by decide)) (f_19.mu (mu_give [] [] rfl rfl)) (f_27.mu (mu_give [] [] rfl rfl)) _ e_x_28) rfl rfl ?_
            rintro v w ⟨rfl, D⟩
            obtain ⟨C', T⟩ := C.join D [] [] (by decide) rfl rfl (by decide)
            replace C' : Ctx U0 [] w0 [] _ := C'
            replace T : TR U0 [] _ [] _ [] := T
            replace f_4 := T.sl f_4
            replace f_8 := T.sl f_8
            replace f_19 := T.sl f_19
            replace f_15 := T.at_ f_15 (by simp)
            replace f_27 := T.sl f_27
            replace f_23 := T.at_ f_23 (by simp)
            clear T; replace C := C'; clear C'
            clear D
            refine ⟨⟨(f_15.mu (fun _ h => h.elim)), (f_23.mu (fun _ h => h.elim))⟩, ?_⟩
            refine WA.take (i := 9) (bs' := [true, true, true, true, true, true, true, true, true, true]) rfl (by kernel_rfl) (by kernel_rfl) (by kernel_rfl) (fun _ _ => rv_not rfl) ⟨(f_15.mu (fun _ h => h.elim)), (f_23.mu (fun _ h => h.elim))⟩ rfl rfl ?_
            refine WA.done (by kernel_rfl) (fun a ha => ?_)
            exact ⟨(!x_28), hp, ha.sub ⟨rfl, rfl, rfl, rfl, trivial⟩, C, f_4, f_8⟩
          · rintro a w ⟨z_11, hp, ha, C, f_4, f_8⟩
            refine WC.ofJ (l := [(0, .slice A_2 (List.length a_1) k_3), (1, .slice A_6 (List.length b_5) k_7), (5, .int .i64 x_9), (26, .bool z_11)]) ?_ ha
            refine WC.cond rfl (fun hc => ?_) (fun hc => ?_)
            · replace hp := if_t hp hc
              clear hc
              refine WC.seq ?_
              refine WC.region ?_
              refine WL.val (rv_assign rfl) rfl ?_
              refine WL.nilThen ?_
              have ho := done_inv hp hs_10
              replace hp := hpo_10
              try rw [ho] at hp
              obtain rfl := some_inv' hp
              refine WC.ret (retK (rs := [.tmp 4]) (vs := [.bool false]) rfl ⟨rv1_tmp rfl, trivial⟩ ?_)
              exact ⟨_, rfl, rfl, C⟩
            · replace hp := if_f hp hc
              clear hc
              refine WC.skipThen ?_
              refine WC.region ?_
              refine WL.val (rv_move rfl) rfl ?_
              refine WL.val (rv_add rfl rfl (wrap_i64 _)) rfl ?_
              refine WL.val (rv_assign rfl) rfl ?_
              refine WL.nil (fun a ha => ?_)
              have ho := next_inv hp hs_10
              exact ⟨n_10, Nat.lt_succ_self _, ⟨w64 (x_9 + 1), ho, ha.sub ⟨rfl, rfl, rfl, trivial⟩, C, f_4, f_8⟩⟩
        · replace hp := if_f hp hc
          clear hc
          refine WC.exitJ rfl (fun a ha => ?_)
          have ho := done_inv hp hs_10
          replace hp := hpo_10
          try rw [ho] at hp
          exact ⟨hp, ha.sub trivial, C⟩
    · rintro a w ⟨hp, ha, C⟩
      refine WC.ofJ (l := []) ?_ ha
      refine WC.seq ?_
      refine WC.region ?_
      refine WL.val (rv_assign rfl) rfl ?_
      refine WL.nilThen ?_
      obtain rfl := some_inv' hp
      refine WC.ret (retK (rs := [.tmp 4]) (vs := [.bool true]) rfl ⟨rv1_tmp rfl, trivial⟩ ?_)
      exact ⟨_, rfl, rfl, C⟩

theorem ok_wirelessref33_SameChannel (F : Nat) (U0 : Nat → Prop) (w0 : World) (a_1 : T_api_Channel) (b_8 : T_api_Channel) (A_2 : Option Addr) (k_3 : Nat) (A_5 : Option Addr) (k_6 : Nat) (A_9 : Option Addr) (k_10 : Nat) (A_12 : Option Addr) (k_13 : Nat) (C : Ctx U0 [] w0 [] w0) (f_4 : Sl 1 (RSl 1 (RInt .u8)) (Mu U0 []) w0 A_2 k_3 a_1.Out) (f_7 : Sl 1 (RInt .u8) (Mu U0 []) w0 A_5 k_6 a_1.In) (f_11 : Sl 1 (RSl 1 (RInt .u8)) (Mu U0 []) w0 A_9 k_10 b_8.Out) (f_14 : Sl 1 (RInt .u8) (Mu U0 []) w0 A_12 k_13 b_8.In) (r : Bool) (hp : wirelessref33_SameChannel F a_1 b_8 = some r) :
    Calls Try.prog 14 #[.agg #[.int .u16 a_1.Local, .int .u16 a_1.Remote, .int .u16 a_1.PSM, .int .i64 a_1.MTU, .int .i64 a_1.MPS, .int .i64 a_1.PeerMTU, .int .i64 a_1.PeerMPS, .int .i64 a_1.TxCredits, .int .i64 a_1.RxCredits, .int .i64 a_1.Given, .slice A_2 (List.length a_1.Out) k_3, .int .i64 a_1.Sent, .slice A_5 (List.length a_1.In) k_6, .int .i64 a_1.Want, .bool a_1.Failed], .agg #[.int .u16 b_8.Local, .int .u16 b_8.Remote, .int .u16 b_8.PSM, .int .i64 b_8.MTU, .int .i64 b_8.MPS, .int .i64 b_8.PeerMTU, .int .i64 b_8.PeerMPS, .int .i64 b_8.TxCredits, .int .i64 b_8.RxCredits, .int .i64 b_8.Given, .slice A_9 (List.length b_8.Out) k_10, .int .i64 b_8.Sent, .slice A_12 (List.length b_8.In) k_13, .int .i64 b_8.Want, .bool b_8.Failed]] w0 fun e w => ∃ v, e = .returned v ∧ (v = .bool r) ∧ (Ctx U0 [] w0 [] w) := by
  refine calls_enter (vs := [.agg #[.int .u16 a_1.Local, .int .u16 a_1.Remote, .int .u16 a_1.PSM, .int .i64 a_1.MTU, .int .i64 a_1.MPS, .int .i64 a_1.PeerMTU, .int .i64 a_1.PeerMPS, .int .i64 a_1.TxCredits, .int .i64 a_1.RxCredits, .int .i64 a_1.Given, .slice A_2 (List.length a_1.Out) k_3, .int .i64 a_1.Sent, .slice A_5 (List.length a_1.In) k_6, .int .i64 a_1.Want, .bool a_1.Failed], .agg #[.int .u16 b_8.Local, .int .u16 b_8.Remote, .int .u16 b_8.PSM, .int .i64 b_8.MTU, .int .i64 b_8.MPS, .int .i64 b_8.PeerMTU, .int .i64 b_8.PeerMPS, .int .i64 b_8.TxCredits, .int .i64 b_8.RxCredits, .int .i64 b_8.Given, .slice A_9 (List.length b_8.Out) k_10, .int .i64 b_8.Sent, .slice A_12 (List.length b_8.In) k_13, .int .i64 b_8.Want, .bool b_8.Failed]]) Try.func14 rfl Try.ntmps14 rfl ?_
  refine WC.prune (l' := [(0, .agg #[.int .u16 a_1.Local, .int .u16 a_1.Remote, .int .u16 a_1.PSM, .int .i64 a_1.MTU, .int .i64 a_1.MPS, .int .i64 a_1.PeerMTU, .int .i64 a_1.PeerMPS, .int .i64 a_1.TxCredits, .int .i64 a_1.RxCredits, .int .i64 a_1.Given, .slice A_2 (List.length a_1.Out) k_3, .int .i64 a_1.Sent, .slice A_5 (List.length a_1.In) k_6, .int .i64 a_1.Want, .bool a_1.Failed]), (1, .agg #[.int .u16 b_8.Local, .int .u16 b_8.Remote, .int .u16 b_8.PSM, .int .i64 b_8.MTU, .int .i64 b_8.MPS, .int .i64 b_8.PeerMTU, .int .i64 b_8.PeerMPS, .int .i64 b_8.TxCredits, .int .i64 b_8.RxCredits, .int .i64 b_8.Given, .slice A_9 (List.length b_8.Out) k_10, .int .i64 b_8.Sent, .slice A_12 (List.length b_8.In) k_13, .int .i64 b_8.Want, .bool b_8.Failed])]) ⟨rfl, rfl, trivial⟩ ?_
  skip
  refine WC.seq ?_
  refine WC.region ?_
  refine WL.world (rw_box rfl rfl C) rfl ?_
  rintro v w ⟨b_15, rfl, hb_15, C', T⟩
  replace C' : Ctx U0 [] w0 [some b_15] _ := C'
  replace T : TR U0 [] _ [some b_15] _ [] := T
  replace hb_15 : Blk _ b_15 26 [.int .u16 a_1.Local, .int .u16 a_1.Remote, .int .u16 a_1.PSM, .int .i64 a_1.MTU, .int .i64 a_1.MPS, .int .i64 a_1.PeerMTU, .int .i64 a_1.PeerMPS, .int .i64 a_1.TxCredits, .int .i64 a_1.RxCredits, .int .i64 a_1.Given, .slice A_2 (List.length a_1.Out) k_3, .int .i64 a_1.Sent, .slice A_5 (List.length a_1.In) k_6, .int .i64 a_1.Want, .bool a_1.Failed] := hb_15
  replace f_4 := T.sl f_4
  replace f_7 := T.sl f_7
  replace f_11 := T.sl f_11
  replace f_14 := T.sl f_14
  clear T; replace C := C'; clear C'
  refine WL.world (rw_box rfl rfl C) rfl ?_
  rintro v w ⟨b_16, rfl, hb_16, C', T⟩
  replace C' : Ctx U0 [] w0 [some b_16, some b_15] _ := C'
  replace T : TR U0 [some b_15] _ [some b_16, some b_15] _ [] := T
  replace hb_16 : Blk _ b_16 26 [.int .u16 b_8.Local, .int .u16 b_8.Remote, .int .u16 b_8.PSM, .int .i64 b_8.MTU, .int .i64 b_8.MPS, .int .i64 b_8.PeerMTU, .int .i64 b_8.PeerMPS, .int .i64 b_8.TxCredits, .int .i64 b_8.RxCredits, .int .i64 b_8.Given, .slice A_9 (List.length b_8.Out) k_10, .int .i64 b_8.Sent, .slice A_12 (List.length b_8.In) k_13, .int .i64 b_8.Want, .bool b_8.Failed] := hb_16
  replace f_4 := T.sl f_4
  replace f_7 := T.sl f_7
  replace f_11 := T.sl f_11
  replace f_14 := T.sl f_14
  replace hb_15 := T.blk ne0 hb_15
  clear T; replace C := C'; clear C'
  refine WL.val (rv_assign rfl) rfl ?_
  refine WL.nilThen ?_
  refine WC.seq ?_
  refine WC.seq ?_
  refine WC.region ?_
  refine WL.val (rv_fieldAddr FA26_0 rfl rfl) rfl ?_
  refine WL.val (rv_load1 Try.isAgg22 rfl hb_15 rfl) rfl ?_
  refine WL.val (rv_fieldAddr FA26_0 rfl rfl) rfl ?_
  refine WL.val (rv_load1 Try.isAgg22 rfl hb_16 rfl) rfl ?_
  refine WL.val (rv_neq rfl rfl) rfl ?_
  refine WL.val (rv_move rfl) rfl ?_
  refine WL.cutAt 6 (fun a w' => w = w' ∧ Holds 104 [(2, .pointer (some ⟨b_15, 0, none⟩)), (3, .pointer (some ⟨b_16, 0, none⟩)), (16, .bool ((a_1.Local != b_8.Local) || (a_1.Remote != b_8.Remote)))] a) ?_ ?_
  · rcases Bool.eq_false_or_eq_true ((a_1.Local != b_8.Local)) with hg_17 | hg_17
    · refine WL.no rfl rfl hg_17 rfl ?_
      refine WL.no rfl rfl hg_17 rfl ?_
      refine WL.no rfl rfl hg_17 rfl ?_
      refine WL.no rfl rfl hg_17 rfl ?_
      refine WL.no rfl rfl hg_17 rfl ?_
      refine WL.val (rv_pick_t rfl hg_17 rfl) rfl ?_
      refine WL.nil (fun a ha => ?_)
      exact ⟨rfl, ha.sub ⟨rfl, rfl, or_t hg_17, trivial⟩⟩
    · refine WL.yes rfl rfl hg_17 ?_
      refine WL.val (rv_fieldAddr FA26_1 rfl rfl) rfl ?_
      refine WL.yes rfl rfl hg_17 ?_
      refine WL.val (rv_load1 Try.isAgg22 rfl hb_15 rfl) rfl ?_
      refine WL.yes rfl rfl hg_17 ?_
      refine WL.val (rv_fieldAddr FA26_1 rfl rfl) rfl ?_
      refine WL.yes rfl rfl hg_17 ?_
      refine WL.val (rv_load1 Try.isAgg22 rfl hb_16 rfl) rfl ?_
      refine WL.yes rfl rfl hg_17 ?_
      refine WL.val (rv_neq rfl rfl) rfl ?_
      refine WL.val (rv_pick_f rfl hg_17 rfl) rfl ?_
      refine WL.nil (fun a ha => ?_)
      exact ⟨rfl, ha.sub ⟨rfl, rfl, or_f hg_17, trivial⟩⟩
  · rintro a w' ⟨rfl, ha⟩
    refine WL.ofJ (l := [(2, .pointer (some ⟨b_15, 0, none⟩)), (3, .pointer (some ⟨b_16, 0, none⟩)), (16, .bool ((a_1.Local != b_8.Local) || (a_1.Remote != b_8.Remote)))]) ?_ ha
    refine WL.val (rv_move rfl) rfl ?_
    refine WL.cutAt 6 (fun a w' => w = w' ∧ Holds 104 [(2, .pointer (some ⟨b_15, 0, none⟩)), (3, .pointer (some ⟨b_16, 0, none⟩)), (23, .bool (((a_1.Local != b_8.Local) || (a_1.Remote != b_8.Remote)) || (a_1.PSM != b_8.PSM)))] a) ?_ ?_
    · rcases Bool.eq_false_or_eq_true (((a_1.Local != b_8.Local) || (a_1.Remote != b_8.Remote))) with hg_18 | hg_18
      · refine WL.no rfl rfl hg_18 rfl ?_
        refine WL.no rfl rfl hg_18 rfl ?_
        refine WL.no rfl rfl hg_18 rfl ?_
        refine WL.no rfl rfl hg_18 rfl ?_
        refine WL.no rfl rfl hg_18 rfl ?_
        refine WL.val (rv_pick_t rfl hg_18 rfl) rfl ?_
        refine WL.nil (fun a ha => ?_)
        exact ⟨rfl, ha.sub ⟨rfl, rfl, or_t hg_18, trivial⟩⟩
      · refine WL.yes rfl rfl hg_18 ?_
        refine WL.val (rv_fieldAddr FA26_2 rfl rfl) rfl ?_
        refine WL.yes rfl rfl hg_18 ?_
        refine WL.val (rv_load1 Try.isAgg22 rfl hb_15 rfl) rfl ?_
        refine WL.yes rfl rfl hg_18 ?_
        refine WL.val (rv_fieldAddr FA26_2 rfl rfl) rfl ?_
        refine WL.yes rfl rfl hg_18 ?_
        refine WL.val (rv_load1 Try.isAgg22 rfl hb_16 rfl) rfl ?_
        refine WL.yes rfl rfl hg_18 ?_
        refine WL.val (rv_neq rfl rfl) rfl ?_
        refine WL.val (rv_pick_f rfl hg_18 rfl) rfl ?_
        refine WL.nil (fun a ha => ?_)
        exact ⟨rfl, ha.sub ⟨rfl, rfl, or_f hg_18, trivial⟩⟩
    · rintro a w' ⟨rfl, ha⟩
      refine WL.ofJ (l := [(2, .pointer (some ⟨b_15, 0, none⟩)), (3, .pointer (some ⟨b_16, 0, none⟩)), (23, .bool (((a_1.Local != b_8.Local) || (a_1.Remote != b_8.Remote)) || (a_1.PSM != b_8.PSM)))]) ?_ ha
      refine WL.val (rv_move rfl) rfl ?_
      refine WL.cutAt 6 (fun a w' => w = w' ∧ Holds 104 [(2, .pointer (some ⟨b_15, 0, none⟩)), (3, .pointer (some ⟨b_16, 0, none⟩)), (30, .bool ((((a_1.Local != b_8.Local) || (a_1.Remote != b_8.Remote)) || (a_1.PSM != b_8.PSM)) || (a_1.MTU != b_8.MTU)))] a) ?_ ?_
      · rcases Bool.eq_false_or_eq_true ((((a_1.Local != b_8.Local) || (a_1.Remote != b_8.Remote)) || (a_1.PSM != b_8.PSM))) with hg_19 | hg_19
        · refine WL.no rfl rfl hg_19 rfl ?_
          refine WL.no rfl rfl hg_19 rfl ?_
          refine WL.no rfl rfl hg_19 rfl ?_
          refine WL.no rfl rfl hg_19 rfl ?_
          refine WL.no rfl rfl hg_19 rfl ?_
          refine WL.val (rv_pick_t rfl hg_19 rfl) rfl ?_
          refine WL.nil (fun a ha => ?_)
          exact ⟨rfl, ha.sub ⟨rfl, rfl, or_t hg_19, trivial⟩⟩
        · refine WL.yes rfl rfl hg_19 ?_
          refine WL.val (rv_fieldAddr FA26_3 rfl rfl) rfl ?_
          refine WL.yes rfl rfl hg_19 ?_
          refine WL.val (rv_load1 Try.isAgg3 rfl hb_15 rfl) rfl ?_
          refine WL.yes rfl rfl hg_19 ?_
          refine WL.val (rv_fieldAddr FA26_3 rfl rfl) rfl ?_
          refine WL.yes rfl rfl hg_19 ?_
          refine WL.val (rv_load1 Try.isAgg3 rfl hb_16 rfl) rfl ?_
          refine WL.yes rfl rfl hg_19 ?_
          refine WL.val (rv_neq rfl rfl) rfl ?_
          refine WL.val (rv_pick_f rfl hg_19 rfl) rfl ?_
          refine WL.nil (fun a ha => ?_)
          exact ⟨rfl, ha.sub ⟨rfl, rfl, or_f hg_19, trivial⟩⟩
      · rintro a w' ⟨rfl, ha⟩
        refine WL.ofJ (l := [(2, .pointer (some ⟨b_15, 0, none⟩)), (3, .pointer (some ⟨b_16, 0, none⟩)), (30, .bool ((((a_1.Local != b_8.Local) || (a_1.Remote != b_8.Remote)) || (a_1.PSM != b_8.PSM)) || (a_1.MTU != b_8.MTU)))]) ?_ ha
        refine WL.val (rv_move rfl) rfl ?_
        refine WL.cutAt 6 (fun a w' => w = w' ∧ Holds 104 [(2, .pointer (some ⟨b_15, 0, none⟩)), (3, .pointer (some ⟨b_16, 0, none⟩)), (37, .bool (((((a_1.Local != b_8.Local) || (a_1.Remote != b_8.Remote)) || (a_1.PSM != b_8.PSM)) || (a_1.MTU != b_8.MTU)) || (a_1.MPS != b_8.MPS)))] a) ?_ ?_
        · rcases Bool.eq_false_or_eq_true (((((a_1.Local != b_8.Local) || (a_1.Remote != b_8.Remote)) || (a_1.PSM != b_8.PSM)) || (a_1.MTU != b_8.MTU))) with hg_20 | hg_20
          · refine WL.no rfl rfl hg_20 rfl ?_
            refine WL.no rfl rfl hg_20 rfl ?_
            refine WL.no rfl rfl hg_20 rfl ?_
            refine WL.no rfl rfl hg_20 rfl ?_
            refine WL.no rfl rfl hg_20 rfl ?_
            refine WL.val (rv_pick_t rfl hg_20 rfl) rfl ?_
            refine WL.nil (fun a ha => ?_)
            exact ⟨rfl, ha.sub ⟨rfl, rfl, or_t hg_20, trivial⟩⟩
          · refine WL.yes rfl rfl hg_20 ?_
            refine WL.val (rv_fieldAddr FA26_4 rfl rfl) rfl ?_
            refine WL.yes rfl rfl hg_20 ?_
            refine WL.val (rv_load1 Try.isAgg3 rfl hb_15 rfl) rfl ?_
            refine WL.yes rfl rfl hg_20 ?_
            refine WL.val (rv_fieldAddr FA26_4 rfl rfl) rfl ?_
            refine WL.yes rfl rfl hg_20 ?_
            refine WL.val (rv_load1 Try.isAgg3 rfl hb_16 rfl) rfl ?_
            refine WL.yes rfl rfl hg_20 ?_
            refine WL.val (rv_neq rfl rfl) rfl ?_
            refine WL.val (rv_pick_f rfl hg_20 rfl) rfl ?_
            refine WL.nil (fun a ha => ?_)
            exact ⟨rfl, ha.sub ⟨rfl, rfl, or_f hg_20, trivial⟩⟩
        · rintro a w' ⟨rfl, ha⟩
          refine WL.ofJ (l := [(2, .pointer (some ⟨b_15, 0, none⟩)), (3, .pointer (some ⟨b_16, 0, none⟩)), (37, .bool (((((a_1.Local != b_8.Local) || (a_1.Remote != b_8.Remote)) || (a_1.PSM != b_8.PSM)) || (a_1.MTU != b_8.MTU)) || (a_1.MPS != b_8.MPS)))]) ?_ ha
          refine WL.val (rv_move rfl) rfl ?_
          refine WL.cutAt 6 (fun a w' => w = w' ∧ Holds 104 [(2, .pointer (some ⟨b_15, 0, none⟩)), (3, .pointer (some ⟨b_16, 0, none⟩)), (44, .bool ((((((a_1.Local != b_8.Local) || (a_1.Remote != b_8.Remote)) || (a_1.PSM != b_8.PSM)) || (a_1.MTU != b_8.MTU)) || (a_1.MPS != b_8.MPS)) || (a_1.PeerMTU != b_8.PeerMTU)))] a) ?_ ?_
          · rcases Bool.eq_false_or_eq_true ((((((a_1.Local != b_8.Local) || (a_1.Remote != b_8.Remote)) || (a_1.PSM != b_8.PSM)) || (a_1.MTU != b_8.MTU)) || (a_1.MPS != b_8.MPS))) with hg_21 | hg_21
            · refine WL.no rfl rfl hg_21 rfl ?_
              refine WL.no rfl rfl hg_21 rfl ?_
              refine WL.no rfl rfl hg_21 rfl ?_
              refine WL.no rfl rfl hg_21 rfl ?_
              refine WL.no rfl rfl hg_21 rfl ?_
              refine WL.val (rv_pick_t rfl hg_21 rfl) rfl ?_
              refine WL.nil (fun a ha => ?_)
              exact ⟨rfl, ha.sub ⟨rfl, rfl, or_t hg_21, trivial⟩⟩
            · refine WL.yes rfl rfl hg_21 ?_
              refine WL.val (rv_fieldAddr FA26_5 rfl rfl) rfl ?_
              refine WL.yes rfl rfl hg_21 ?_
              refine WL.val (rv_load1 Try.isAgg3 rfl hb_15 rfl) rfl ?_
              refine WL.yes rfl rfl hg_21 ?_
              refine WL.val (rv_fieldAddr FA26_5 rfl rfl) rfl ?_
              refine WL.yes rfl rfl hg_21 ?_
              refine WL.val (rv_load1 Try.isAgg3 rfl hb_16 rfl) rfl ?_
              refine WL.yes rfl rfl hg_21 ?_
              refine WL.val (rv_neq rfl rfl) rfl ?_
              refine WL.val (rv_pick_f rfl hg_21 rfl) rfl ?_
              refine WL.nil (fun a ha => ?_)
              exact ⟨rfl, ha.sub ⟨rfl, rfl, or_f hg_21, trivial⟩⟩
          · rintro a w' ⟨rfl, ha⟩
            refine WL.ofJ (l := [(2, .pointer (some ⟨b_15, 0, none⟩)), (3, .pointer (some ⟨b_16, 0, none⟩)), (44, .bool ((((((a_1.Local != b_8.Local) || (a_1.Remote != b_8.Remote)) || (a_1.PSM != b_8.PSM)) || (a_1.MTU != b_8.MTU)) || (a_1.MPS != b_8.MPS)) || (a_1.PeerMTU != b_8.PeerMTU)))]) ?_ ha
            refine WL.val (rv_move rfl) rfl ?_
            refine WL.cutAt 6 (fun a w' => w = w' ∧ Holds 104 [(2, .pointer (some ⟨b_15, 0, none⟩)), (3, .pointer (some ⟨b_16, 0, none⟩)), (51, .bool (((((((a_1.Local != b_8.Local) || (a_1.Remote != b_8.Remote)) || (a_1.PSM != b_8.PSM)) || (a_1.MTU != b_8.MTU)) || (a_1.MPS != b_8.MPS)) || (a_1.PeerMTU != b_8.PeerMTU)) || (a_1.PeerMPS != b_8.PeerMPS)))] a) ?_ ?_
            · rcases Bool.eq_false_or_eq_true (((((((a_1.Local != b_8.Local) || (a_1.Remote != b_8.Remote)) || (a_1.PSM != b_8.PSM)) || (a_1.MTU != b_8.MTU)) || (a_1.MPS != b_8.MPS)) || (a_1.PeerMTU != b_8.PeerMTU))) with hg_22 | hg_22
              · refine WL.no rfl rfl hg_22 rfl ?_
                refine WL.no rfl rfl hg_22 rfl ?_
                refine WL.no rfl rfl hg_22 rfl ?_
                refine WL.no rfl rfl hg_22 rfl ?_
                refine WL.no rfl rfl hg_22 rfl ?_
                refine WL.val (rv_pick_t rfl hg_22 rfl) rfl ?_
                refine WL.nil (fun a ha => ?_)
                exact ⟨rfl, ha.sub ⟨rfl, rfl, or_t hg_22, trivial⟩⟩
              · refine WL.yes rfl rfl hg_22 ?_
                refine WL.val (rv_fieldAddr FA26_6 rfl rfl) rfl ?_
                refine WL.yes rfl rfl hg_22 ?_
                refine WL.val (rv_load1 Try.isAgg3 rfl hb_15 rfl) rfl ?_
                refine WL.yes rfl rfl hg_22 ?_
                refine WL.val (rv_fieldAddr FA26_6 rfl rfl) rfl ?_
                refine WL.yes rfl rfl hg_22 ?_
                refine WL.val (rv_load1 Try.isAgg3 rfl hb_16 rfl) rfl ?_
                refine WL.yes rfl rfl hg_22 ?_
                refine WL.val (rv_neq rfl rfl) rfl ?_
                refine WL.val (rv_pick_f rfl hg_22 rfl) rfl ?_
                refine WL.nil (fun a ha => ?_)
                exact ⟨rfl, ha.sub ⟨rfl, rfl, or_f hg_22, trivial⟩⟩
            · rintro a w' ⟨rfl, ha⟩
              refine WL.ofJ (l := [(2, .pointer (some ⟨b_15, 0, none⟩)), (3, .pointer (some ⟨b_16, 0, none⟩)), (51, .bool (((((((a_1.Local != b_8.Local) || (a_1.Remote != b_8.Remote)) || (a_1.PSM != b_8.PSM)) || (a_1.MTU != b_8.MTU)) || (a_1.MPS != b_8.MPS)) || (a_1.PeerMTU != b_8.PeerMTU)) || (a_1.PeerMPS != b_8.PeerMPS)))]) ?_ ha
              refine WL.nilThen ?_
              refine WC.cond rfl (fun hc => ?_) (fun hc => ?_)
              · replace hp := if_t hp hc
                clear hc
                refine WC.seq ?_
                refine WC.prune (l' := [(2, .pointer (some ⟨b_15, 0, none⟩)), (3, .pointer (some ⟨b_16, 0, none⟩)), (51, .bool (((((((a_1.Local != b_8.Local) || (a_1.Remote != b_8.Remote)) || (a_1.PSM != b_8.PSM)) || (a_1.MTU != b_8.MTU)) || (a_1.MPS != b_8.MPS)) || (a_1.PeerMTU != b_8.PeerMTU)) || (a_1.PeerMPS != b_8.PeerMPS)))]) ⟨rfl, rfl, rfl, trivial⟩ ?_
                refine WC.region ?_
                refine WL.val (rv_assign rfl) rfl ?_
                refine WL.nilThen ?_
                obtain rfl := some_inv' hp
                refine WC.ret (retK (rs := [.tmp 4]) (vs := [.bool false]) rfl ⟨rv1_tmp rfl, trivial⟩ ?_)
                have T : TR U0 [some b_16, some b_15] w [] w [] := TR.pick [] rfl
                have C' : Ctx U0 [] w0 [] _ := C.pick [] (by decide) rfl
                clear T; replace C := C'; clear C'
                exact ⟨_, rfl, rfl, C⟩
              · replace hp := if_f hp hc
                clear hc
                refine WC.skipThen ?_
                refine WC.seq ?_
                refine WC.seq ?_
                refine WC.region ?_
                refine WL.val (rv_fieldAddr FA26_7 rfl rfl) rfl ?_
                refine WL.val (rv_load1 Try.isAgg3 rfl hb_15 rfl) rfl ?_
                refine WL.val (rv_fieldAddr FA26_7 rfl rfl) rfl ?_
                refine WL.val (rv_load1 Try.isAgg3 rfl hb_16 rfl) rfl ?_
                refine WL.val (rv_neq rfl rfl) rfl ?_
                refine WL.val (rv_move rfl) rfl ?_
                refine WL.cutAt 6 (fun a w' => w = w' ∧ Holds 104 [(2, .pointer (some ⟨b_15, 0, none⟩)), (3, .pointer (some ⟨b_16, 0, none⟩)), (63, .bool ((a_1.TxCredits != b_8.TxCredits) || (a_1.RxCredits != b_8.RxCredits)))] a) ?_ ?_
                · rcases Bool.eq_false_or_eq_true ((a_1.TxCredits != b_8.TxCredits)) with hg_23 | hg_23
                  · refine WL.no rfl rfl hg_23 rfl ?_
                    refine WL.no rfl rfl hg_23 rfl ?_
                    refine WL.no rfl rfl hg_23 rfl ?_
                    refine WL.no rfl rfl hg_23 rfl ?_
                    refine WL.no rfl rfl hg_23 rfl ?_
                    refine WL.val (rv_pick_t rfl hg_23 rfl) rfl ?_
                    refine WL.nil (fun a ha => ?_)
                    exact ⟨rfl, ha.sub ⟨rfl, rfl, or_t hg_23, trivial⟩⟩
                  · refine WL.yes rfl rfl hg_23 ?_
                    refine WL.val (rv_fieldAddr FA26_8 rfl rfl) rfl ?_
                    refine WL.yes rfl rfl hg_23 ?_
                    refine WL.val (rv_load1 Try.isAgg3 rfl hb_15 rfl) rfl ?_
                    refine WL.yes rfl rfl hg_23 ?_
                    refine WL.val (rv_fieldAddr FA26_8 rfl rfl) rfl ?_
                    refine WL.yes rfl rfl hg_23 ?_
                    refine WL.val (rv_load1 Try.isAgg3 rfl hb_16 rfl) rfl ?_
                    refine WL.yes rfl rfl hg_23 ?_
                    refine WL.val (rv_neq rfl rfl) rfl ?_
                    refine WL.val (rv_pick_f rfl hg_23 rfl) rfl ?_
                    refine WL.nil (fun a ha => ?_)
                    exact ⟨rfl, ha.sub ⟨rfl, rfl, or_f hg_23, trivial⟩⟩
                · rintro a w' ⟨rfl, ha⟩
                  refine WL.ofJ (l := [(2, .pointer (some ⟨b_15, 0, none⟩)), (3, .pointer (some ⟨b_16, 0, none⟩)), (63, .bool ((a_1.TxCredits != b_8.TxCredits) || (a_1.RxCredits != b_8.RxCredits)))]) ?_ ha
                  refine WL.val (rv_move rfl) rfl ?_
                  refine WL.cutAt 6 (fun a w' => w = w' ∧ Holds 104 [(2, .pointer (some ⟨b_15, 0, none⟩)), (3, .pointer (some ⟨b_16, 0, none⟩)), (70, .bool (((a_1.TxCredits != b_8.TxCredits) || (a_1.RxCredits != b_8.RxCredits)) || (a_1.Given != b_8.Given)))] a) ?_ ?_
                  · rcases Bool.eq_false_or_eq_true (((a_1.TxCredits != b_8.TxCredits) || (a_1.RxCredits != b_8.RxCredits))) with hg_24 | hg_24
                    · refine WL.no rfl rfl hg_24 rfl ?_
                      refine WL.no rfl rfl hg_24 rfl ?_
                      refine WL.no rfl rfl hg_24 rfl ?_
                      refine WL.no rfl rfl hg_24 rfl ?_
                      refine WL.no rfl rfl hg_24 rfl ?_
                      refine WL.val (rv_pick_t rfl hg_24 rfl) rfl ?_
                      refine WL.nil (fun a ha => ?_)
                      exact ⟨rfl, ha.sub ⟨rfl, rfl, or_t hg_24, trivial⟩⟩
                    · refine WL.yes rfl rfl hg_24 ?_
                      refine WL.val (rv_fieldAddr FA26_9 rfl rfl) rfl ?_
                      refine WL.yes rfl rfl hg_24 ?_
                      refine WL.val (rv_load1 Try.isAgg3 rfl hb_15 rfl) rfl ?_
                      refine WL.yes rfl rfl hg_24 ?_
                      refine WL.val (rv_fieldAddr FA26_9 rfl rfl) rfl ?_
                      refine WL.yes rfl rfl hg_24 ?_
                      refine WL.val (rv_load1 Try.isAgg3 rfl hb_16 rfl) rfl ?_
                      refine WL.yes rfl rfl hg_24 ?_
                      refine WL.val (rv_neq rfl rfl) rfl ?_
                      refine WL.val (rv_pick_f rfl hg_24 rfl) rfl ?_
                      refine WL.nil (fun a ha => ?_)
                      exact ⟨rfl, ha.sub ⟨rfl, rfl, or_f hg_24, trivial⟩⟩
                  · rintro a w' ⟨rfl, ha⟩
                    refine WL.ofJ (l := [(2, .pointer (some ⟨b_15, 0, none⟩)), (3, .pointer (some ⟨b_16, 0, none⟩)), (70, .bool (((a_1.TxCredits != b_8.TxCredits) || (a_1.RxCredits != b_8.RxCredits)) || (a_1.Given != b_8.Given)))]) ?_ ha
                    refine WL.val (rv_move rfl) rfl ?_
                    refine WL.cutAt 6 (fun a w' => w = w' ∧ Holds 104 [(2, .pointer (some ⟨b_15, 0, none⟩)), (3, .pointer (some ⟨b_16, 0, none⟩)), (77, .bool ((((a_1.TxCredits != b_8.TxCredits) || (a_1.RxCredits != b_8.RxCredits)) || (a_1.Given != b_8.Given)) || (a_1.Sent != b_8.Sent)))] a) ?_ ?_
                    · rcases Bool.eq_false_or_eq_true ((((a_1.TxCredits != b_8.TxCredits) || (a_1.RxCredits != b_8.RxCredits)) || (a_1.Given != b_8.Given))) with hg_25 | hg_25
                      · refine WL.no rfl rfl hg_25 rfl ?_
                        refine WL.no rfl rfl hg_25 rfl ?_
                        refine WL.no rfl rfl hg_25 rfl ?_
                        refine WL.no rfl rfl hg_25 rfl ?_
                        refine WL.no rfl rfl hg_25 rfl ?_
                        refine WL.val (rv_pick_t rfl hg_25 rfl) rfl ?_
                        refine WL.nil (fun a ha => ?_)
                        exact ⟨rfl, ha.sub ⟨rfl, rfl, or_t hg_25, trivial⟩⟩
                      · refine WL.yes rfl rfl hg_25 ?_
                        refine WL.val (rv_fieldAddr FA26_11 rfl rfl) rfl ?_
                        refine WL.yes rfl rfl hg_25 ?_
                        refine WL.val (rv_load1 Try.isAgg3 rfl hb_15 rfl) rfl ?_
                        refine WL.yes rfl rfl hg_25 ?_
                        refine WL.val (rv_fieldAddr FA26_11 rfl rfl) rfl ?_
                        refine WL.yes rfl rfl hg_25 ?_
                        refine WL.val (rv_load1 Try.isAgg3 rfl hb_16 rfl) rfl ?_
                        refine WL.yes rfl rfl hg_25 ?_
                        refine WL.val (rv_neq rfl rfl) rfl ?_
                        refine WL.val (rv_pick_f rfl hg_25 rfl) rfl ?_
                        refine WL.nil (fun a ha => ?_)
                        exact ⟨rfl, ha.sub ⟨rfl, rfl, or_f hg_25, trivial⟩⟩
                    · rintro a w' ⟨rfl, ha⟩
                      refine WL.ofJ (l := [(2, .pointer (some ⟨b_15, 0, none⟩)), (3, .pointer (some ⟨b_16, 0, none⟩)), (77, .bool ((((a_1.TxCredits != b_8.TxCredits) || (a_1.RxCredits != b_8.RxCredits)) || (a_1.Given != b_8.Given)) || (a_1.Sent != b_8.Sent)))]) ?_ ha
                      refine WL.val (rv_move rfl) rfl ?_
                      refine WL.cutAt 6 (fun a w' => w = w' ∧ Holds 104 [(2, .pointer (some ⟨b_15, 0, none⟩)), (3, .pointer (some ⟨b_16, 0, none⟩)), (84, .bool (((((a_1.TxCredits != b_8.TxCredits) || (a_1.RxCredits != b_8.RxCredits)) || (a_1.Given != b_8.Given)) || (a_1.Sent != b_8.Sent)) || (a_1.Want != b_8.Want)))] a) ?_ ?_
                      · rcases Bool.eq_false_or_eq_true (((((a_1.TxCredits != b_8.TxCredits) || (a_1.RxCredits != b_8.RxCredits)) || (a_1.Given != b_8.Given)) || (a_1.Sent != b_8.Sent))) with hg_26 | hg_26
                        · refine WL.no rfl rfl hg_26 rfl ?_
                          refine WL.no rfl rfl hg_26 rfl ?_
                          refine WL.no rfl rfl hg_26 rfl ?_
                          refine WL.no rfl rfl hg_26 rfl ?_
                          refine WL.no rfl rfl hg_26 rfl ?_
                          refine WL.val (rv_pick_t rfl hg_26 rfl) rfl ?_
                          refine WL.nil (fun a ha => ?_)
                          exact ⟨rfl, ha.sub ⟨rfl, rfl, or_t hg_26, trivial⟩⟩
                        · refine WL.yes rfl rfl hg_26 ?_
                          refine WL.val (rv_fieldAddr FA26_13 rfl rfl) rfl ?_
                          refine WL.yes rfl rfl hg_26 ?_
                          refine WL.val (rv_load1 Try.isAgg3 rfl hb_15 rfl) rfl ?_
                          refine WL.yes rfl rfl hg_26 ?_
                          refine WL.val (rv_fieldAddr FA26_13 rfl rfl) rfl ?_
                          refine WL.yes rfl rfl hg_26 ?_
                          refine WL.val (rv_load1 Try.isAgg3 rfl hb_16 rfl) rfl ?_
                          refine WL.yes rfl rfl hg_26 ?_
                          refine WL.val (rv_neq rfl rfl) rfl ?_
                          refine WL.val (rv_pick_f rfl hg_26 rfl) rfl ?_
                          refine WL.nil (fun a ha => ?_)
                          exact ⟨rfl, ha.sub ⟨rfl, rfl, or_f hg_26, trivial⟩⟩
                      · rintro a w' ⟨rfl, ha⟩
                        refine WL.ofJ (l := [(2, .pointer (some ⟨b_15, 0, none⟩)), (3, .pointer (some ⟨b_16, 0, none⟩)), (84, .bool (((((a_1.TxCredits != b_8.TxCredits) || (a_1.RxCredits != b_8.RxCredits)) || (a_1.Given != b_8.Given)) || (a_1.Sent != b_8.Sent)) || (a_1.Want != b_8.Want)))]) ?_ ha
                        refine WL.val (rv_move rfl) rfl ?_
                        refine WL.cutAt 6 (fun a w' => w = w' ∧ Holds 104 [(2, .pointer (some ⟨b_15, 0, none⟩)), (3, .pointer (some ⟨b_16, 0, none⟩)), (91, .bool ((((((a_1.TxCredits != b_8.TxCredits) || (a_1.RxCredits != b_8.RxCredits)) || (a_1.Given != b_8.Given)) || (a_1.Sent != b_8.Sent)) || (a_1.Want != b_8.Want)) || (a_1.Failed != b_8.Failed)))] a) ?_ ?_
                        · rcases Bool.eq_false_or_eq_true ((((((a_1.TxCredits != b_8.TxCredits) || (a_1.RxCredits != b_8.RxCredits)) || (a_1.Given != b_8.Given)) || (a_1.Sent != b_8.Sent)) || (a_1.Want != b_8.Want))) with hg_27 | hg_27
                          · refine WL.no rfl rfl hg_27 rfl ?_
                            refine WL.no rfl rfl hg_27 rfl ?_
                            refine WL.no rfl rfl hg_27 rfl ?_
                            refine WL.no rfl rfl hg_27 rfl ?_
                            refine WL.no rfl rfl hg_27 rfl ?_
                            refine WL.val (rv_pick_t rfl hg_27 rfl) rfl ?_
                            refine WL.nil (fun a ha => ?_)
                            exact ⟨rfl, ha.sub ⟨rfl, rfl, or_t hg_27, trivial⟩⟩
                          · refine WL.yes rfl rfl hg_27 ?_
                            refine WL.val (rv_fieldAddr FA26_14 rfl rfl) rfl ?_
                            refine WL.yes rfl rfl hg_27 ?_
                            refine WL.val (rv_load1 Try.isAgg4 rfl hb_15 rfl) rfl ?_
                            refine WL.yes rfl rfl hg_27 ?_
                            refine WL.val (rv_fieldAddr FA26_14 rfl rfl) rfl ?_
                            refine WL.yes rfl rfl hg_27 ?_
                            refine WL.val (rv_load1 Try.isAgg4 rfl hb_16 rfl) rfl ?_
                            refine WL.yes rfl rfl hg_27 ?_
                            refine WL.val (rv_neqb Try.underlying4 rfl rfl) rfl ?_
                            refine WL.val (rv_pick_f rfl hg_27 rfl) rfl ?_
                            refine WL.nil (fun a ha => ?_)
                            exact ⟨rfl, ha.sub ⟨rfl, rfl, or_f hg_27, trivial⟩⟩
                        · rintro a w' ⟨rfl, ha⟩
                          refine WL.ofJ (l := [(2, .pointer (some ⟨b_15, 0, none⟩)), (3, .pointer (some ⟨b_16, 0, none⟩)), (91, .bool ((((((a_1.TxCredits != b_8.TxCredits) || (a_1.RxCredits != b_8.RxCredits)) || (a_1.Given != b_8.Given)) || (a_1.Sent != b_8.Sent)) || (a_1.Want != b_8.Want)) || (a_1.Failed != b_8.Failed)))]) ?_ ha
                          refine WL.nilThen ?_
                          refine WC.cond rfl (fun hc => ?_) (fun hc => ?_)
                          · replace hp := if_t hp hc
                            clear hc
                            refine WC.seq ?_
                            refine WC.prune (l' := [(2, .pointer (some ⟨b_15, 0, none⟩)), (3, .pointer (some ⟨b_16, 0, none⟩)), (91, .bool ((((((a_1.TxCredits != b_8.TxCredits) || (a_1.RxCredits != b_8.RxCredits)) || (a_1.Given != b_8.Given)) || (a_1.Sent != b_8.Sent)) || (a_1.Want != b_8.Want)) || (a_1.Failed != b_8.Failed)))]) ⟨rfl, rfl, rfl, trivial⟩ ?_
                            refine WC.region ?_
                            refine WL.val (rv_assign rfl) rfl ?_
                            refine WL.nilThen ?_
                            obtain rfl := some_inv' hp
                            refine WC.ret (retK (rs := [.tmp 4]) (vs := [.bool false]) rfl ⟨rv1_tmp rfl, trivial⟩ ?_)
                            have T : TR U0 [some b_16, some b_15] w [] w [] := TR.pick [] rfl
                            have C' : Ctx U0 [] w0 [] _ := C.pick [] (by decide) rfl
                            clear T; replace C := C'; clear C'
                            exact ⟨_, rfl, rfl, C⟩
                          · replace hp := if_f hp hc
                            clear hc
                            refine WC.skipThen ?_
                            refine WC.seq ?_
                            refine WC.prune (l' := [(2, .pointer (some ⟨b_15, 0, none⟩)), (3, .pointer (some ⟨b_16, 0, none⟩))]) ⟨rfl, rfl, trivial⟩ ?_
                            refine WC.region ?_
                            refine WL.val (rv_fieldAddr FA26_10 rfl rfl) rfl ?_
                            refine WL.val (rv_load1 Try.isAgg23 rfl hb_15 rfl) rfl ?_
                            refine WL.val (rv_fieldAddr FA26_10 rfl rfl) rfl ?_
                            refine WL.val (rv_load1 Try.isAgg23 rfl hb_16 rfl) rfl ?_
                            replace hp := bind_inv hp
                            obtain ⟨x_28, e_x_28, hp⟩ := hp
                            refine WL.call (rc_func Try.call15 rfl) (ok_wirelessref33_SameLists F (Mu U0 [some b_16, some b_15]) _ a_1.Out b_8.Out A_2 k_3 A_9 k_10 (C.give [0, 1] [] (by decide) rfl rfl (by decide)) (f_4.mu (mu_give [0, 1] [] rfl rfl)) (f_11.mu (mu_give [0, 1] [] rfl rfl)) _ e_x_28) rfl ?_
                            rintro v w ⟨rfl, D⟩
                            obtain ⟨C', T⟩ := C.join D [0, 1] [] (by decide) rfl rfl (by decide)
                            replace C' : Ctx U0 [] w0 [some b_16, some b_15] _ := C'
                            replace T : TR U0 [some b_16, some b_15] _ [some b_16, some b_15] _ [] := T
                            replace f_4 := T.sl f_4
                            replace f_7 := T.sl f_7
                            replace f_11 := T.sl f_11
                            replace f_14 := T.sl f_14
                            replace hb_15 := T.blk ne0 hb_15
                            replace hb_16 := T.blk ne0 hb_16
                            clear T; replace C := C'; clear C'
                            clear D
                            refine WL.val (rv_move rfl) rfl ?_
                            obtain ⟨z_30, hz, hpr⟩ := bind_inv hp
                            clear hp
                            refine WL.cutAt 6 (fun a w => (True) ∧ (Holds 104 [(103, .bool z_30)] a) ∧ (Ctx U0 [] w0 [] w)) ?_ ?_
                            · have hp := hz
                              rcases Bool.eq_false_or_eq_true (x_28) with hg_29 | hg_29
                              · replace hp := if_t hp hg_29
                                refine WL.yes rfl rfl hg_29 ?_
                                refine WL.val (rv_fieldAddr FA26_12 rfl rfl) rfl ?_
                                refine WL.yes rfl rfl hg_29 ?_
                                refine WL.val (rv_load1 Try.isAgg24 rfl hb_15 rfl) rfl ?_
                                refine WL.yes rfl rfl hg_29 ?_
                                refine WL.val (rv_fieldAddr FA26_12 rfl rfl) rfl ?_
                                refine WL.yes rfl rfl hg_29 ?_
                                refine WL.val (rv_load1 Try.isAgg24 rfl hb_16 rfl) rfl ?_
                                replace hp := bind_inv hp
                                obtain ⟨x_32, e_x_32, hp⟩ := hp
                                refine WL.yes rfl rfl hg_29 ?_
                                refine WL.call (rc_func Try.call20 rfl) (ok_wirelessref23_Same F (Mu U0 [some b_16, some b_15]) _ a_1.In b_8.In A_5 k_6 A_12 k_13 (C.give [0, 1] [] (by decide) rfl rfl (by decide)) (f_7.mu (mu_give [0, 1] [] rfl rfl)) (f_14.mu (mu_give [0, 1] [] rfl rfl)) _ e_x_32) rfl ?_
                                rintro v w ⟨rfl, D⟩
                                obtain ⟨C', T⟩ := C.join D [0, 1] [] (by decide) rfl rfl (by decide)
                                replace C' : Ctx U0 [] w0 [some b_16, some b_15] _ := C'
                                replace T : TR U0 [some b_16, some b_15] _ [some b_16, some b_15] _ [] := T
                                replace f_4 := T.sl f_4
                                replace f_7 := T.sl f_7
                                replace f_11 := T.sl f_11
                                replace f_14 := T.sl f_14
                                replace hb_15 := T.blk ne0 hb_15
                                replace hb_16 := T.blk ne0 hb_16
                                clear T; replace C := C'; clear C'
                                clear D
                                refine WL.val (rv_pick_t rfl hg_29 rfl) rfl ?_
                                refine WL.nil (fun a ha => ?_)
                                obtain rfl := some_inv' hp
                                have T : TR U0 [some b_16, some b_15] w [] w [] := TR.pick [] rfl
                                have C' : Ctx U0 [] w0 [] _ := C.pick [] (by decide) rfl
                                clear T; replace C := C'; clear C'
                                exact ⟨trivial, ha.sub ⟨rfl, trivial⟩, C⟩
                              · replace hp := if_f hp hg_29
                                refine WL.no rfl rfl hg_29 rfl ?_
                                refine WL.no rfl rfl hg_29 rfl ?_
                                refine WL.no rfl rfl hg_29 rfl ?_
                                refine WL.no rfl rfl hg_29 rfl ?_
                                refine WL.no rfl rfl hg_29 rfl ?_
                                refine WL.val (rv_pick_f rfl hg_29 rfl) rfl ?_
                                refine WL.nil (fun a ha => ?_)
                                obtain rfl := some_inv' hp
                                have T : TR U0 [some b_16, some b_15] w [] w [] := TR.pick [] rfl
                                have C' : Ctx U0 [] w0 [] _ := C.pick [] (by decide) rfl
                                clear T; replace C := C'; clear C'
                                exact ⟨trivial, ha.sub ⟨rfl, trivial⟩, C⟩
                            · rintro a w ⟨hp, ha, C⟩
                              have hp := hpr; clear hpr hz
                              refine WL.ofJ (l := [(103, .bool z_30)]) ?_ ha
                              refine WL.val (rv_assign rfl) rfl ?_
                              refine WL.nilThen ?_
                              obtain rfl := some_inv' hp
                              refine WC.ret (retK (rs := [.tmp 4]) (vs := [.bool z_30]) rfl ⟨rv1_tmp rfl, trivial⟩ ?_)
                              exact ⟨_, rfl, rfl, C⟩

theorem ok_sdu_copied (F : Nat) (U0 : Nat → Prop) (w0 : World) (c_1 : T_api_Channel) (A_2 : Option Addr) (k_3 : Nat) (A_5 : Option Addr) (k_6 : Nat) (C : Ctx U0 [] w0 [] w0) (f_4 : Sl 1 (RSl 1 (RInt .u8)) (Mu U0 []) w0 A_2 k_3 c_1.Out) (f_7 : Sl 1 (RInt .u8) (Mu U0 []) w0 A_5 k_6 c_1.In) (r : T_api_Channel) (hp : sdu_copied F c_1 = some r) :
    Calls Try.prog 32 #[.agg #[.int .u16 c_1.Local, .int .u16 c_1.Remote, .int .u16 c_1.PSM, .int .i64 c_1.MTU, .int .i64 c_1.MPS, .int .i64 c_1.PeerMTU, .int .i64 c_1.PeerMPS, .int .i64 c_1.TxCredits, .int .i64 c_1.RxCredits, .int .i64 c_1.Given, .slice A_2 (List.length c_1.Out) k_3, .int .i64 c_1.Sent, .slice A_5 (List.length c_1.In) k_6, .int .i64 c_1.Want, .bool c_1.Failed]] w0 fun e w => ∃ v, e = .returned v ∧ ∃ (A_54 : Option Addr) (k_55 : Nat) (A_58 : Option Addr) (k_59 : Nat), (v = .agg #[.int .u16 r.Local, .int .u16 r.Remote, .int .u16 r.PSM, .int .i64 r.MTU, .int .i64 r.MPS, .int .i64 r.PeerMTU, .int .i64 r.PeerMPS, .int .i64 r.TxCredits, .int .i64 r.RxCredits, .int .i64 r.Given, .slice A_54 (List.length r.Out) k_55, .int .i64 r.Sent, .slice A_58 (List.length r.In) k_59, .int .i64 r.Want, .bool r.Failed]) ∧ (Ctx U0 [] w0 [ob A_54] w) ∧ (Sl 1 (RInt .u8) (Mu U0 [ob A_54]) w A_58 k_59 r.In) ∧ (Own 1 24 (RSl 1 (RInt .u8)) (Mu U0 [ob A_54]) w A_54 k_55 r.Out) := by
  refine calls_enter (vs := [.agg #[.int .u16 c_1.Local, .int .u16 c_1.Remote, .int .u16 c_1.PSM, .int .i64 c_1.MTU, .int .i64 c_1.MPS, .int .i64 c_1.PeerMTU, .int .i64 c_1.PeerMPS, .int .i64 c_1.TxCredits, .int .i64 c_1.RxCredits, .int .i64 c_1.Given, .slice A_2 (List.length c_1.Out) k_3, .int .i64 c_1.Sent, .slice A_5 (List.length c_1.In) k_6, .int .i64 c_1.Want, .bool c_1.Failed]]) Try.func32 rfl Try.ntmps32 rfl ?_
  refine WC.prune (l' := [(0, .agg #[.int .u16 c_1.Local, .int .u16 c_1.Remote, .int .u16 c_1.PSM, .int .i64 c_1.MTU, .int .i64 c_1.MPS, .int .i64 c_1.PeerMTU, .int .i64 c_1.PeerMPS, .int .i64 c_1.TxCredits, .int .i64 c_1.RxCredits, .int .i64 c_1.Given, .slice A_2 (List.length c_1.Out) k_3, .int .i64 c_1.Sent, .slice A_5 (List.length c_1.In) k_6, .int .i64 c_1.Want, .bool c_1.Failed])]) ⟨rfl, trivial⟩ ?_
  skip
  refine WC.seq ?_
  refine WC.region ?_
  refine WL.world (rw_box rfl rfl C) rfl ?_
  rintro v w ⟨b_8, rfl, hb_8, C', T⟩
  replace C' : Ctx U0 [] w0 [some b_8] _ := C'
  replace T : TR U0 [] _ [some b_8] _ [] := T
  replace hb_8 : Blk _ b_8 26 [.int .u16 c_1.Local, .int .u16 c_1.Remote, .int .u16 c_1.PSM, .int .i64 c_1.MTU, .int .i64 c_1.MPS, .int .i64 c_1.PeerMTU, .int .i64 c_1.PeerMPS, .int .i64 c_1.TxCredits, .int .i64 c_1.RxCredits, .int .i64 c_1.Given, .slice A_2 (List.length c_1.Out) k_3, .int .i64 c_1.Sent, .slice A_5 (List.length c_1.In) k_6, .int .i64 c_1.Want, .bool c_1.Failed] := hb_8
  replace f_4 := T.sl f_4
  replace f_7 := T.sl f_7
  clear T; replace C := C'; clear C'
  refine WL.world (rw_alloc Try.zeroValue26 rfl C) rfl ?_
  rintro v w ⟨b_9, rfl, hb_9, C', T⟩
  replace C' : Ctx U0 [] w0 [some b_9, some b_8] _ := C'
  replace T : TR U0 [some b_8] _ [some b_9, some b_8] _ [] := T
  replace hb_9 : Blk _ b_9 26 [.int .u16 0, .int .u16 0, .int .u16 0, .int .i64 0, .int .i64 0, .int .i64 0, .int .i64 0, .int .i64 0, .int .i64 0, .int .i64 0, .slice none 0 0, .int .i64 0, .slice none 0 0, .int .i64 0, .bool false] := hb_9
  replace f_4 := T.sl f_4
  replace f_7 := T.sl f_7
  replace hb_8 := T.blk ne0 hb_8
  clear T; replace C := C'; clear C'
  refine WL.nilThen ?_
  refine WC.seq ?_
  refine WC.region ?_
  refine WL.val (rv_assign rfl) rfl ?_
  refine WL.nilThen ?_
  refine WC.seqCut (fun a w => ∃ (l_10 : (List (List Int))) (A_11 : Option Addr) (k_12 : Nat), (sdu_copied_j1 F c_1 l_10 = some r) ∧ (Holds 33 [(1, .pointer (some ⟨b_8, 0, none⟩)), (2, .pointer (some ⟨b_9, 0, none⟩)), (3, .slice A_11 (List.length l_10) k_12)] a) ∧ (Ctx U0 [] w0 [some b_9, some b_8, ob A_11] w) ∧ (Sl 1 (RSl 1 (RInt .u8)) (Mu U0 [some b_9, some b_8, ob A_11]) w A_2 k_3 c_1.Out) ∧ (Sl 1 (RInt .u8) (Mu U0 [some b_9, some b_8, ob A_11]) w A_5 k_6 c_1.In) ∧ (Blk w b_8 26 [.int .u16 c_1.Local, .int .u16 c_1.Remote, .int .u16 c_1.PSM, .int .i64 c_1.MTU, .int .i64 c_1.MPS, .int .i64 c_1.PeerMTU, .int .i64 c_1.PeerMPS, .int .i64 c_1.TxCredits, .int .i64 c_1.RxCredits, .int .i64 c_1.Given, .slice A_2 (List.length c_1.Out) k_3, .int .i64 c_1.Sent, .slice A_5 (List.length c_1.In) k_6, .int .i64 c_1.Want, .bool c_1.Failed]) ∧ (Blk w b_9 26 [.int .u16 0, .int .u16 0, .int .u16 0, .int .i64 0, .int .i64 0, .int .i64 0, .int .i64 0, .int .i64 0, .int .i64 0, .int .i64 0, .slice none 0 0, .int .i64 0, .slice none 0 0, .int .i64 0, .bool false]) ∧ (Own 1 24 (RSl 1 (RInt .u8)) (Mu U0 [some b_9, some b_8, ob A_11]) w A_11 k_12 l_10)) ?_ ?_
  · refine WC.seq ?_
    refine WC.region ?_
    refine WL.val (rv_fieldAddr FA26_10 rfl rfl) rfl ?_
    refine WL.val (rv_load1 Try.isAgg23 rfl hb_8 rfl) rfl ?_
    refine WL.val (rv_len (dt := c_1.Out) Try.underlying23 rfl) rfl ?_
    refine WL.val (rv_move rfl) rfl ?_
    refine WL.nilThen ?_
    refine WC.block ?_
    obtain ⟨o_30, hi_30, hpo_30⟩ := bind_inv hp
    clear hp
    refine WC.loop (fun n a w => ∃ (l_24 : (List (List Int))) (x_29 : Int) (A_25 : Option Addr) (k_26 : Nat), (iter (fun s => sdu_copied_l30 F c_1 s.1 s.2) n (l_24, x_29) = some o_30) ∧ (Holds 33 [(1, .pointer (some ⟨b_8, 0, none⟩)), (2, .pointer (some ⟨b_9, 0, none⟩)), (3, .slice A_25 (List.length l_24) k_26), (8, .slice A_2 (List.length c_1.Out) k_3), (9, .int .i64 (len c_1.Out)), (10, .int .i64 x_29)] a) ∧ (Ctx U0 [] w0 [some b_9, some b_8, ob A_25] w) ∧ (Sl 1 (RSl 1 (RInt .u8)) (Mu U0 [some b_9, some b_8, ob A_25]) w A_2 k_3 c_1.Out) ∧ (Sl 1 (RInt .u8) (Mu U0 [some b_9, some b_8, ob A_25]) w A_5 k_6 c_1.In) ∧ (Blk w b_8 26 [.int .u16 c_1.Local, .int .u16 c_1.Remote, .int .u16 c_1.PSM, .int .i64 c_1.MTU, .int .i64 c_1.MPS, .int .i64 c_1.PeerMTU, .int .i64 c_1.PeerMPS, .int .i64 c_1.TxCredits, .int .i64 c_1.RxCredits, .int .i64 c_1.Given, .slice A_2 (List.length c_1.Out) k_3, .int .i64 c_1.Sent, .slice A_5 (List.length c_1.In) k_6, .int .i64 c_1.Want, .bool c_1.Failed]) ∧ (Blk w b_9 26 [.int .u16 0, .int .u16 0, .int .u16 0, .int .i64 0, .int .i64 0, .int .i64 0, .int .i64 0, .int .i64 0, .int .i64 0, .int .i64 0, .slice none 0 0, .int .i64 0, .slice none 0 0, .int .i64 0, .bool false]) ∧ (Own 1 24 (RSl 1 (RInt .u8)) (Mu U0 [some b_9, some b_8, ob A_25]) w A_25 k_26 l_24)) F ?_ ?_
    · intro a ha
      obtain ⟨C', T⟩ := C.addNone
      replace f_4 := T.sl f_4
      replace f_7 := T.sl f_7
      replace hb_8 := T.blk ne0 hb_8
      replace hb_9 := T.blk ne0 hb_9
      clear T; replace C := C'; clear C'
      have T : TR U0 [ob none, some b_9, some b_8] w [some b_9, some b_8, ob none] w [] := TR.pick [1, 2, 0] rfl
      have C' : Ctx U0 [] w0 [some b_9, some b_8, ob none] _ := C.pick [1, 2, 0] (by decide) rfl
      replace f_4 := T.sl f_4
      replace f_7 := T.sl f_7
      replace hb_8 := T.blk ne0 hb_8
      replace hb_9 := T.blk ne0 hb_9
      clear T; replace C := C'; clear C'
      exact ⟨[], 0, none, 0, hi_30, ha.sub ⟨rfl, rfl, rfl, rfl, rfl, rfl, trivial⟩, C, f_4, f_7, hb_8, hb_9, Own.nil⟩
    · rintro n_30 a w ⟨l_24, x_29, A_25, k_26, hi_30, ha, C, f_4, f_7, hb_8, hb_9, f_27⟩
      obtain ⟨n_30, q_30, rfl, hp, hs_30⟩ := iter_inv hi_30
      replace hp : sdu_copied_l30 F c_1 l_24 x_29 = some q_30 := hp
      clear hi_30
      refine WC.ofJ (l := [(1, .pointer (some ⟨b_8, 0, none⟩)), (2, .pointer (some ⟨b_9, 0, none⟩)), (3, .slice A_25 (List.length l_24) k_26), (8, .slice A_2 (List.length c_1.Out) k_3), (9, .int .i64 (len c_1.Out)), (10, .int .i64 x_29)]) ?_ ha
      refine WC.seq ?_
      refine WC.region ?_
      refine WL.val (rv_lss rfl rfl) rfl ?_
      refine WL.nilThen ?_
      refine WC.seq ?_
      refine WC.cond rfl (fun hc => ?_) (fun hc => ?_)
      · replace hp := if_t hp hc
        clear hc
        refine WC.skipThen ?_
        refine WC.seq ?_
        refine WC.block ?_
        refine WC.seq ?_
        refine WC.region ?_
        replace hp := bind_inv hp
        obtain ⟨x_31, e_x_31, hp⟩ := hp
        refine WL.ixSl (dt := c_1.Out) Try.underlying23 Try.sizeOf24 rfl rfl rfl f_4 e_x_31 rfl ?_
        intro d_32 es_33 f_34 hl hr
        obtain ⟨A_35, k_36, rfl, f_37⟩ := hr
        clear hl
        refine WL.val (rv_loadA1 (ad := d_32) (o := 0) Try.isAgg24 rfl f_34 rfl) rfl ?_
        refine WL.val (rv_assign rfl) rfl ?_
        refine WL.nilThen ?_
        refine WC.seq ?_
        refine WC.region ?_
        refine WL.val (rv_move rfl) rfl ?_
        refine WL.val (rv_len (dt := x_31) Try.underlying24 rfl) rfl ?_
        replace hp := bind_inv hp
        obtain ⟨l_38, e_l_38, hp⟩ := hp
        refine WL.world (rw_make (sz := 1) (zs := [.int .u8 0]) (R := (RInt .u8)) Try.underlying24 I5 rfl rfl rfl rfl rfl rfl rfl (fun _ _ => rfl) e_l_38 C) rfl ?_
        rintro v w ⟨A_40, k_41, rfl, f_42, C', T⟩
        replace C' : Ctx U0 [] w0 [ob A_40, some b_9, some b_8, ob A_25] _ := C'
        replace T : TR U0 [some b_9, some b_8, ob A_25] _ [ob A_40, some b_9, some b_8, ob A_25] _ _ := T
        replace f_42 : Own 1 5 (RInt .u8) (Mu U0 [ob A_40, some b_9, some b_8, ob A_25]) _ A_40 k_41 l_38 := f_42
        replace f_4 := T.sl f_4
        replace f_7 := T.sl f_7
        replace f_37 := T.sl f_37
        replace hb_8 := T.blk ne0 hb_8
        replace hb_9 := T.blk ne0 hb_9
        replace f_27 := T.own ne0 f_27
        clear T; replace C := C'; clear C'
        refine WL.val (rv_assign rfl) rfl ?_
        refine WL.nilThen ?_
        refine WC.seq ?_
        refine WC.region ?_
        refine WL.val (rv_move rfl) rfl ?_
        refine WL.val (rv_move rfl) rfl ?_
        refine WL.world (rw_copy (i := 0) (dt := l_38) Try.underlying24 (congrArg (Option.map (·.size)) I5) rfl rfl rfl f_42 (f_37.src) rfl C) rfl ?_
        rintro v w ⟨rfl, f_42, C', T⟩
        replace f_4 := T.sl f_4
        replace f_7 := T.sl f_7
        replace f_37 := T.sl f_37
        replace hb_8 := T.blk (C.ne (i := 2) rfl [0] rfl (by decide)) hb_8
        replace hb_9 := T.blk (C.ne (i := 1) rfl [0] rfl (by decide)) hb_9
        replace f_27 := T.own (C.ne (i := 3) rfl [0] rfl (by decide)) f_27
        clear T; replace C := C'; clear C'
        refine WL.prune (l' := [(1, .pointer (some ⟨b_8, 0, none⟩)), (2, .pointer (some ⟨b_9, 0, none⟩)), (3, .slice A_25 (List.length l_24) k_26), (5, .slice A_35 (List.length x_31) k_36), (6, .slice A_40 (List.length (cpy l_38 x_31)) k_41), (8, .slice A_2 (List.length c_1.Out) k_3), (9, .int .i64 (len c_1.Out)), (10, .int .i64 x_29), (17, .slice A_40 (List.length (cpy l_38 x_31)) k_41), (18, .slice A_35 (List.length x_31) k_36)]) ⟨rfl, rfl, rfl, rfl, (by rw [show List.length (cpy l_38 x_31) = List.length l_38 from cpy_eq]; rfl), rfl, rfl, rfl, (by rw [show List.length (cpy l_38 x_31) = List.length l_38 from cpy_eq]; rfl), rfl, trivial⟩ ?_
        refine WL.nilThen ?_
        refine WC.region ?_
        refine WL.val (rv_move rfl) rfl ?_
        refine WL.val (rv_move rfl) rfl ?_
        have f_44 : Sl 1 (RInt .u8) (Mu U0 [some b_9, some b_8, ob A_25]) _ A_40 k_41 (cpy l_38 x_31) := f_42.toSl (C.off (i := 0) rfl [1, 2, 3] rfl (by decide)) (Mu.weaken (mem_pick [1, 2, 3] rfl))
        have T : TR U0 [ob A_40, some b_9, some b_8, ob A_25] w [some b_9, some b_8, ob A_25] w [] := TR.pick [1, 2, 3] rfl
        have C' : Ctx U0 [] w0 [some b_9, some b_8, ob A_25] _ := C.pick [1, 2, 3] (by decide) rfl
        replace f_4 := T.sl f_4
        replace f_7 := T.sl f_7
        replace hb_8 := T.blk ne0 hb_8
        replace hb_9 := T.blk ne0 hb_9
        replace f_27 := T.own ne0 f_27
        clear T; replace C := C'; clear C'
        refine WL.world (rw_buildSlice (sz := 1) (R := (RSl 1 (RInt .u8))) (es := [.slice A_40 (List.length (cpy l_38 x_31)) k_41]) (dt := [cpy l_38 x_31]) Try.underlying23 Try.sizeOf24 Try.zeroValue24 rfl rfl rfl rfl rfl rfl rfl rfl ⟨_, _, rfl, rfl, ⟨_, _, rfl, f_44⟩, rfl⟩ C) rfl ?_
        rintro v w ⟨A_46, k_47, rfl, f_48, C', T⟩
        replace C' : Ctx U0 [] w0 [ob A_46, some b_9, some b_8, ob A_25] _ := C'
        replace T : TR U0 [some b_9, some b_8, ob A_25] _ [ob A_46, some b_9, some b_8, ob A_25] _ _ := T
        replace f_48 : Own 1 24 (RSl 1 (RInt .u8)) (Mu U0 [ob A_46, some b_9, some b_8, ob A_25]) _ A_46 k_47 [cpy l_38 x_31] := f_48
        replace f_4 := T.sl f_4
        replace f_7 := T.sl f_7
        replace f_44 := T.sl f_44
        replace hb_8 := T.blk ne0 hb_8
        replace hb_9 := T.blk ne0 hb_9
        replace f_27 := T.own ne0 f_27
        clear T; replace C := C'; clear C'
        replace hp := bind_inv hp
        obtain ⟨l_49, e_l_49, hp⟩ := hp
        refine WL.world (rw_append (i := 3) (dt := l_24) Try.underlying23 I24 rfl rfl rfl rfl rfl rfl rfl rfl f_27 (f_48.src) e_l_49 rfl C) rfl ?_
        rintro v w ⟨A_50, k_51, rfl, f_52, C', T⟩
        replace C' : Ctx U0 [] w0 [ob A_46, some b_9, some b_8, ob A_50] _ := C'
        replace T : TR U0 [ob A_46, some b_9, some b_8, ob A_25] _ [ob A_46, some b_9, some b_8, ob A_50] _ _ := T
        replace f_52 : Own 1 24 (RSl 1 (RInt .u8)) (Mu U0 [ob A_46, some b_9, some b_8, ob A_50]) _ A_50 k_51 l_49 := f_52
        replace f_4 := T.sl f_4
        replace f_7 := T.sl f_7
        replace f_44 := T.sl f_44
        replace hb_8 := T.blk (C.ne (i := 2) rfl [3] rfl (by decide)) hb_8
        replace hb_9 := T.blk (C.ne (i := 1) rfl [3] rfl (by decide)) hb_9
        replace f_48 := T.own (C.ne (i := 0) rfl [3] rfl (by decide)) f_48
        clear T; replace C := C'; clear C'
        refine WL.val (rv_assign rfl) rfl ?_
        refine WL.nilThen ?_
        refine WC.region ?_
        refine WL.val (rv_add rfl rfl (wrap_i64 _)) rfl ?_
        refine WL.val (rv_move rfl) rfl ?_
        refine WL.nil (fun a ha => ?_)
        have ho := next_inv hp hs_30
        have T : TR U0 [ob A_46, some b_9, some b_8, ob A_50] w [some b_9, some b_8, ob A_50] w [] := TR.pick [1, 2, 3] rfl
        have C' : Ctx U0 [] w0 [some b_9, some b_8, ob A_50] _ := C.pick [1, 2, 3] (by decide) rfl
        replace f_4 := T.sl f_4
        replace f_7 := T.sl f_7
        replace hb_8 := T.blk ne0 hb_8
        replace hb_9 := T.blk ne0 hb_9
        replace f_52 := T.own ne0 f_52
        clear T; replace C := C'; clear C'
        exact ⟨n_30, Nat.lt_succ_self _, ⟨l_49, w64 (x_29 + 1), A_50, k_51, ho, ha.sub ⟨rfl, rfl, rfl, rfl, rfl, rfl, trivial⟩, C, f_4, f_7, hb_8, hb_9, f_52⟩⟩
      · replace hp := if_f hp hc
        clear hc
        refine WC.exitJ rfl (fun a ha => ?_)
        have ho := done_inv hp hs_30
        replace hp := hpo_30
        try rw [ho] at hp
        exact ⟨l_24, A_25, k_26, hp, ha.sub ⟨rfl, rfl, rfl, trivial⟩, C, f_4, f_7, hb_8, hb_9, f_27⟩
  · rintro a w ⟨l_10, A_11, k_12, hp, ha, C, f_4, f_7, hb_8, hb_9, f_13⟩
    refine WC.ofJ (l := [(1, .pointer (some ⟨b_8, 0, none⟩)), (2, .pointer (some ⟨b_9, 0, none⟩)), (3, .slice A_11 (List.length l_10) k_12)]) ?_ ha
    refine WC.seq ?_
    refine WC.region ?_
    refine WL.val (rv_move rfl) rfl ?_
    refine WL.val (rv_fieldAddr FA26_10 rfl rfl) rfl ?_
    refine WL.storeK (rs_store (i := 1) (cs' := [.int .u16 c_1.Local, .int .u16 c_1.Remote, .int .u16 c_1.PSM, .int .i64 c_1.MTU, .int .i64 c_1.MPS, .int .i64 c_1.PeerMTU, .int .i64 c_1.PeerMPS, .int .i64 c_1.TxCredits, .int .i64 c_1.RxCredits, .int .i64 c_1.Given, .slice A_11 (List.length l_10) k_12, .int .i64 c_1.Sent, .slice A_5 (List.length c_1.In) k_6, .int .i64 c_1.Want, .bool c_1.Failed]) Try.sizeOf23 rfl rfl rfl rfl rfl hb_8 rfl C rfl rfl) ?_
    rintro w ⟨hb_8, C', T⟩
    replace f_4 := T.sl f_4
    replace f_7 := T.sl f_7
    replace hb_9 := T.blk (C.ne (i := 0) rfl [1] rfl (by decide)) hb_9
    replace f_13 := T.own (C.ne (i := 2) rfl [1] rfl (by decide)) f_13
    clear T; replace C := C'; clear C'
    refine WL.nilThen ?_
    refine WC.seq ?_
    refine WC.region ?_
    refine WL.val (rv_fieldAddr FA26_12 rfl rfl) rfl ?_
    refine WL.val (rv_load1 Try.isAgg24 rfl hb_8 rfl) rfl ?_
    refine WL.world (rw_buildSlice (sz := 1) (R := (RSl 1 (RInt .u8))) (es := [.slice A_5 (List.length c_1.In) k_6]) (dt := [c_1.In]) Try.underlying23 Try.sizeOf24 Try.zeroValue24 rfl rfl rfl rfl rfl rfl rfl rfl ⟨_, _, rfl, rfl, ⟨_, _, rfl, f_7⟩, rfl⟩ C) rfl ?_
    rintro v w ⟨A_16, k_17, rfl, f_18, C', T⟩
    replace C' : Ctx U0 [] w0 [ob A_16, some b_9, some b_8, ob A_11] _ := C'
    replace T : TR U0 [some b_9, some b_8, ob A_11] _ [ob A_16, some b_9, some b_8, ob A_11] _ _ := T
    replace f_18 : Own 1 24 (RSl 1 (RInt .u8)) (Mu U0 [ob A_16, some b_9, some b_8, ob A_11]) _ A_16 k_17 [c_1.In] := f_18
    replace f_7 := T.sl f_7
    replace hb_8 := T.blk ne0 hb_8
    replace hb_9 := T.blk ne0 hb_9
    replace f_13 := T.own ne0 f_13
    clear T; replace C := C'; clear C'
    have f_19 : Sl 1 (RSl 1 (RInt .u8)) (Mu U0 [some b_9, some b_8, ob A_11]) _ A_16 k_17 [c_1.In] := f_18.toSl (C.off (i := 0) rfl [1, 2, 3] rfl (by decide)) (Mu.weaken (mem_pick [1, 2, 3] rfl))
    have T : TR U0 [ob A_16, some b_9, some b_8, ob A_11] w [some b_9, some b_8, ob A_11] w [] := TR.pick [1, 2, 3] rfl
    have C' : Ctx U0 [] w0 [some b_9, some b_8, ob A_11] _ := C.pick [1, 2, 3] (by decide) rfl
    replace f_7 := T.sl f_7
    replace hb_8 := T.blk ne0 hb_8
    replace hb_9 := T.blk ne0 hb_9
    replace f_13 := T.own ne0 f_13
    clear T; replace C := C'; clear C'
    replace hp := bind_inv hp
    obtain ⟨x_20, e_x_20, hp⟩ := hp
    refine WL.call (rc_func Try.call37 rfl) (ok_octets_Join F (Mu U0 [some b_9, some b_8, ob A_11]) _ [c_1.In] A_16 k_17 (C.give [0, 1, 2] [] (by decide) rfl rfl (by decide)) (f_19.mu (mu_give [0, 1, 2] [] rfl rfl)) _ e_x_20) rfl ?_
    rintro v w ⟨A_21, k_22, rfl, D, f_23⟩
    obtain ⟨C', T⟩ := C.join D [0, 1, 2] [] (by decide) rfl rfl (by decide)
    replace C' : Ctx U0 [] w0 [some b_9, some b_8, ob A_11] _ := C'
    replace T : TR U0 [some b_9, some b_8, ob A_11] _ [some b_9, some b_8, ob A_11] _ [] := T
    replace f_23 : Sl 1 (RInt .u8) (Mu U0 [some b_9, some b_8, ob A_11]) _ A_21 k_22 x_20 := f_23.mu (mu_join (R := []) (L2 := [some b_9, some b_8, ob A_11]) (fun b h => h))
    replace f_7 := T.sl f_7
    replace f_19 := T.sl f_19
    replace hb_8 := T.blk ne0 hb_8
    replace hb_9 := T.blk ne0 hb_9
    replace f_13 := T.own ne0 f_13
    clear T; replace C := C'; clear C'
    clear D
    refine WL.val (rv_fieldAddr FA26_12 rfl rfl) rfl ?_
    refine WL.storeK (rs_store (i := 1) (cs' := [.int .u16 c_1.Local, .int .u16 c_1.Remote, .int .u16 c_1.PSM, .int .i64 c_1.MTU, .int .i64 c_1.MPS, .int .i64 c_1.PeerMTU, .int .i64 c_1.PeerMPS, .int .i64 c_1.TxCredits, .int .i64 c_1.RxCredits, .int .i64 c_1.Given, .slice A_11 (List.length l_10) k_12, .int .i64 c_1.Sent, .slice A_21 (List.length x_20) k_22, .int .i64 c_1.Want, .bool c_1.Failed]) Try.sizeOf24 rfl rfl rfl rfl rfl hb_8 rfl C rfl rfl) ?_
    rintro w ⟨hb_8, C', T⟩
    replace f_7 := T.sl f_7
    replace f_19 := T.sl f_19
    replace f_23 := T.sl f_23
    replace hb_9 := T.blk (C.ne (i := 0) rfl [1] rfl (by decide)) hb_9
    replace f_13 := T.own (C.ne (i := 2) rfl [1] rfl (by decide)) f_13
    clear T; replace C := C'; clear C'
    refine WL.nilThen ?_
    refine WC.seq ?_
    refine WC.region ?_
    refine WL.val (rv_loadN Try.isAgg26 Try.sizeOf26 rfl hb_8 rfl rfl) rfl ?_
    refine WL.storeK (rs_store (i := 0) (cs' := [.int .u16 c_1.Local, .int .u16 c_1.Remote, .int .u16 c_1.PSM, .int .i64 c_1.MTU, .int .i64 c_1.MPS, .int .i64 c_1.PeerMTU, .int .i64 c_1.PeerMPS, .int .i64 c_1.TxCredits, .int .i64 c_1.RxCredits, .int .i64 c_1.Given, .slice A_11 (List.length l_10) k_12, .int .i64 c_1.Sent, .slice A_21 (List.length x_20) k_22, .int .i64 c_1.Want, .bool c_1.Failed]) Try.sizeOf26 rfl rfl rfl rfl rfl hb_9 rfl C rfl rfl) ?_
    rintro w ⟨hb_9, C', T⟩
    replace f_23 := T.sl f_23
    replace hb_8 := T.blk (C.ne (i := 1) rfl [0] rfl (by decide)) hb_8
    replace f_13 := T.own (C.ne (i := 2) rfl [0] rfl (by decide)) f_13
    clear T; replace C := C'; clear C'
    refine WL.nilThen ?_
    obtain rfl := some_inv' hp
    refine WC.ret (retK (rs := [.cell 2 26]) (vs := [.agg #[.int .u16 c_1.Local, .int .u16 c_1.Remote, .int .u16 c_1.PSM, .int .i64 c_1.MTU, .int .i64 c_1.MPS, .int .i64 c_1.PeerMTU, .int .i64 c_1.PeerMPS, .int .i64 c_1.TxCredits, .int .i64 c_1.RxCredits, .int .i64 c_1.Given, .slice A_11 (List.length l_10) k_12, .int .i64 c_1.Sent, .slice A_21 (List.length x_20) k_22, .int .i64 c_1.Want, .bool c_1.Failed]]) rfl ⟨rv1_cell Try.isAgg26 Try.sizeOf26 rfl hb_9 rfl, trivial⟩ ?_)
    have T : TR U0 [some b_9, some b_8, ob A_11] w [ob A_11] w [] := TR.pick [2] rfl
    have C' : Ctx U0 [] w0 [ob A_11] _ := C.pick [2] (by decide) rfl
    replace f_23 := T.sl f_23
    replace f_13 := T.own ne0 f_13
    clear T; replace C := C'; clear C'
    exact ⟨_, rfl, A_11, k_12, A_21, k_22, rfl, C, f_23, f_13⟩

theorem ok_sdu_Queue (F : Nat) (U0 : Nat → Prop) (w0 : World) (c_1 : T_api_Channel) (sdu_8 : (List Int)) (A_2 : Option Addr) (k_3 : Nat) (A_5 : Option Addr) (k_6 : Nat) (A_9 : Option Addr) (k_10 : Nat) (C : Ctx U0 [] w0 [] w0) (f_4 : Sl 1 (RSl 1 (RInt .u8)) (Mu U0 []) w0 A_2 k_3 c_1.Out) (f_7 : Sl 1 (RInt .u8) (Mu U0 []) w0 A_5 k_6 c_1.In) (f_11 : Sl 1 (RInt .u8) (Mu U0 []) w0 A_9 k_10 sdu_8) (r : T_api_Channel × Int) (hp : sdu_Queue F c_1 sdu_8 = some r) :
    Calls Try.prog 18 #[.agg #[.int .u16 c_1.Local, .int .u16 c_1.Remote, .int .u16 c_1.PSM, .int .i64 c_1.MTU, .int .i64 c_1.MPS, .int .i64 c_1.PeerMTU, .int .i64 c_1.PeerMPS, .int .i64 c_1.TxCredits, .int .i64 c_1.RxCredits, .int .i64 c_1.Given, .slice A_2 (List.length c_1.Out) k_3, .int .i64 c_1.Sent, .slice A_5 (List.length c_1.In) k_6, .int .i64 c_1.Want, .bool c_1.Failed], .slice A_9 (List.length sdu_8) k_10] w0 fun e w => ∃ v, e = .returned v ∧ ∃ (A_86 : Option Addr) (k_87 : Nat) (A_89 : Option Addr) (k_90 : Nat), (v = .tuple #[.agg #[.int .u16 r.1.Local, .int .u16 r.1.Remote, .int .u16 r.1.PSM, .int .i64 r.1.MTU, .int .i64 r.1.MPS, .int .i64 r.1.PeerMTU, .int .i64 r.1.PeerMPS, .int .i64 r.1.TxCredits, .int .i64 r.1.RxCredits, .int .i64 r.1.Given, .slice A_86 (List.length r.1.Out) k_87, .int .i64 r.1.Sent, .slice A_89 (List.length r.1.In) k_90, .int .i64 r.1.Want, .bool r.1.Failed], .int .i64 r.2]) ∧ (Ctx U0 [] w0 [] w) ∧ (Sl 1 (RSl 1 (RInt .u8)) (Mu U0 []) w A_86 k_87 r.1.Out) ∧ (Sl 1 (RInt .u8) (Mu U0 []) w A_89 k_90 r.1.In) := by
  refine calls_enter (vs := [.agg #[.int .u16 c_1.Local, .int .u16 c_1.Remote, .int .u16 c_1.PSM, .int .i64 c_1.MTU, .int .i64 c_1.MPS, .int .i64 c_1.PeerMTU, .int .i64 c_1.PeerMPS, .int .i64 c_1.TxCredits, .int .i64 c_1.RxCredits, .int .i64 c_1.Given, .slice A_2 (List.length c_1.Out) k_3, .int .i64 c_1.Sent, .slice A_5 (List.length c_1.In) k_6, .int .i64 c_1.Want, .bool c_1.Failed], .slice A_9 (List.length sdu_8) k_10]) Try.func18 rfl Try.ntmps18 rfl ?_
  refine WC.prune (l' := [(0, .agg #[.int .u16 c_1.Local, .int .u16 c_1.Remote, .int .u16 c_1.PSM, .int .i64 c_1.MTU, .int .i64 c_1.MPS, .int .i64 c_1.PeerMTU, .int .i64 c_1.PeerMPS, .int .i64 c_1.TxCredits, .int .i64 c_1.RxCredits, .int .i64 c_1.Given, .slice A_2 (List.length c_1.Out) k_3, .int .i64 c_1.Sent, .slice A_5 (List.length c_1.In) k_6, .int .i64 c_1.Want, .bool c_1.Failed]), (1, .slice A_9 (List.length sdu_8) k_10)]) ⟨rfl, rfl, trivial⟩ ?_
  skip
  refine WC.seq ?_
  refine WC.region ?_
  refine WL.world (rw_box rfl rfl C) rfl ?_
  rintro v w ⟨b_12, rfl, hb_12, C', T⟩
  replace C' : Ctx U0 [] w0 [some b_12] _ := C'
  replace T : TR U0 [] _ [some b_12] _ [] := T
  replace hb_12 : Blk _ b_12 26 [.int .u16 c_1.Local, .int .u16 c_1.Remote, .int .u16 c_1.PSM, .int .i64 c_1.MTU, .int .i64 c_1.MPS, .int .i64 c_1.PeerMTU, .int .i64 c_1.PeerMPS, .int .i64 c_1.TxCredits, .int .i64 c_1.RxCredits, .int .i64 c_1.Given, .slice A_2 (List.length c_1.Out) k_3, .int .i64 c_1.Sent, .slice A_5 (List.length c_1.In) k_6, .int .i64 c_1.Want, .bool c_1.Failed] := hb_12
  replace f_4 := T.sl f_4
  replace f_7 := T.sl f_7
  replace f_11 := T.sl f_11
  clear T; replace C := C'; clear C'
  refine WL.world (rw_alloc Try.zeroValue26 rfl C) rfl ?_
  rintro v w ⟨b_13, rfl, hb_13, C', T⟩
  replace C' : Ctx U0 [] w0 [some b_13, some b_12] _ := C'
  replace T : TR U0 [some b_12] _ [some b_13, some b_12] _ [] := T
  replace hb_13 : Blk _ b_13 26 [.int .u16 0, .int .u16 0, .int .u16 0, .int .i64 0, .int .i64 0, .int .i64 0, .int .i64 0, .int .i64 0, .int .i64 0, .int .i64 0, .slice none 0 0, .int .i64 0, .slice none 0 0, .int .i64 0, .bool false] := hb_13
  replace f_4 := T.sl f_4
  replace f_7 := T.sl f_7
  replace f_11 := T.sl f_11
  replace hb_12 := T.blk ne0 hb_12
  clear T; replace C := C'; clear C'
  refine WL.val (rv_assign rfl) rfl ?_
  refine WL.nilThen ?_
  refine WC.seq ?_
  refine WC.region ?_
  refine WL.val (rv_loadN Try.isAgg26 Try.sizeOf26 rfl hb_12 rfl rfl) rfl ?_
  replace hp := bind_inv hp
  obtain ⟨x_14, e_x_14, hp⟩ := hp
  refine WL.call (rc_func Try.call32 rfl) (ok_sdu_copied F (Mu U0 [some b_13, some b_12]) _ c_1 A_2 k_3 A_5 k_6 (C.give [0, 1] [] (by decide) rfl rfl (by decide)) (f_4.mu (mu_give [0, 1] [] rfl rfl)) (f_7.mu (mu_give [0, 1] [] rfl rfl)) _ e_x_14) rfl ?_
  rintro v w ⟨A_15, k_16, A_19, k_20, rfl, D, f_21, f_17⟩
  obtain ⟨C', T⟩ := C.join D [0, 1] [] (by decide) rfl rfl (by decide)
  replace C' : Ctx U0 [] w0 [ob A_15, some b_13, some b_12] _ := C'
  replace T : TR U0 [some b_13, some b_12] _ [ob A_15, some b_13, some b_12] _ [] := T
  replace f_21 : Sl 1 (RInt .u8) (Mu U0 [ob A_15, some b_13, some b_12]) _ A_19 k_20 x_14.In := f_21.mu (mu_join (R := [ob A_15]) (L2 := [some b_13, some b_12]) (fun b h => h))
  replace f_17 : Own 1 24 (RSl 1 (RInt .u8)) (Mu U0 [ob A_15, some b_13, some b_12]) _ A_15 k_16 x_14.Out := f_17.mu (mu_join (R := [ob A_15]) (L2 := [some b_13, some b_12]) (fun b h => h))
  replace f_4 := T.sl f_4
  replace f_7 := T.sl f_7
  replace f_11 := T.sl f_11
  replace hb_12 := T.blk ne0 hb_12
  replace hb_13 := T.blk ne0 hb_13
  clear T; replace C := C'; clear C'
  clear D
  refine WL.storeK (rs_store (i := 2) (cs' := [.int .u16 x_14.Local, .int .u16 x_14.Remote, .int .u16 x_14.PSM, .int .i64 x_14.MTU, .int .i64 x_14.MPS, .int .i64 x_14.PeerMTU, .int .i64 x_14.PeerMPS, .int .i64 x_14.TxCredits, .int .i64 x_14.RxCredits, .int .i64 x_14.Given, .slice A_15 (List.length x_14.Out) k_16, .int .i64 x_14.Sent, .slice A_19 (List.length x_14.In) k_20, .int .i64 x_14.Want, .bool x_14.Failed]) Try.sizeOf26 rfl rfl rfl rfl rfl hb_12 rfl C rfl rfl) ?_
  rintro w ⟨hb_12, C', T⟩
  replace f_4 := T.sl f_4
  replace f_7 := T.sl f_7
  replace f_11 := T.sl f_11
  replace f_21 := T.sl f_21
  replace hb_13 := T.blk (C.ne (i := 1) rfl [2] rfl (by decide)) hb_13
  replace f_17 := T.own (C.ne (i := 0) rfl [2] rfl (by decide)) f_17
  clear T; replace C := C'; clear C'
  refine WL.nilThen ?_
  refine WC.seq ?_
  refine WC.block ?_
  refine WC.seq ?_
  refine WC.region ?_
  refine WL.val (rv_fieldAddr FA26_14 rfl rfl) rfl ?_
  refine WL.val (rv_load1 Try.isAgg4 rfl hb_12 rfl) rfl ?_
  refine WL.val (rv_assign rfl) rfl ?_
  refine WL.nilThen ?_
  refine WC.cond rfl (fun hc => ?_) (fun hc => ?_)
  · replace hp := if_t hp hc
    clear hc
    refine WC.seq ?_
    refine WC.region ?_
    refine WL.val (rv_loadN Try.isAgg26 Try.sizeOf26 rfl hb_12 rfl rfl) rfl ?_
    refine WL.storeK (rs_store (i := 1) (cs' := [.int .u16 x_14.Local, .int .u16 x_14.Remote, .int .u16 x_14.PSM, .int .i64 x_14.MTU, .int .i64 x_14.MPS, .int .i64 x_14.PeerMTU, .int .i64 x_14.PeerMPS, .int .i64 x_14.TxCredits, .int .i64 x_14.RxCredits, .int .i64 x_14.Given, .slice A_15 (List.length x_14.Out) k_16, .int .i64 x_14.Sent, .slice A_19 (List.length x_14.In) k_20, .int .i64 x_14.Want, .bool x_14.Failed]) Try.sizeOf26 rfl rfl rfl rfl rfl hb_13 rfl C rfl rfl) ?_
    rintro w ⟨hb_13, C', T⟩
    replace f_11 := T.sl f_11
    replace f_21 := T.sl f_21
    replace hb_12 := T.blk (C.ne (i := 2) rfl [1] rfl (by decide)) hb_12
    replace f_17 := T.own (C.ne (i := 0) rfl [1] rfl (by decide)) f_17
    clear T; replace C := C'; clear C'
    refine WL.val (rv_assign rfl) rfl ?_
    refine WL.nilThen ?_
    obtain rfl := some_inv' hp
    refine WC.ret (retK (rs := [.cell 4 26, .tmp 5]) (vs := [.agg #[.int .u16 x_14.Local, .int .u16 x_14.Remote, .int .u16 x_14.PSM, .int .i64 x_14.MTU, .int .i64 x_14.MPS, .int .i64 x_14.PeerMTU, .int .i64 x_14.PeerMPS, .int .i64 x_14.TxCredits, .int .i64 x_14.RxCredits, .int .i64 x_14.Given, .slice A_15 (List.length x_14.Out) k_16, .int .i64 x_14.Sent, .slice A_19 (List.length x_14.In) k_20, .int .i64 x_14.Want, .bool x_14.Failed], .int .i64 9]) rfl ⟨rv1_cell Try.isAgg26 Try.sizeOf26 rfl hb_13 rfl, rv1_tmp rfl, trivial⟩ ?_)
    have f_28 : Sl 1 (RSl 1 (RInt .u8)) (Mu U0 [some b_13, some b_12]) _ A_15 k_16 x_14.Out := f_17.toSl (C.off (i := 0) rfl [1, 2] rfl (by decide)) (Mu.weaken (mem_pick [1, 2] rfl))
    have T : TR U0 [ob A_15, some b_13, some b_12] w [some b_13, some b_12] w [] := TR.pick [1, 2] rfl
    have C' : Ctx U0 [] w0 [some b_13, some b_12] _ := C.pick [1, 2] (by decide) rfl
    replace f_21 := T.sl f_21
    clear T; replace C := C'; clear C'
    have T : TR U0 [some b_13, some b_12] w [] w [] := TR.pick [] rfl
    have C' : Ctx U0 [] w0 [] _ := C.pick [] (by decide) rfl
    replace f_21 := T.sl f_21
    replace f_28 := T.sl f_28
    clear T; replace C := C'; clear C'
    exact ⟨_, rfl, A_15, k_16, A_19, k_20, rfl, C, f_28, f_21⟩
  · replace hp := if_f hp hc
    clear hc
    refine WC.seq ?_
    refine WC.region ?_
    refine WL.val (rv_move rfl) rfl ?_
    refine WL.val (rv_len (dt := sdu_8) Try.underlying24 rfl) rfl ?_
    refine WL.val (rv_fieldAddr FA26_5 rfl rfl) rfl ?_
    refine WL.val (rv_load1 Try.isAgg3 rfl hb_12 rfl) rfl ?_
    refine WL.val (rv_gtr rfl rfl) rfl ?_
    refine WL.val (rv_assign rfl) rfl ?_
    refine WL.nilThen ?_
    refine WC.cond rfl (fun hc => ?_) (fun hc => ?_)
    · replace hp := if_t hp hc
      clear hc
      refine WC.seq ?_
      refine WC.region ?_
      refine WL.val (rv_loadN Try.isAgg26 Try.sizeOf26 rfl hb_12 rfl rfl) rfl ?_
      refine WL.storeK (rs_store (i := 1) (cs' := [.int .u16 x_14.Local, .int .u16 x_14.Remote, .int .u16 x_14.PSM, .int .i64 x_14.MTU, .int .i64 x_14.MPS, .int .i64 x_14.PeerMTU, .int .i64 x_14.PeerMPS, .int .i64 x_14.TxCredits, .int .i64 x_14.RxCredits, .int .i64 x_14.Given, .slice A_15 (List.length x_14.Out) k_16, .int .i64 x_14.Sent, .slice A_19 (List.length x_14.In) k_20, .int .i64 x_14.Want, .bool x_14.Failed]) Try.sizeOf26 rfl rfl rfl rfl rfl hb_13 rfl C rfl rfl) ?_
      rintro w ⟨hb_13, C', T⟩
      replace f_11 := T.sl f_11
      replace f_21 := T.sl f_21
      replace hb_12 := T.blk (C.ne (i := 2) rfl [1] rfl (by decide)) hb_12
      replace f_17 := T.own (C.ne (i := 0) rfl [1] rfl (by decide)) f_17
      clear T; replace C := C'; clear C'
      refine WL.val (rv_assign rfl) rfl ?_
      refine WL.nilThen ?_
      obtain rfl := some_inv' hp
      refine WC.ret (retK (rs := [.cell 4 26, .tmp 5]) (vs := [.agg #[.int .u16 x_14.Local, .int .u16 x_14.Remote, .int .u16 x_14.PSM, .int .i64 x_14.MTU, .int .i64 x_14.MPS, .int .i64 x_14.PeerMTU, .int .i64 x_14.PeerMPS, .int .i64 x_14.TxCredits, .int .i64 x_14.RxCredits, .int .i64 x_14.Given, .slice A_15 (List.length x_14.Out) k_16, .int .i64 x_14.Sent, .slice A_19 (List.length x_14.In) k_20, .int .i64 x_14.Want, .bool x_14.Failed], .int .i64 4]) rfl ⟨rv1_cell Try.isAgg26 Try.sizeOf26 rfl hb_13 rfl, rv1_tmp rfl, trivial⟩ ?_)
      have f_28 : Sl 1 (RSl 1 (RInt .u8)) (Mu U0 [some b_13, some b_12]) _ A_15 k_16 x_14.Out := f_17.toSl (C.off (i := 0) rfl [1, 2] rfl (by decide)) (Mu.weaken (mem_pick [1, 2] rfl))
      have T : TR U0 [ob A_15, some b_13, some b_12] w [some b_13, some b_12] w [] := TR.pick [1, 2] rfl
      have C' : Ctx U0 [] w0 [some b_13, some b_12] _ := C.pick [1, 2] (by decide) rfl
      replace f_21 := T.sl f_21
      clear T; replace C := C'; clear C'
      have T : TR U0 [some b_13, some b_12] w [] w [] := TR.pick [] rfl
      have C' : Ctx U0 [] w0 [] _ := C.pick [] (by decide) rfl
      replace f_21 := T.sl f_21
      replace f_28 := T.sl f_28
      clear T; replace C := C'; clear C'
      exact ⟨_, rfl, A_15, k_16, A_19, k_20, rfl, C, f_28, f_21⟩
    · replace hp := if_f hp hc
      clear hc
      refine WC.seq ?_
      refine WC.region ?_
      refine WL.val (rv_fieldAddr FA26_10 rfl rfl) rfl ?_
      refine WL.val (rv_load1 Try.isAgg23 rfl hb_12 rfl) rfl ?_
      refine WL.val (rv_len (dt := x_14.Out) Try.underlying23 rfl) rfl ?_
      refine WL.val (rv_geq rfl rfl) rfl ?_
      refine WL.val (rv_assign rfl) rfl ?_
      refine WL.nilThen ?_
      refine WC.cond rfl (fun hc => ?_) (fun hc => ?_)
      · replace hp := if_t hp hc
        clear hc
        refine WC.seq ?_
        refine WC.region ?_
        refine WL.val (rv_loadN Try.isAgg26 Try.sizeOf26 rfl hb_12 rfl rfl) rfl ?_
        refine WL.storeK (rs_store (i := 1) (cs' := [.int .u16 x_14.Local, .int .u16 x_14.Remote, .int .u16 x_14.PSM, .int .i64 x_14.MTU, .int .i64 x_14.MPS, .int .i64 x_14.PeerMTU, .int .i64 x_14.PeerMPS, .int .i64 x_14.TxCredits, .int .i64 x_14.RxCredits, .int .i64 x_14.Given, .slice A_15 (List.length x_14.Out) k_16, .int .i64 x_14.Sent, .slice A_19 (List.length x_14.In) k_20, .int .i64 x_14.Want, .bool x_14.Failed]) Try.sizeOf26 rfl rfl rfl rfl rfl hb_13 rfl C rfl rfl) ?_
        rintro w ⟨hb_13, C', T⟩
        replace f_11 := T.sl f_11
        replace f_21 := T.sl f_21
        replace hb_12 := T.blk (C.ne (i := 2) rfl [1] rfl (by decide)) hb_12
        replace f_17 := T.own (C.ne (i := 0) rfl [1] rfl (by decide)) f_17
        clear T; replace C := C'; clear C'
        refine WL.val (rv_assign rfl) rfl ?_
        refine WL.nilThen ?_
        obtain rfl := some_inv' hp
        refine WC.ret (retK (rs := [.cell 4 26, .tmp 5]) (vs := [.agg #[.int .u16 x_14.Local, .int .u16 x_14.Remote, .int .u16 x_14.PSM, .int .i64 x_14.MTU, .int .i64 x_14.MPS, .int .i64 x_14.PeerMTU, .int .i64 x_14.PeerMPS, .int .i64 x_14.TxCredits, .int .i64 x_14.RxCredits, .int .i64 x_14.Given, .slice A_15 (List.length x_14.Out) k_16, .int .i64 x_14.Sent, .slice A_19 (List.length x_14.In) k_20, .int .i64 x_14.Want, .bool x_14.Failed], .int .i64 8]) rfl ⟨rv1_cell Try.isAgg26 Try.sizeOf26 rfl hb_13 rfl, rv1_tmp rfl, trivial⟩ ?_)
        have f_28 : Sl 1 (RSl 1 (RInt .u8)) (Mu U0 [some b_13, some b_12]) _ A_15 k_16 x_14.Out := f_17.toSl (C.off (i := 0) rfl [1, 2] rfl (by decide)) (Mu.weaken (mem_pick [1, 2] rfl))
        have T : TR U0 [ob A_15, some b_13, some b_12] w [some b_13, some b_12] w [] := TR.pick [1, 2] rfl
        have C' : Ctx U0 [] w0 [some b_13, some b_12] _ := C.pick [1, 2] (by decide) rfl
        replace f_21 := T.sl f_21
        clear T; replace C := C'; clear C'
        have T : TR U0 [some b_13, some b_12] w [] w [] := TR.pick [] rfl
        have C' : Ctx U0 [] w0 [] _ := C.pick [] (by decide) rfl
        replace f_21 := T.sl f_21
        replace f_28 := T.sl f_28
        clear T; replace C := C'; clear C'
        exact ⟨_, rfl, A_15, k_16, A_19, k_20, rfl, C, f_28, f_21⟩
      · replace hp := if_f hp hc
        clear hc
        refine WC.skipThen ?_
        refine WC.seqCut (fun a w => ∃ (l_22 : (List (List Int))) (A_23 : Option Addr) (k_24 : Nat), (sdu_Queue_j1 F x_14 l_22 = some r) ∧ (Holds 34 [(2, .pointer (some ⟨b_12, 0, none⟩)), (4, .pointer (some ⟨b_13, 0, none⟩))] a) ∧ (Ctx U0 [] w0 [ob A_23, some b_13, some b_12] w) ∧ (Sl 1 (RInt .u8) (Mu U0 [ob A_23, some b_13, some b_12]) w A_19 k_20 x_14.In) ∧ (Blk w b_12 26 [.int .u16 x_14.Local, .int .u16 x_14.Remote, .int .u16 x_14.PSM, .int .i64 x_14.MTU, .int .i64 x_14.MPS, .int .i64 x_14.PeerMTU, .int .i64 x_14.PeerMPS, .int .i64 x_14.TxCredits, .int .i64 x_14.RxCredits, .int .i64 x_14.Given, .slice A_23 (List.length l_22) k_24, .int .i64 x_14.Sent, .slice A_19 (List.length x_14.In) k_20, .int .i64 x_14.Want, .bool x_14.Failed]) ∧ (Blk w b_13 26 [.int .u16 0, .int .u16 0, .int .u16 0, .int .i64 0, .int .i64 0, .int .i64 0, .int .i64 0, .int .i64 0, .int .i64 0, .int .i64 0, .slice none 0 0, .int .i64 0, .slice none 0 0, .int .i64 0, .bool false]) ∧ (Own 1 24 (RSl 1 (RInt .u8)) (Mu U0 [ob A_23, some b_13, some b_12]) w A_23 k_24 l_22)) ?_ ?_
        · refine WC.draw (fun _ => True) MO C ?_
          rintro w C' T
          replace f_11 := T.sl f_11
          replace f_21 := T.sl f_21
          replace hb_12 := T.blk ne0 hb_12
          replace hb_13 := T.blk ne0 hb_13
          replace f_17 := T.own ne0 f_17
          clear T; replace C := C'; clear C'
          refine WA.take (i := 0) (bs' := [true, false, false, false, false, false, false, false, false]) rfl (by kernel_rfl) (by kernel_rfl) (by kernel_rfl) (fun _ _ => rv_fieldAddr FA26_10 rfl rfl) trivial rfl rfl ?_
          refine WA.take (i := 2) (bs' := [true, false, true, false, false, false, false, false, false]) rfl (by kernel_rfl) (by kernel_rfl) (by kernel_rfl) (fun _ _ => rv_move rfl) trivial rfl rfl ?_
          refine WA.all2 (i := 1) (j := 3) (by kernel_rfl) ?_ ?_
          · refine WS.val (i := 1) (bs' := [true, true, true, false, false, false, false, false, false]) rfl (rv_load1 Try.isAgg23 rfl hb_12 rfl) rfl rfl ?_
            refine ⟨trivial, ?_⟩
            refine WA.all1 (i := 3) (by kernel_rfl) ?_
            refine WS.world (i := 3) (bs' := [true, true, true, true, false, false, false, false, false]) rfl (rw_buildSlice (sz := 1) (R := (RSl 1 (RInt .u8))) (es := [.slice A_9 (List.length sdu_8) k_10]) (dt := [sdu_8]) Try.underlying23 Try.sizeOf24 Try.zeroValue24 rfl rfl rfl rfl rfl rfl rfl rfl ⟨_, _, rfl, rfl, ⟨_, _, rfl, f_11⟩, rfl⟩ C) rfl rfl ?_
            rintro v w ⟨A_28, k_29, rfl, f_30, C', T⟩
            replace C' : Ctx U0 [] w0 [ob A_28, ob A_15, some b_13, some b_12] _ := C'
            replace T : TR U0 [ob A_15, some b_13, some b_12] _ [ob A_28, ob A_15, some b_13, some b_12] _ _ := T
            replace f_30 : Own 1 24 (RSl 1 (RInt .u8)) (Mu U0 [ob A_28, ob A_15, some b_13, some b_12]) _ A_28 k_29 [sdu_8] := f_30
            replace f_11 := T.sl f_11
            replace f_21 := T.sl f_21
            replace hb_12 := T.blk ne0 hb_12
            replace hb_13 := T.blk ne0 hb_13
            replace f_17 := T.own ne0 f_17
            clear T; replace C := C'; clear C'
            refine ⟨trivial, ?_⟩
            refine WA.all1 (i := 4) (by kernel_rfl) ?_
            have f_31 : Sl 1 (RSl 1 (RInt .u8)) (Mu U0 [ob A_15, some b_13, some b_12]) _ A_28 k_29 [sdu_8] := f_30.toSl (C.off (i := 0) rfl [1, 2, 3] rfl (by decide)) (Mu.weaken (mem_pick [1, 2, 3] rfl))
            have T : TR U0 [ob A_28, ob A_15, some b_13, some b_12] w [ob A_15, some b_13, some b_12] w [] := TR.pick [1, 2, 3] rfl
            have C' : Ctx U0 [] w0 [ob A_15, some b_13, some b_12] _ := C.pick [1, 2, 3] (by decide) rfl
            replace f_11 := T.sl f_11
            replace f_21 := T.sl f_21
            replace hb_12 := T.blk ne0 hb_12
            replace hb_13 := T.blk ne0 hb_13
            replace f_17 := T.own ne0 f_17
            clear T; replace C := C'; clear C'
            replace hp := bind_inv hp
            obtain ⟨x_32, e_x_32, hp⟩ := hp
            refine WS.call (i := 4) (bs' := [true, true, true, true, true, false, false, false, false]) rfl (rc_func Try.call37 rfl) (ok_octets_Join F (Mu U0 [ob A_15, some b_13, some b_12]) _ [sdu_8] A_28 k_29 (C.give [0, 1, 2] [] (by decide) rfl rfl (by decide)) (f_31.mu (mu_give [0, 1, 2] [] rfl rfl)) _ e_x_32) rfl rfl ?_
            rintro v w ⟨A_33, k_34, rfl, D, f_35⟩
            obtain ⟨C', T⟩ := C.join D [0, 1, 2] [] (by decide) rfl rfl (by decide)
            replace C' : Ctx U0 [] w0 [ob A_15, some b_13, some b_12] _ := C'
            replace T : TR U0 [ob A_15, some b_13, some b_12] _ [ob A_15, some b_13, some b_12] _ [] := T
            replace f_35 : Sl 1 (RInt .u8) (Mu U0 [ob A_15, some b_13, some b_12]) _ A_33 k_34 x_32 := f_35.mu (mu_join (R := []) (L2 := [ob A_15, some b_13, some b_12]) (fun b h => h))
            replace f_11 := T.sl f_11
            replace f_21 := T.sl f_21
            replace f_31 := T.sl f_31
            replace hb_12 := T.blk ne0 hb_12
            replace hb_13 := T.blk ne0 hb_13
            replace f_17 := T.own ne0 f_17
            clear T; replace C := C'; clear C'
            clear D
            refine ⟨trivial, ?_⟩
            refine WA.all1 (i := 5) (by kernel_rfl) ?_
            refine WS.world (i := 5) (bs' := [true, true, true, true, true, true, false, false, false]) rfl (rw_buildSlice (sz := 1) (R := (RSl 1 (RInt .u8))) (es := [.slice A_33 (List.length x_32) k_34]) (dt := [x_32]) Try.underlying23 Try.sizeOf24 Try.zeroValue24 rfl rfl rfl rfl rfl rfl rfl rfl ⟨_, _, rfl, rfl, ⟨_, _, rfl, f_35⟩, rfl⟩ C) rfl rfl ?_
            rintro v w ⟨A_37, k_38, rfl, f_39, C', T⟩
            replace C' : Ctx U0 [] w0 [ob A_37, ob A_15, some b_13, some b_12] _ := C'
            replace T : TR U0 [ob A_15, some b_13, some b_12] _ [ob A_37, ob A_15, some b_13, some b_12] _ _ := T
            replace f_39 : Own 1 24 (RSl 1 (RInt .u8)) (Mu U0 [ob A_37, ob A_15, some b_13, some b_12]) _ A_37 k_38 [x_32] := f_39
            replace f_11 := T.sl f_11
            replace f_21 := T.sl f_21
            replace f_31 := T.sl f_31
            replace f_35 := T.sl f_35
            replace hb_12 := T.blk ne0 hb_12
            replace hb_13 := T.blk ne0 hb_13
            replace f_17 := T.own ne0 f_17
            clear T; replace C := C'; clear C'
            refine ⟨trivial, ?_⟩
            refine WA.all1 (i := 6) (by kernel_rfl) ?_
            replace hp := bind_inv hp
            obtain ⟨l_40, e_l_40, hp⟩ := hp
            refine WS.world (i := 6) (bs' := [true, true, true, true, true, true, true, false, false]) rfl (rw_append (i := 1) (dt := x_14.Out) Try.underlying23 I24 rfl rfl rfl rfl rfl rfl rfl rfl f_17 (f_39.src) e_l_40 rfl C) rfl rfl ?_
            rintro v w ⟨A_41, k_42, rfl, f_43, C', T⟩
            replace C' : Ctx U0 [] w0 [ob A_37, ob A_41, some b_13, some b_12] _ := C'
            replace T : TR U0 [ob A_37, ob A_15, some b_13, some b_12] _ [ob A_37, ob A_41, some b_13, some b_12] _ _ := T
            replace f_43 : Own 1 24 (RSl 1 (RInt .u8)) (Mu U0 [ob A_37, ob A_41, some b_13, some b_12]) _ A_41 k_42 l_40 := f_43
            replace f_11 := T.sl f_11
            replace f_21 := T.sl f_21
            replace f_31 := T.sl f_31
            replace f_35 := T.sl f_35
            replace hb_12 := T.blk (C.ne (i := 3) rfl [1] rfl (by decide)) hb_12
            replace hb_13 := T.blk (C.ne (i := 2) rfl [1] rfl (by decide)) hb_13
            replace f_39 := T.own (C.ne (i := 0) rfl [1] rfl (by decide)) f_39
            clear T; replace C := C'; clear C'
            refine ⟨trivial, ?_⟩
            refine WA.take (i := 7) (bs' := [true, true, true, true, true, true, true, true, false]) rfl (by kernel_rfl) (by kernel_rfl) (by kernel_rfl) (fun _ _ => rv_fieldAddr FA26_10 rfl rfl) trivial rfl rfl ?_
            refine WA.all1 (i := 8) (by kernel_rfl) ?_
            refine WS.storeK (i := 8) (bs' := [true, true, true, true, true, true, true, true, true]) rfl (rs_store (i := 3) (cs' := [.int .u16 x_14.Local, .int .u16 x_14.Remote, .int .u16 x_14.PSM, .int .i64 x_14.MTU, .int .i64 x_14.MPS, .int .i64 x_14.PeerMTU, .int .i64 x_14.PeerMPS, .int .i64 x_14.TxCredits, .int .i64 x_14.RxCredits, .int .i64 x_14.Given, .slice A_41 (List.length l_40) k_42, .int .i64 x_14.Sent, .slice A_19 (List.length x_14.In) k_20, .int .i64 x_14.Want, .bool x_14.Failed]) Try.sizeOf23 rfl rfl rfl rfl rfl hb_12 rfl C rfl rfl) rfl ?_
            rintro w ⟨hb_12, C', T⟩
            replace f_11 := T.sl f_11
            replace f_21 := T.sl f_21
            replace f_31 := T.sl f_31
            replace f_35 := T.sl f_35
            replace hb_13 := T.blk (C.ne (i := 2) rfl [3] rfl (by decide)) hb_13
            replace f_39 := T.own (C.ne (i := 0) rfl [3] rfl (by decide)) f_39
            replace f_43 := T.own (C.ne (i := 1) rfl [3] rfl (by decide)) f_43
            clear T; replace C := C'; clear C'
            refine ⟨trivial, ?_⟩
            refine WA.done (by kernel_rfl) (fun a ha => ?_)
            have T : TR U0 [ob A_37, ob A_41, some b_13, some b_12] w [ob A_41, some b_13, some b_12] w [] := TR.pick [1, 2, 3] rfl
            have C' : Ctx U0 [] w0 [ob A_41, some b_13, some b_12] _ := C.pick [1, 2, 3] (by decide) rfl
            replace f_21 := T.sl f_21
            replace hb_12 := T.blk ne0 hb_12
            replace hb_13 := T.blk ne0 hb_13
            replace f_43 := T.own ne0 f_43
            clear T; replace C := C'; clear C'
            exact ⟨l_40, A_41, k_42, hp, ha.sub ⟨rfl, rfl, trivial⟩, C, f_21, hb_12, hb_13, f_43⟩
          · refine WS.world (i := 3) (bs' := [true, false, true, true, false, false, false, false, false]) rfl (rw_buildSlice (sz := 1) (R := (RSl 1 (RInt .u8))) (es := [.slice A_9 (List.length sdu_8) k_10]) (dt := [sdu_8]) Try.underlying23 Try.sizeOf24 Try.zeroValue24 rfl rfl rfl rfl rfl rfl rfl rfl ⟨_, _, rfl, rfl, ⟨_, _, rfl, f_11⟩, rfl⟩ C) rfl rfl ?_
            rintro v w ⟨A_46, k_47, rfl, f_48, C', T⟩
            replace C' : Ctx U0 [] w0 [ob A_46, ob A_15, some b_13, some b_12] _ := C'
            replace T : TR U0 [ob A_15, some b_13, some b_12] _ [ob A_46, ob A_15, some b_13, some b_12] _ _ := T
            replace f_48 : Own 1 24 (RSl 1 (RInt .u8)) (Mu U0 [ob A_46, ob A_15, some b_13, some b_12]) _ A_46 k_47 [sdu_8] := f_48
            replace f_11 := T.sl f_11
            replace f_21 := T.sl f_21
            replace hb_12 := T.blk ne0 hb_12
            replace hb_13 := T.blk ne0 hb_13
            replace f_17 := T.own ne0 f_17
            clear T; replace C := C'; clear C'
            refine ⟨trivial, ?_⟩
            refine WA.all2 (i := 1) (j := 4) (by kernel_rfl) ?_ ?_
            · refine WS.val (i := 1) (bs' := [true, true, true, true, false, false, false, false, false]) rfl (rv_load1 Try.isAgg23 rfl hb_12 rfl) rfl rfl ?_
              refine ⟨trivial, ?_⟩
              refine WA.all1 (i := 4) (by kernel_rfl) ?_
              have f_49 : Sl 1 (RSl 1 (RInt .u8)) (Mu U0 [ob A_15, some b_13, some b_12]) _ A_46 k_47 [sdu_8] := f_48.toSl (C.off (i := 0) rfl [1, 2, 3] rfl (by decide)) (Mu.weaken (mem_pick [1, 2, 3] rfl))
              have T : TR U0 [ob A_46, ob A_15, some b_13, some b_12] w [ob A_15, some b_13, some b_12] w [] := TR.pick [1, 2, 3] rfl
              have C' : Ctx U0 [] w0 [ob A_15, some b_13, some b_12] _ := C.pick [1, 2, 3] (by decide) rfl
              replace f_11 := T.sl f_11
              replace f_21 := T.sl f_21
              replace hb_12 := T.blk ne0 hb_12
              replace hb_13 := T.blk ne0 hb_13
              replace f_17 := T.own ne0 f_17
              clear T; replace C := C'; clear C'
              replace hp := bind_inv hp
              obtain ⟨x_50, e_x_50, hp⟩ := hp
              refine WS.call (i := 4) (bs' := [true, true, true, true, true, false, false, false, false]) rfl (rc_func Try.call37 rfl) (ok_octets_Join F (Mu U0 [ob A_15, some b_13, some b_12]) _ [sdu_8] A_46 k_47 (C.give [0, 1, 2] [] (by decide) rfl rfl (by decide)) (f_49.mu (mu_give [0, 1, 2] [] rfl rfl)) _ e_x_50) rfl rfl ?_
              rintro v w ⟨A_51, k_52, rfl, D, f_53⟩
              obtain ⟨C', T⟩ := C.join D [0, 1, 2] [] (by decide) rfl rfl (by decide)
              replace C' : Ctx U0 [] w0 [ob A_15, some b_13, some b_12] _ := C'
              replace T : TR U0 [ob A_15, some b_13, some b_12] _ [ob A_15, some b_13, some b_12] _ [] := T
              replace f_53 : Sl 1 (RInt .u8) (Mu U0 [ob A_15, some b_13, some b_12]) _ A_51 k_52 x_50 := f_53.mu (mu_join (R := []) (L2 := [ob A_15, some b_13, some b_12]) (fun b h => h))
              replace f_11 := T.sl f_11
              replace f_21 := T.sl f_21
              replace f_49 := T.sl f_49
              replace hb_12 := T.blk ne0 hb_12
              replace hb_13 := T.blk ne0 hb_13
              replace f_17 := T.own ne0 f_17
              clear T; replace C := C'; clear C'
              clear D
              refine ⟨trivial, ?_⟩
              refine WA.all1 (i := 5) (by kernel_rfl) ?_
              refine WS.world (i := 5) (bs' := [true, true, true, true, true, true, false, false, false]) rfl (rw_buildSlice (sz := 1) (R := (RSl 1 (RInt .u8))) (es := [.slice A_51 (List.length x_50) k_52]) (dt := [x_50]) Try.underlying23 Try.sizeOf24 Try.zeroValue24 rfl rfl rfl rfl rfl rfl rfl rfl ⟨_, _, rfl, rfl, ⟨_, _, rfl, f_53⟩, rfl⟩ C) rfl rfl ?_
              rintro v w ⟨A_55, k_56, rfl, f_57, C', T⟩
              replace C' : Ctx U0 [] w0 [ob A_55, ob A_15, some b_13, some b_12] _ := C'
              replace T : TR U0 [ob A_15, some b_13, some b_12] _ [ob A_55, ob A_15, some b_13, some b_12] _ _ := T
              replace f_57 : Own 1 24 (RSl 1 (RInt .u8)) (Mu U0 [ob A_55, ob A_15, some b_13, some b_12]) _ A_55 k_56 [x_50] := f_57
              replace f_11 := T.sl f_11
              replace f_21 := T.sl f_21
              replace f_49 := T.sl f_49
              replace f_53 := T.sl f_53
              replace hb_12 := T.blk ne0 hb_12
              replace hb_13 := T.blk ne0 hb_13
              replace f_17 := T.own ne0 f_17
              clear T; replace C := C'; clear C'
              refine ⟨trivial, ?_⟩
              refine WA.all1 (i := 6) (by kernel_rfl) ?_
              replace hp := bind_inv hp
              obtain ⟨l_58, e_l_58, hp⟩ := hp
              refine WS.world (i := 6) (bs' := [true, true, true, true, true, true, true, false, false]) rfl (rw_append (i := 1) (dt := x_14.Out) Try.underlying23 I24 rfl rfl rfl rfl rfl rfl rfl rfl f_17 (f_57.src) e_l_58 rfl C) rfl rfl ?_
              rintro v w ⟨A_59, k_60, rfl, f_61, C', T⟩
              replace C' : Ctx U0 [] w0 [ob A_55, ob A_59, some b_13, some b_12] _ := C'
              replace T : TR U0 [ob A_55, ob A_15, some b_13, some b_12] _ [ob A_55, ob A_59, some b_13, some b_12] _ _ := T
              replace f_61 : Own 1 24 (RSl 1 (RInt .u8)) (Mu U0 [ob A_55, ob A_59, some b_13, some b_12]) _ A_59 k_60 l_58 := f_61
              replace f_11 := T.sl f_11
              replace f_21 := T.sl f_21
              replace f_49 := T.sl f_49
              replace f_53 := T.sl f_53
              replace hb_12 := T.blk (C.ne (i := 3) rfl [1] rfl (by decide)) hb_12
              replace hb_13 := T.blk (C.ne (i := 2) rfl [1] rfl (by decide)) hb_13
              replace f_57 := T.own (C.ne (i := 0) rfl [1] rfl (by decide)) f_57
              clear T; replace C := C'; clear C'
              refine ⟨trivial, ?_⟩
              refine WA.take (i := 7) (bs' := [true, true, true, true, true, true, true, true, false]) rfl (by kernel_rfl) (by kernel_rfl) (by kernel_rfl) (fun _ _ => rv_fieldAddr FA26_10 rfl rfl) trivial rfl rfl ?_
              refine WA.all1 (i := 8) (by kernel_rfl) ?_
              refine WS.storeK (i := 8) (bs' := [true, true, true, true, true, true, true, true, true]) rfl (rs_store (i := 3) (cs' := [.int .u16 x_14.Local, .int .u16 x_14.Remote, .int .u16 x_14.PSM, .int .i64 x_14.MTU, .int .i64 x_14.MPS, .int .i64 x_14.PeerMTU, .int .i64 x_14.PeerMPS, .int .i64 x_14.TxCredits, .int .i64 x_14.RxCredits, .int .i64 x_14.Given, .slice A_59 (List.length l_58) k_60, .int .i64 x_14.Sent, .slice A_19 (List.length x_14.In) k_20, .int .i64 x_14.Want, .bool x_14.Failed]) Try.sizeOf23 rfl rfl rfl rfl rfl hb_12 rfl C rfl rfl) rfl ?_
              rintro w ⟨hb_12, C', T⟩
              replace f_11 := T.sl f_11
              replace f_21 := T.sl f_21
              replace f_49 := T.sl f_49
              replace f_53 := T.sl f_53
              replace hb_13 := T.blk (C.ne (i := 2) rfl [3] rfl (by decide)) hb_13
              replace f_57 := T.own (C.ne (i := 0) rfl [3] rfl (by decide)) f_57
              replace f_61 := T.own (C.ne (i := 1) rfl [3] rfl (by decide)) f_61
              clear T; replace C := C'; clear C'
              refine ⟨trivial, ?_⟩
              refine WA.done (by kernel_rfl) (fun a ha => ?_)
              have T : TR U0 [ob A_55, ob A_59, some b_13, some b_12] w [ob A_59, some b_13, some b_12] w [] := TR.pick [1, 2, 3] rfl
              have C' : Ctx U0 [] w0 [ob A_59, some b_13, some b_12] _ := C.pick [1, 2, 3] (by decide) rfl
              replace f_21 := T.sl f_21
              replace hb_12 := T.blk ne0 hb_12
              replace hb_13 := T.blk ne0 hb_13
              replace f_61 := T.own ne0 f_61
              clear T; replace C := C'; clear C'
              exact ⟨l_58, A_59, k_60, hp, ha.sub ⟨rfl, rfl, trivial⟩, C, f_21, hb_12, hb_13, f_61⟩
            · have f_63 : Sl 1 (RSl 1 (RInt .u8)) (Mu U0 [ob A_15, some b_13, some b_12]) _ A_46 k_47 [sdu_8] := f_48.toSl (C.off (i := 0) rfl [1, 2, 3] rfl (by decide)) (Mu.weaken (mem_pick [1, 2, 3] rfl))
              have T : TR U0 [ob A_46, ob A_15, some b_13, some b_12] w [ob A_15, some b_13, some b_12] w [] := TR.pick [1, 2, 3] rfl
              have C' : Ctx U0 [] w0 [ob A_15, some b_13, some b_12] _ := C.pick [1, 2, 3] (by decide) rfl
              replace f_11 := T.sl f_11
              replace f_21 := T.sl f_21
              replace hb_12 := T.blk ne0 hb_12
              replace hb_13 := T.blk ne0 hb_13
              replace f_17 := T.own ne0 f_17
              clear T; replace C := C'; clear C'
              replace hp := bind_inv hp
              obtain ⟨x_64, e_x_64, hp⟩ := hp
              refine WS.call (i := 4) (bs' := [true, false, true, true, true, false, false, false, false]) rfl (rc_func Try.call37 rfl) (ok_octets_Join F (Mu U0 [ob A_15, some b_13, some b_12]) _ [sdu_8] A_46 k_47 (C.give [0, 1, 2] [] (by decide) rfl rfl (by decide)) (f_63.mu (mu_give [0, 1, 2] [] rfl rfl)) _ e_x_64) rfl rfl ?_
              rintro v w ⟨A_65, k_66, rfl, D, f_67⟩
              obtain ⟨C', T⟩ := C.join D [0, 1, 2] [] (by decide) rfl rfl (by decide)
              replace C' : Ctx U0 [] w0 [ob A_15, some b_13, some b_12] _ := C'
              replace T : TR U0 [ob A_15, some b_13, some b_12] _ [ob A_15, some b_13, some b_12] _ [] := T
              replace f_67 : Sl 1 (RInt .u8) (Mu U0 [ob A_15, some b_13, some b_12]) _ A_65 k_66 x_64 := f_67.mu (mu_join (R := []) (L2 := [ob A_15, some b_13, some b_12]) (fun b h => h))
              replace f_11 := T.sl f_11
              replace f_21 := T.sl f_21
              replace f_63 := T.sl f_63
              replace hb_12 := T.blk ne0 hb_12
              replace hb_13 := T.blk ne0 hb_13
              replace f_17 := T.own ne0 f_17
              clear T; replace C := C'; clear C'
              clear D
              refine ⟨trivial, ?_⟩
              refine WA.all2 (i := 1) (j := 5) (by kernel_rfl) ?_ ?_
              · refine WS.val (i := 1) (bs' := [true, true, true, true, true, false, false, false, false]) rfl (rv_load1 Try.isAgg23 rfl hb_12 rfl) rfl rfl ?_
                refine ⟨trivial, ?_⟩
                refine WA.all1 (i := 5) (by kernel_rfl) ?_
                refine WS.world (i := 5) (bs' := [true, true, true, true, true, true, false, false, false]) rfl (rw_buildSlice (sz := 1) (R := (RSl 1 (RInt .u8))) (es := [.slice A_65 (List.length x_64) k_66]) (dt := [x_64]) Try.underlying23 Try.sizeOf24 Try.zeroValue24 rfl rfl rfl rfl rfl rfl rfl rfl ⟨_, _, rfl, rfl, ⟨_, _, rfl, f_67⟩, rfl⟩ C) rfl rfl ?_
                rintro v w ⟨A_69, k_70, rfl, f_71, C', T⟩
                replace C' : Ctx U0 [] w0 [ob A_69, ob A_15, some b_13, some b_12] _ := C'
                replace T : TR U0 [ob A_15, some b_13, some b_12] _ [ob A_69, ob A_15, some b_13, some b_12] _ _ := T
                replace f_71 : Own 1 24 (RSl 1 (RInt .u8)) (Mu U0 [ob A_69, ob A_15, some b_13, some b_12]) _ A_69 k_70 [x_64] := f_71
                replace f_11 := T.sl f_11
                replace f_21 := T.sl f_21
                replace f_63 := T.sl f_63
                replace f_67 := T.sl f_67
                replace hb_12 := T.blk ne0 hb_12
                replace hb_13 := T.blk ne0 hb_13
                replace f_17 := T.own ne0 f_17
                clear T; replace C := C'; clear C'
                refine ⟨trivial, ?_⟩
                refine WA.all1 (i := 6) (by kernel_rfl) ?_
                replace hp := bind_inv hp
                obtain ⟨l_72, e_l_72, hp⟩ := hp
                refine WS.world (i := 6) (bs' := [true, true, true, true, true, true, true, false, false]) rfl (rw_append (i := 1) (dt := x_14.Out) Try.underlying23 I24 rfl rfl rfl rfl rfl rfl rfl rfl f_17 (f_71.src) e_l_72 rfl C) rfl rfl ?_
                rintro v w ⟨A_73, k_74, rfl, f_75, C', T⟩
                replace C' : Ctx U0 [] w0 [ob A_69, ob A_73, some b_13, some b_12] _ := C'
                replace T : TR U0 [ob A_69, ob A_15, some b_13, some b_12] _ [ob A_69, ob A_73, some b_13, some b_12] _ _ := T
                replace f_75 : Own 1 24 (RSl 1 (RInt .u8)) (Mu U0 [ob A_69, ob A_73, some b_13, some b_12]) _ A_73 k_74 l_72 := f_75
                replace f_11 := T.sl f_11
                replace f_21 := T.sl f_21
                replace f_63 := T.sl f_63
                replace f_67 := T.sl f_67
                replace hb_12 := T.blk (C.ne (i := 3) rfl [1] rfl (by decide)) hb_12
                replace hb_13 := T.blk (C.ne (i := 2) rfl [1] rfl (by decide)) hb_13
                replace f_71 := T.own (C.ne (i := 0) rfl [1] rfl (by decide)) f_71
                clear T; replace C := C'; clear C'
                refine ⟨trivial, ?_⟩
                refine WA.take (i := 7) (bs' := [true, true, true, true, true, true, true, true, false]) rfl (by kernel_rfl) (by kernel_rfl) (by kernel_rfl) (fun _ _ => rv_fieldAddr FA26_10 rfl rfl) trivial rfl rfl ?_
                refine WA.all1 (i := 8) (by kernel_rfl) ?_
                refine WS.storeK (i := 8) (bs' := [true, true, true, true, true, true, true, true, true]) rfl (rs_store (i := 3) (cs' := [.int .u16 x_14.Local, .int .u16 x_14.Remote, .int .u16 x_14.PSM, .int .i64 x_14.MTU, .int .i64 x_14.MPS, .int .i64 x_14.PeerMTU, .int .i64 x_14.PeerMPS, .int .i64 x_14.TxCredits, .int .i64 x_14.RxCredits, .int .i64 x_14.Given, .slice A_73 (List.length l_72) k_74, .int .i64 x_14.Sent, .slice A_19 (List.length x_14.In) k_20, .int .i64 x_14.Want, .bool x_14.Failed]) Try.sizeOf23 rfl rfl rfl rfl rfl hb_12 rfl C rfl rfl) rfl ?_
                rintro w ⟨hb_12, C', T⟩
                replace f_11 := T.sl f_11
                replace f_21 := T.sl f_21
                replace f_63 := T.sl f_63
                replace f_67 := T.sl f_67
                replace hb_13 := T.blk (C.ne (i := 2) rfl [3] rfl (by decide)) hb_13
                replace f_71 := T.own (C.ne (i := 0) rfl [3] rfl (by decide)) f_71
                replace f_75 := T.own (C.ne (i := 1) rfl [3] rfl (by decide)) f_75
                clear T; replace C := C'; clear C'
                refine ⟨trivial, ?_⟩
                refine WA.done (by kernel_rfl) (fun a ha => ?_)
                have T : TR U0 [ob A_69, ob A_73, some b_13, some b_12] w [ob A_73, some b_13, some b_12] w [] := TR.pick [1, 2, 3] rfl
                have C' : Ctx U0 [] w0 [ob A_73, some b_13, some b_12] _ := C.pick [1, 2, 3] (by decide) rfl
                replace f_21 := T.sl f_21
                replace hb_12 := T.blk ne0 hb_12
                replace hb_13 := T.blk ne0 hb_13
                replace f_75 := T.own ne0 f_75
                clear T; replace C := C'; clear C'
                exact ⟨l_72, A_73, k_74, hp, ha.sub ⟨rfl, rfl, trivial⟩, C, f_21, hb_12, hb_13, f_75⟩
              · refine WS.world (i := 5) (bs' := [true, false, true, true, true, true, false, false, false]) rfl (rw_buildSlice (sz := 1) (R := (RSl 1 (RInt .u8))) (es := [.slice A_65 (List.length x_64) k_66]) (dt := [x_64]) Try.underlying23 Try.sizeOf24 Try.zeroValue24 rfl rfl rfl rfl rfl rfl rfl rfl ⟨_, _, rfl, rfl, ⟨_, _, rfl, f_67⟩, rfl⟩ C) rfl rfl ?_
                rintro v w ⟨A_78, k_79, rfl, f_80, C', T⟩
                replace C' : Ctx U0 [] w0 [ob A_78, ob A_15, some b_13, some b_12] _ := C'
                replace T : TR U0 [ob A_15, some b_13, some b_12] _ [ob A_78, ob A_15, some b_13, some b_12] _ _ := T
                replace f_80 : Own 1 24 (RSl 1 (RInt .u8)) (Mu U0 [ob A_78, ob A_15, some b_13, some b_12]) _ A_78 k_79 [x_64] := f_80
                replace f_11 := T.sl f_11
                replace f_21 := T.sl f_21
                replace f_63 := T.sl f_63
                replace f_67 := T.sl f_67
                replace hb_12 := T.blk ne0 hb_12
                replace hb_13 := T.blk ne0 hb_13
                replace f_17 := T.own ne0 f_17
                clear T; replace C := C'; clear C'
                refine ⟨trivial, ?_⟩
                refine WA.all1 (i := 1) (by kernel_rfl) ?_
                refine WS.val (i := 1) (bs' := [true, true, true, true, true, true, false, false, false]) rfl (rv_load1 Try.isAgg23 rfl hb_12 rfl) rfl rfl ?_
                refine ⟨trivial, ?_⟩
                refine WA.all1 (i := 6) (by kernel_rfl) ?_
                replace hp := bind_inv hp
                obtain ⟨l_81, e_l_81, hp⟩ := hp
                refine WS.world (i := 6) (bs' := [true, true, true, true, true, true, true, false, false]) rfl (rw_append (i := 1) (dt := x_14.Out) Try.underlying23 I24 rfl rfl rfl rfl rfl rfl rfl rfl f_17 (f_80.src) e_l_81 rfl C) rfl rfl ?_
                rintro v w ⟨A_82, k_83, rfl, f_84, C', T⟩
                replace C' : Ctx U0 [] w0 [ob A_78, ob A_82, some b_13, some b_12] _ := C'
                replace T : TR U0 [ob A_78, ob A_15, some b_13, some b_12] _ [ob A_78, ob A_82, some b_13, some b_12] _ _ := T
                replace f_84 : Own 1 24 (RSl 1 (RInt .u8)) (Mu U0 [ob A_78, ob A_82, some b_13, some b_12]) _ A_82 k_83 l_81 := f_84
                replace f_11 := T.sl f_11
                replace f_21 := T.sl f_21
                replace f_63 := T.sl f_63
                replace f_67 := T.sl f_67
                replace hb_12 := T.blk (C.ne (i := 3) rfl [1] rfl (by decide)) hb_12
                replace hb_13 := T.blk (C.ne (i := 2) rfl [1] rfl (by decide)) hb_13
                replace f_80 := T.own (C.ne (i := 0) rfl [1] rfl (by decide)) f_80
                clear T; replace C := C'; clear C'
                refine ⟨trivial, ?_⟩
                refine WA.take (i := 7) (bs' := [true, true, true, true, true, true, true, true, false]) rfl (by kernel_rfl) (by kernel_rfl) (by kernel_rfl) (fun _ _ => rv_fieldAddr FA26_10 rfl rfl) trivial rfl rfl ?_
                refine WA.all1 (i := 8) (by kernel_rfl) ?_
                refine WS.storeK (i := 8) (bs' := [true, true, true, true, true, true, true, true, true]) rfl (rs_store (i := 3) (cs' := [.int .u16 x_14.Local, .int .u16 x_14.Remote, .int .u16 x_14.PSM, .int .i64 x_14.MTU, .int .i64 x_14.MPS, .int .i64 x_14.PeerMTU, .int .i64 x_14.PeerMPS, .int .i64 x_14.TxCredits, .int .i64 x_14.RxCredits, .int .i64 x_14.Given, .slice A_82 (List.length l_81) k_83, .int .i64 x_14.Sent, .slice A_19 (List.length x_14.In) k_20, .int .i64 x_14.Want, .bool x_14.Failed]) Try.sizeOf23 rfl rfl rfl rfl rfl hb_12 rfl C rfl rfl) rfl ?_
                rintro w ⟨hb_12, C', T⟩
                replace f_11 := T.sl f_11
                replace f_21 := T.sl f_21
                replace f_63 := T.sl f_63
                replace f_67 := T.sl f_67
                replace hb_13 := T.blk (C.ne (i := 2) rfl [3] rfl (by decide)) hb_13
                replace f_80 := T.own (C.ne (i := 0) rfl [3] rfl (by decide)) f_80
                replace f_84 := T.own (C.ne (i := 1) rfl [3] rfl (by decide)) f_84
                clear T; replace C := C'; clear C'
                refine ⟨trivial, ?_⟩
                refine WA.done (by kernel_rfl) (fun a ha => ?_)
                have T : TR U0 [ob A_78, ob A_82, some b_13, some b_12] w [ob A_82, some b_13, some b_12] w [] := TR.pick [1, 2, 3] rfl
                have C' : Ctx U0 [] w0 [ob A_82, some b_13, some b_12] _ := C.pick [1, 2, 3] (by decide) rfl
                replace f_21 := T.sl f_21
                replace hb_12 := T.blk ne0 hb_12
                replace hb_13 := T.blk ne0 hb_13
                replace f_84 := T.own ne0 f_84
                clear T; replace C := C'; clear C'
                exact ⟨l_81, A_82, k_83, hp, ha.sub ⟨rfl, rfl, trivial⟩, C, f_21, hb_12, hb_13, f_84⟩
        · rintro a w ⟨l_22, A_23, k_24, hp, ha, C, f_21, hb_12, hb_13, f_25⟩
          refine WC.ofJ (l := [(2, .pointer (some ⟨b_12, 0, none⟩)), (4, .pointer (some ⟨b_13, 0, none⟩))]) ?_ ha
          refine WC.seq ?_
          refine WC.region ?_
          refine WL.val (rv_loadN Try.isAgg26 Try.sizeOf26 rfl hb_12 rfl rfl) rfl ?_
          refine WL.storeK (rs_store (i := 1) (cs' := [.int .u16 x_14.Local, .int .u16 x_14.Remote, .int .u16 x_14.PSM, .int .i64 x_14.MTU, .int .i64 x_14.MPS, .int .i64 x_14.PeerMTU, .int .i64 x_14.PeerMPS, .int .i64 x_14.TxCredits, .int .i64 x_14.RxCredits, .int .i64 x_14.Given, .slice A_23 (List.length l_22) k_24, .int .i64 x_14.Sent, .slice A_19 (List.length x_14.In) k_20, .int .i64 x_14.Want, .bool x_14.Failed]) Try.sizeOf26 rfl rfl rfl rfl rfl hb_13 rfl C rfl rfl) ?_
          rintro w ⟨hb_13, C', T⟩
          replace f_21 := T.sl f_21
          replace hb_12 := T.blk (C.ne (i := 2) rfl [1] rfl (by decide)) hb_12
          replace f_25 := T.own (C.ne (i := 0) rfl [1] rfl (by decide)) f_25
          clear T; replace C := C'; clear C'
          refine WL.val (rv_assign rfl) rfl ?_
          refine WL.nilThen ?_
          obtain rfl := some_inv' hp
          refine WC.ret (retK (rs := [.cell 4 26, .tmp 5]) (vs := [.agg #[.int .u16 x_14.Local, .int .u16 x_14.Remote, .int .u16 x_14.PSM, .int .i64 x_14.MTU, .int .i64 x_14.MPS, .int .i64 x_14.PeerMTU, .int .i64 x_14.PeerMPS, .int .i64 x_14.TxCredits, .int .i64 x_14.RxCredits, .int .i64 x_14.Given, .slice A_23 (List.length l_22) k_24, .int .i64 x_14.Sent, .slice A_19 (List.length x_14.In) k_20, .int .i64 x_14.Want, .bool x_14.Failed], .int .i64 0]) rfl ⟨rv1_cell Try.isAgg26 Try.sizeOf26 rfl hb_13 rfl, rv1_tmp rfl, trivial⟩ ?_)
          have f_33 : Sl 1 (RSl 1 (RInt .u8)) (Mu U0 [some b_13, some b_12]) _ A_23 k_24 l_22 := f_25.toSl (C.off (i := 0) rfl [1, 2] rfl (by decide)) (Mu.weaken (mem_pick [1, 2] rfl))
          have T : TR U0 [ob A_23, some b_13, some b_12] w [some b_13, some b_12] w [] := TR.pick [1, 2] rfl
          have C' : Ctx U0 [] w0 [some b_13, some b_12] _ := C.pick [1, 2] (by decide) rfl
          replace f_21 := T.sl f_21
          clear T; replace C := C'; clear C'
          have T : TR U0 [some b_13, some b_12] w [] w [] := TR.pick [] rfl
          have C' : Ctx U0 [] w0 [] _ := C.pick [] (by decide) rfl
          replace f_21 := T.sl f_21
          replace f_33 := T.sl f_33
          clear T; replace C := C'; clear C'
          exact ⟨_, rfl, A_23, k_24, A_19, k_20, rfl, C, f_33, f_21⟩

theorem ok_wirelessref33_Queue (F : Nat) (U0 : Nat → Prop) (w0 : World) (c_1 : T_api_Channel) (sdu_8 : (List Int)) (A_2 : Option Addr) (k_3 : Nat) (A_5 : Option Addr) (k_6 : Nat) (A_9 : Option Addr) (k_10 : Nat) (C : Ctx U0 [] w0 [] w0) (f_4 : Sl 1 (RSl 1 (RInt .u8)) (Mu U0 []) w0 A_2 k_3 c_1.Out) (f_7 : Sl 1 (RInt .u8) (Mu U0 []) w0 A_5 k_6 c_1.In) (f_11 : Sl 1 (RInt .u8) (Mu U0 []) w0 A_9 k_10 sdu_8) (r : T_api_Channel × Int) (hp : wirelessref33_Queue F c_1 sdu_8 = some r) :
    Calls Try.prog 21 #[.agg #[.int .u16 c_1.Local, .int .u16 c_1.Remote, .int .u16 c_1.PSM, .int .i64 c_1.MTU, .int .i64 c_1.MPS, .int .i64 c_1.PeerMTU, .int .i64 c_1.PeerMPS, .int .i64 c_1.TxCredits, .int .i64 c_1.RxCredits, .int .i64 c_1.Given, .slice A_2 (List.length c_1.Out) k_3, .int .i64 c_1.Sent, .slice A_5 (List.length c_1.In) k_6, .int .i64 c_1.Want, .bool c_1.Failed], .slice A_9 (List.length sdu_8) k_10] w0 fun e w => ∃ v, e = .returned v ∧ ∃ (A_42 : Option Addr) (k_43 : Nat) (A_45 : Option Addr) (k_46 : Nat), (v = .tuple #[.agg #[.int .u16 r.1.Local, .int .u16 r.1.Remote, .int .u16 r.1.PSM, .int .i64 r.1.MTU, .int .i64 r.1.MPS, .int .i64 r.1.PeerMTU, .int .i64 r.1.PeerMPS, .int .i64 r.1.TxCredits, .int .i64 r.1.RxCredits, .int .i64 r.1.Given, .slice A_42 (List.length r.1.Out) k_43, .int .i64 r.1.Sent, .slice A_45 (List.length r.1.In) k_46, .int .i64 r.1.Want, .bool r.1.Failed], .int .i64 r.2]) ∧ (Ctx U0 [] w0 [] w) ∧ (Sl 1 (RSl 1 (RInt .u8)) (Mu U0 []) w A_42 k_43 r.1.Out) ∧ (Sl 1 (RInt .u8) (Mu U0 []) w A_45 k_46 r.1.In) := by
  refine calls_enter (vs := [.agg #[.int .u16 c_1.Local, .int .u16 c_1.Remote, .int .u16 c_1.PSM, .int .i64 c_1.MTU, .int .i64 c_1.MPS, .int .i64 c_1.PeerMTU, .int .i64 c_1.PeerMPS, .int .i64 c_1.TxCredits, .int .i64 c_1.RxCredits, .int .i64 c_1.Given, .slice A_2 (List.length c_1.Out) k_3, .int .i64 c_1.Sent, .slice A_5 (List.length c_1.In) k_6, .int .i64 c_1.Want, .bool c_1.Failed], .slice A_9 (List.length sdu_8) k_10]) Try.func21 rfl Try.ntmps21 rfl ?_
  refine WC.prune (l' := [(0, .agg #[.int .u16 c_1.Local, .int .u16 c_1.Remote, .int .u16 c_1.PSM, .int .i64 c_1.MTU, .int .i64 c_1.MPS, .int .i64 c_1.PeerMTU, .int .i64 c_1.PeerMPS, .int .i64 c_1.TxCredits, .int .i64 c_1.RxCredits, .int .i64 c_1.Given, .slice A_2 (List.length c_1.Out) k_3, .int .i64 c_1.Sent, .slice A_5 (List.length c_1.In) k_6, .int .i64 c_1.Want, .bool c_1.Failed]), (1, .slice A_9 (List.length sdu_8) k_10)]) ⟨rfl, rfl, trivial⟩ ?_
  skip
  refine WC.seq ?_
  refine WC.region ?_
  refine WL.world (rw_box rfl rfl C) rfl ?_
  rintro v w ⟨b_12, rfl, hb_12, C', T⟩
  replace C' : Ctx U0 [] w0 [some b_12] _ := C'
  replace T : TR U0 [] _ [some b_12] _ [] := T
  replace hb_12 : Blk _ b_12 26 [.int .u16 c_1.Local, .int .u16 c_1.Remote, .int .u16 c_1.PSM, .int .i64 c_1.MTU, .int .i64 c_1.MPS, .int .i64 c_1.PeerMTU, .int .i64 c_1.PeerMPS, .int .i64 c_1.TxCredits, .int .i64 c_1.RxCredits, .int .i64 c_1.Given, .slice A_2 (List.length c_1.Out) k_3, .int .i64 c_1.Sent, .slice A_5 (List.length c_1.In) k_6, .int .i64 c_1.Want, .bool c_1.Failed] := hb_12
  replace f_4 := T.sl f_4
  replace f_7 := T.sl f_7
  replace f_11 := T.sl f_11
  clear T; replace C := C'; clear C'
  refine WL.world (rw_alloc Try.zeroValue26 rfl C) rfl ?_
  rintro v w ⟨b_13, rfl, hb_13, C', T⟩
  replace C' : Ctx U0 [] w0 [some b_13, some b_12] _ := C'
  replace T : TR U0 [some b_12] _ [some b_13, some b_12] _ [] := T
  replace hb_13 : Blk _ b_13 26 [.int .u16 0, .int .u16 0, .int .u16 0, .int .i64 0, .int .i64 0, .int .i64 0, .int .i64 0, .int .i64 0, .int .i64 0, .int .i64 0, .slice none 0 0, .int .i64 0, .slice none 0 0, .int .i64 0, .bool false] := hb_13
  replace f_4 := T.sl f_4
  replace f_7 := T.sl f_7
  replace f_11 := T.sl f_11
  replace hb_12 := T.blk ne0 hb_12
  clear T; replace C := C'; clear C'
  refine WL.val (rv_assign rfl) rfl ?_
  refine WL.nilThen ?_
  refine WC.seq ?_
  refine WC.seq ?_
  refine WC.region ?_
  refine WL.val (rv_fieldAddr FA26_14 rfl rfl) rfl ?_
  refine WL.val (rv_load1 Try.isAgg4 rfl hb_12 rfl) rfl ?_
  refine WL.nilThen ?_
  refine WC.cond rfl (fun hc => ?_) (fun hc => ?_)
  · replace hp := if_t hp hc
    clear hc
    refine WC.seq ?_
    refine WC.region ?_
    refine WL.val (rv_loadN Try.isAgg26 Try.sizeOf26 rfl hb_12 rfl rfl) rfl ?_
    refine WL.storeK (rs_store (i := 0) (cs' := [.int .u16 c_1.Local, .int .u16 c_1.Remote, .int .u16 c_1.PSM, .int .i64 c_1.MTU, .int .i64 c_1.MPS, .int .i64 c_1.PeerMTU, .int .i64 c_1.PeerMPS, .int .i64 c_1.TxCredits, .int .i64 c_1.RxCredits, .int .i64 c_1.Given, .slice A_2 (List.length c_1.Out) k_3, .int .i64 c_1.Sent, .slice A_5 (List.length c_1.In) k_6, .int .i64 c_1.Want, .bool c_1.Failed]) Try.sizeOf26 rfl rfl rfl rfl rfl hb_13 rfl C rfl rfl) ?_
    rintro w ⟨hb_13, C', T⟩
    replace f_4 := T.sl f_4
    replace f_7 := T.sl f_7
    replace f_11 := T.sl f_11
    replace hb_12 := T.blk (C.ne (i := 1) rfl [0] rfl (by decide)) hb_12
    clear T; replace C := C'; clear C'
    refine WL.val (rv_assign rfl) rfl ?_
    refine WL.nilThen ?_
    obtain rfl := some_inv' hp
    refine WC.ret (retK (rs := [.cell 4 26, .tmp 5]) (vs := [.agg #[.int .u16 c_1.Local, .int .u16 c_1.Remote, .int .u16 c_1.PSM, .int .i64 c_1.MTU, .int .i64 c_1.MPS, .int .i64 c_1.PeerMTU, .int .i64 c_1.PeerMPS, .int .i64 c_1.TxCredits, .int .i64 c_1.RxCredits, .int .i64 c_1.Given, .slice A_2 (List.length c_1.Out) k_3, .int .i64 c_1.Sent, .slice A_5 (List.length c_1.In) k_6, .int .i64 c_1.Want, .bool c_1.Failed], .int .i64 9]) rfl ⟨rv1_cell Try.isAgg26 Try.sizeOf26 rfl hb_13 rfl, rv1_tmp rfl, trivial⟩ ?_)
    have T : TR U0 [some b_13, some b_12] w [] w [] := TR.pick [] rfl
    have C' : Ctx U0 [] w0 [] _ := C.pick [] (by decide) rfl
    replace f_4 := T.sl f_4
    replace f_7 := T.sl f_7
    clear T; replace C := C'; clear C'
    exact ⟨_, rfl, A_2, k_3, A_5, k_6, rfl, C, f_4, f_7⟩
  · replace hp := if_f hp hc
    clear hc
    refine WC.skipThen ?_
    refine WC.seq ?_
    refine WC.seq ?_
    refine WC.region ?_
    refine WL.val (rv_move rfl) rfl ?_
    refine WL.val (rv_len (dt := sdu_8) Try.underlying24 rfl) rfl ?_
    refine WL.val (rv_fieldAddr FA26_5 rfl rfl) rfl ?_
    refine WL.val (rv_load1 Try.isAgg3 rfl hb_12 rfl) rfl ?_
    refine WL.val (rv_gtr rfl rfl) rfl ?_
    refine WL.nilThen ?_
    refine WC.cond rfl (fun hc => ?_) (fun hc => ?_)
    · replace hp := if_t hp hc
      clear hc
      refine WC.seq ?_
      refine WC.region ?_
      refine WL.val (rv_loadN Try.isAgg26 Try.sizeOf26 rfl hb_12 rfl rfl) rfl ?_
      refine WL.storeK (rs_store (i := 0) (cs' := [.int .u16 c_1.Local, .int .u16 c_1.Remote, .int .u16 c_1.PSM, .int .i64 c_1.MTU, .int .i64 c_1.MPS, .int .i64 c_1.PeerMTU, .int .i64 c_1.PeerMPS, .int .i64 c_1.TxCredits, .int .i64 c_1.RxCredits, .int .i64 c_1.Given, .slice A_2 (List.length c_1.Out) k_3, .int .i64 c_1.Sent, .slice A_5 (List.length c_1.In) k_6, .int .i64 c_1.Want, .bool c_1.Failed]) Try.sizeOf26 rfl rfl rfl rfl rfl hb_13 rfl C rfl rfl) ?_
      rintro w ⟨hb_13, C', T⟩
      replace f_4 := T.sl f_4
      replace f_7 := T.sl f_7
      replace f_11 := T.sl f_11
      replace hb_12 := T.blk (C.ne (i := 1) rfl [0] rfl (by decide)) hb_12
      clear T; replace C := C'; clear C'
      refine WL.val (rv_assign rfl) rfl ?_
      refine WL.nilThen ?_
      obtain rfl := some_inv' hp
      refine WC.ret (retK (rs := [.cell 4 26, .tmp 5]) (vs := [.agg #[.int .u16 c_1.Local, .int .u16 c_1.Remote, .int .u16 c_1.PSM, .int .i64 c_1.MTU, .int .i64 c_1.MPS, .int .i64 c_1.PeerMTU, .int .i64 c_1.PeerMPS, .int .i64 c_1.TxCredits, .int .i64 c_1.RxCredits, .int .i64 c_1.Given, .slice A_2 (List.length c_1.Out) k_3, .int .i64 c_1.Sent, .slice A_5 (List.length c_1.In) k_6, .int .i64 c_1.Want, .bool c_1.Failed], .int .i64 4]) rfl ⟨rv1_cell Try.isAgg26 Try.sizeOf26 rfl hb_13 rfl, rv1_tmp rfl, trivial⟩ ?_)
      have T : TR U0 [some b_13, some b_12] w [] w [] := TR.pick [] rfl
      have C' : Ctx U0 [] w0 [] _ := C.pick [] (by decide) rfl
      replace f_4 := T.sl f_4
      replace f_7 := T.sl f_7
      clear T; replace C := C'; clear C'
      exact ⟨_, rfl, A_2, k_3, A_5, k_6, rfl, C, f_4, f_7⟩
    · replace hp := if_f hp hc
      clear hc
      refine WC.skipThen ?_
      refine WC.seq ?_
      refine WC.seq ?_
      refine WC.region ?_
      refine WL.val (rv_fieldAddr FA26_10 rfl rfl) rfl ?_
      refine WL.val (rv_load1 Try.isAgg23 rfl hb_12 rfl) rfl ?_
      refine WL.val (rv_len (dt := c_1.Out) Try.underlying23 rfl) rfl ?_
      refine WL.val (rv_geq rfl rfl) rfl ?_
      refine WL.nilThen ?_
      refine WC.cond rfl (fun hc => ?_) (fun hc => ?_)
      · replace hp := if_t hp hc
        clear hc
        refine WC.seq ?_
        refine WC.region ?_
        refine WL.val (rv_loadN Try.isAgg26 Try.sizeOf26 rfl hb_12 rfl rfl) rfl ?_
        refine WL.storeK (rs_store (i := 0) (cs' := [.int .u16 c_1.Local, .int .u16 c_1.Remote, .int .u16 c_1.PSM, .int .i64 c_1.MTU, .int .i64 c_1.MPS, .int .i64 c_1.PeerMTU, .int .i64 c_1.PeerMPS, .int .i64 c_1.TxCredits, .int .i64 c_1.RxCredits, .int .i64 c_1.Given, .slice A_2 (List.length c_1.Out) k_3, .int .i64 c_1.Sent, .slice A_5 (List.length c_1.In) k_6, .int .i64 c_1.Want, .bool c_1.Failed]) Try.sizeOf26 rfl rfl rfl rfl rfl hb_13 rfl C rfl rfl) ?_
        rintro w ⟨hb_13, C', T⟩
        replace f_4 := T.sl f_4
        replace f_7 := T.sl f_7
        replace f_11 := T.sl f_11
        replace hb_12 := T.blk (C.ne (i := 1) rfl [0] rfl (by decide)) hb_12
        clear T; replace C := C'; clear C'
        refine WL.val (rv_assign rfl) rfl ?_
        refine WL.nilThen ?_
        obtain rfl := some_inv' hp
        refine WC.ret (retK (rs := [.cell 4 26, .tmp 5]) (vs := [.agg #[.int .u16 c_1.Local, .int .u16 c_1.Remote, .int .u16 c_1.PSM, .int .i64 c_1.MTU, .int .i64 c_1.MPS, .int .i64 c_1.PeerMTU, .int .i64 c_1.PeerMPS, .int .i64 c_1.TxCredits, .int .i64 c_1.RxCredits, .int .i64 c_1.Given, .slice A_2 (List.length c_1.Out) k_3, .int .i64 c_1.Sent, .slice A_5 (List.length c_1.In) k_6, .int .i64 c_1.Want, .bool c_1.Failed], .int .i64 8]) rfl ⟨rv1_cell Try.isAgg26 Try.sizeOf26 rfl hb_13 rfl, rv1_tmp rfl, trivial⟩ ?_)
        have T : TR U0 [some b_13, some b_12] w [] w [] := TR.pick [] rfl
        have C' : Ctx U0 [] w0 [] _ := C.pick [] (by decide) rfl
        replace f_4 := T.sl f_4
        replace f_7 := T.sl f_7
        clear T; replace C := C'; clear C'
        exact ⟨_, rfl, A_2, k_3, A_5, k_6, rfl, C, f_4, f_7⟩
      · replace hp := if_f hp hc
        clear hc
        refine WC.skipThen ?_
        refine WC.seq ?_
        refine WC.region ?_
        refine WL.world (rw_buildSlice (sz := 1) (R := (RSl 1 (RInt .u8))) (es := []) (dt := ([] : (List (List Int)))) Try.underlying23 Try.sizeOf24 Try.zeroValue24 rfl rfl rfl rfl rfl rfl rfl rfl rfl C) rfl ?_
        rintro v w ⟨A_15, k_16, rfl, f_17, C', T⟩
        replace C' : Ctx U0 [] w0 [ob A_15, some b_13, some b_12] _ := C'
        replace T : TR U0 [some b_13, some b_12] _ [ob A_15, some b_13, some b_12] _ _ := T
        replace f_17 : Own 1 24 (RSl 1 (RInt .u8)) (Mu U0 [ob A_15, some b_13, some b_12]) _ A_15 k_16 ([] : (List (List Int))) := f_17
        replace f_4 := T.sl f_4
        replace f_7 := T.sl f_7
        replace f_11 := T.sl f_11
        replace hb_12 := T.blk ne0 hb_12
        replace hb_13 := T.blk ne0 hb_13
        clear T; replace C := C'; clear C'
        refine WL.val (rv_fieldAddr FA26_10 rfl rfl) rfl ?_
        refine WL.val (rv_load1 Try.isAgg23 rfl hb_12 rfl) rfl ?_
        replace hp := bind_inv hp
        obtain ⟨l_18, e_l_18, hp⟩ := hp
        refine WL.world (rw_append (i := 0) (dt := ([] : (List (List Int)))) Try.underlying23 I24 rfl rfl rfl rfl rfl rfl rfl rfl f_17 (f_4.src) e_l_18 rfl C) rfl ?_
        rintro v w ⟨A_19, k_20, rfl, f_21, C', T⟩
        replace C' : Ctx U0 [] w0 [ob A_19, some b_13, some b_12] _ := C'
        replace T : TR U0 [ob A_15, some b_13, some b_12] _ [ob A_19, some b_13, some b_12] _ _ := T
        replace f_21 : Own 1 24 (RSl 1 (RInt .u8)) (Mu U0 [ob A_19, some b_13, some b_12]) _ A_19 k_20 l_18 := f_21
        replace f_4 := T.sl f_4
        replace f_7 := T.sl f_7
        replace f_11 := T.sl f_11
        replace hb_12 := T.blk (C.ne (i := 2) rfl [0] rfl (by decide)) hb_12
        replace hb_13 := T.blk (C.ne (i := 1) rfl [0] rfl (by decide)) hb_13
        clear T; replace C := C'; clear C'
        refine WL.world (rw_buildSlice (sz := 1) (R := (RInt .u8)) (es := []) (dt := ([] : (List Int))) Try.underlying24 Try.sizeOf5 Try.zeroValue5 rfl rfl rfl rfl rfl rfl rfl rfl rfl C) rfl ?_
        rintro v w ⟨A_24, k_25, rfl, f_26, C', T⟩
        replace C' : Ctx U0 [] w0 [ob A_24, ob A_19, some b_13, some b_12] _ := C'
        replace T : TR U0 [ob A_19, some b_13, some b_12] _ [ob A_24, ob A_19, some b_13, some b_12] _ _ := T
        replace f_26 : Own 1 5 (RInt .u8) (Mu U0 [ob A_24, ob A_19, some b_13, some b_12]) _ A_24 k_25 ([] : (List Int)) := f_26
        replace f_4 := T.sl f_4
        replace f_7 := T.sl f_7
        replace f_11 := T.sl f_11
        replace hb_12 := T.blk ne0 hb_12
        replace hb_13 := T.blk ne0 hb_13
        replace f_21 := T.own ne0 f_21
        clear T; replace C := C'; clear C'
        refine WL.val (rv_move rfl) rfl ?_
        replace hp := bind_inv hp
        obtain ⟨l_27, e_l_27, hp⟩ := hp
        refine WL.world (rw_append (i := 0) (dt := ([] : (List Int))) Try.underlying24 I5 rfl rfl rfl rfl rfl rfl rfl rfl f_26 (f_11.src) e_l_27 rfl C) rfl ?_
        rintro v w ⟨A_28, k_29, rfl, f_30, C', T⟩
        replace C' : Ctx U0 [] w0 [ob A_28, ob A_19, some b_13, some b_12] _ := C'
        replace T : TR U0 [ob A_24, ob A_19, some b_13, some b_12] _ [ob A_28, ob A_19, some b_13, some b_12] _ _ := T
        replace f_30 : Own 1 5 (RInt .u8) (Mu U0 [ob A_28, ob A_19, some b_13, some b_12]) _ A_28 k_29 l_27 := f_30
        replace f_4 := T.sl f_4
        replace f_7 := T.sl f_7
        replace f_11 := T.sl f_11
        replace hb_12 := T.blk (C.ne (i := 3) rfl [0] rfl (by decide)) hb_12
        replace hb_13 := T.blk (C.ne (i := 2) rfl [0] rfl (by decide)) hb_13
        replace f_21 := T.own (C.ne (i := 1) rfl [0] rfl (by decide)) f_21
        clear T; replace C := C'; clear C'
        have f_32 : Sl 1 (RInt .u8) (Mu U0 [ob A_19, some b_13, some b_12]) _ A_28 k_29 l_27 := f_30.toSl (C.off (i := 0) rfl [1, 2, 3] rfl (by decide)) (Mu.weaken (mem_pick [1, 2, 3] rfl))
        have T : TR U0 [ob A_28, ob A_19, some b_13, some b_12] w [ob A_19, some b_13, some b_12] w [] := TR.pick [1, 2, 3] rfl
        have C' : Ctx U0 [] w0 [ob A_19, some b_13, some b_12] _ := C.pick [1, 2, 3] (by decide) rfl
        replace f_4 := T.sl f_4
        replace f_7 := T.sl f_7
        replace f_11 := T.sl f_11
        replace hb_12 := T.blk ne0 hb_12
        replace hb_13 := T.blk ne0 hb_13
        replace f_21 := T.own ne0 f_21
        clear T; replace C := C'; clear C'
        refine WL.world (rw_buildSlice (sz := 1) (R := (RSl 1 (RInt .u8))) (es := [.slice A_28 (List.length l_27) k_29]) (dt := [l_27]) Try.underlying23 Try.sizeOf24 Try.zeroValue24 rfl rfl rfl rfl rfl rfl rfl rfl ⟨_, _, rfl, rfl, ⟨_, _, rfl, f_32⟩, rfl⟩ C) rfl ?_
        rintro v w ⟨A_34, k_35, rfl, f_36, C', T⟩
        replace C' : Ctx U0 [] w0 [ob A_34, ob A_19, some b_13, some b_12] _ := C'
        replace T : TR U0 [ob A_19, some b_13, some b_12] _ [ob A_34, ob A_19, some b_13, some b_12] _ _ := T
        replace f_36 : Own 1 24 (RSl 1 (RInt .u8)) (Mu U0 [ob A_34, ob A_19, some b_13, some b_12]) _ A_34 k_35 [l_27] := f_36
        replace f_4 := T.sl f_4
        replace f_7 := T.sl f_7
        replace f_11 := T.sl f_11
        replace f_32 := T.sl f_32
        replace hb_12 := T.blk ne0 hb_12
        replace hb_13 := T.blk ne0 hb_13
        replace f_21 := T.own ne0 f_21
        clear T; replace C := C'; clear C'
        replace hp := bind_inv hp
        obtain ⟨l_37, e_l_37, hp⟩ := hp
        refine WL.world (rw_append (i := 1) (dt := l_18) Try.underlying23 I24 rfl rfl rfl rfl rfl rfl rfl rfl f_21 (f_36.src) e_l_37 rfl C) rfl ?_
        rintro v w ⟨A_38, k_39, rfl, f_40, C', T⟩
        replace C' : Ctx U0 [] w0 [ob A_34, ob A_38, some b_13, some b_12] _ := C'
        replace T : TR U0 [ob A_34, ob A_19, some b_13, some b_12] _ [ob A_34, ob A_38, some b_13, some b_12] _ _ := T
        replace f_40 : Own 1 24 (RSl 1 (RInt .u8)) (Mu U0 [ob A_34, ob A_38, some b_13, some b_12]) _ A_38 k_39 l_37 := f_40
        replace f_4 := T.sl f_4
        replace f_7 := T.sl f_7
        replace f_11 := T.sl f_11
        replace f_32 := T.sl f_32
        replace hb_12 := T.blk (C.ne (i := 3) rfl [1] rfl (by decide)) hb_12
        replace hb_13 := T.blk (C.ne (i := 2) rfl [1] rfl (by decide)) hb_13
        replace f_36 := T.own (C.ne (i := 0) rfl [1] rfl (by decide)) f_36
        clear T; replace C := C'; clear C'
        refine WL.val (rv_fieldAddr FA26_10 rfl rfl) rfl ?_
        refine WL.storeK (rs_store (i := 3) (cs' := [.int .u16 c_1.Local, .int .u16 c_1.Remote, .int .u16 c_1.PSM, .int .i64 c_1.MTU, .int .i64 c_1.MPS, .int .i64 c_1.PeerMTU, .int .i64 c_1.PeerMPS, .int .i64 c_1.TxCredits, .int .i64 c_1.RxCredits, .int .i64 c_1.Given, .slice A_38 (List.length l_37) k_39, .int .i64 c_1.Sent, .slice A_5 (List.length c_1.In) k_6, .int .i64 c_1.Want, .bool c_1.Failed]) Try.sizeOf23 rfl rfl rfl rfl rfl hb_12 rfl C rfl rfl) ?_
        rintro w ⟨hb_12, C', T⟩
        replace f_4 := T.sl f_4
        replace f_7 := T.sl f_7
        replace f_11 := T.sl f_11
        replace f_32 := T.sl f_32
        replace hb_13 := T.blk (C.ne (i := 2) rfl [3] rfl (by decide)) hb_13
        replace f_36 := T.own (C.ne (i := 0) rfl [3] rfl (by decide)) f_36
        replace f_40 := T.own (C.ne (i := 1) rfl [3] rfl (by decide)) f_40
        clear T; replace C := C'; clear C'
        refine WL.nilThen ?_
        refine WC.seq ?_
        refine WC.region ?_
        refine WL.val (rv_loadN Try.isAgg26 Try.sizeOf26 rfl hb_12 rfl rfl) rfl ?_
        refine WL.storeK (rs_store (i := 2) (cs' := [.int .u16 c_1.Local, .int .u16 c_1.Remote, .int .u16 c_1.PSM, .int .i64 c_1.MTU, .int .i64 c_1.MPS, .int .i64 c_1.PeerMTU, .int .i64 c_1.PeerMPS, .int .i64 c_1.TxCredits, .int .i64 c_1.RxCredits, .int .i64 c_1.Given, .slice A_38 (List.length l_37) k_39, .int .i64 c_1.Sent, .slice A_5 (List.length c_1.In) k_6, .int .i64 c_1.Want, .bool c_1.Failed]) Try.sizeOf26 rfl rfl rfl rfl rfl hb_13 rfl C rfl rfl) ?_
        rintro w ⟨hb_13, C', T⟩
        replace f_7 := T.sl f_7
        replace hb_12 := T.blk (C.ne (i := 3) rfl [2] rfl (by decide)) hb_12
        replace f_40 := T.own (C.ne (i := 1) rfl [2] rfl (by decide)) f_40
        clear T; replace C := C'; clear C'
        refine WL.val (rv_assign rfl) rfl ?_
        refine WL.nilThen ?_
        obtain rfl := some_inv' hp
        refine WC.ret (retK (rs := [.cell 4 26, .tmp 5]) (vs := [.agg #[.int .u16 c_1.Local, .int .u16 c_1.Remote, .int .u16 c_1.PSM, .int .i64 c_1.MTU, .int .i64 c_1.MPS, .int .i64 c_1.PeerMTU, .int .i64 c_1.PeerMPS, .int .i64 c_1.TxCredits, .int .i64 c_1.RxCredits, .int .i64 c_1.Given, .slice A_38 (List.length l_37) k_39, .int .i64 c_1.Sent, .slice A_5 (List.length c_1.In) k_6, .int .i64 c_1.Want, .bool c_1.Failed], .int .i64 0]) rfl ⟨rv1_cell Try.isAgg26 Try.sizeOf26 rfl hb_13 rfl, rv1_tmp rfl, trivial⟩ ?_)
        have f_48 : Sl 1 (RSl 1 (RInt .u8)) (Mu U0 [ob A_34, some b_13, some b_12]) _ A_38 k_39 l_37 := f_40.toSl (C.off (i := 1) rfl [0, 2, 3] rfl (by decide)) (Mu.weaken (mem_pick [0, 2, 3] rfl))
        have T : TR U0 [ob A_34, ob A_38, some b_13, some b_12] w [ob A_34, some b_13, some b_12] w [] := TR.pick [0, 2, 3] rfl
        have C' : Ctx U0 [] w0 [ob A_34, some b_13, some b_12] _ := C.pick [0, 2, 3] (by decide) rfl
        replace f_7 := T.sl f_7
        clear T; replace C := C'; clear C'
        have T : TR U0 [ob A_34, some b_13, some b_12] w [] w [] := TR.pick [] rfl
        have C' : Ctx U0 [] w0 [] _ := C.pick [] (by decide) rfl
        replace f_7 := T.sl f_7
        replace f_48 := T.sl f_48
        clear T; replace C := C'; clear C'
        exact ⟨_, rfl, A_38, k_39, A_5, k_6, rfl, C, f_48, f_7⟩

theorem ok_sdu_taken (F : Nat) (U0 : Nat → Prop) (w0 : World) (c_1 : T_api_Channel) (b_8 : (List Int)) (A_2 : Option Addr) (k_3 : Nat) (A_5 : Option Addr) (k_6 : Nat) (A_9 : Option Addr) (k_10 : Nat) (C : Ctx U0 [] w0 [] w0) (f_4 : Sl 1 (RSl 1 (RInt .u8)) (Mu U0 []) w0 A_2 k_3 c_1.Out) (f_7 : Sl 1 (RInt .u8) (Mu U0 []) w0 A_5 k_6 c_1.In) (f_11 : Sl 1 (RInt .u8) (Mu U0 []) w0 A_9 k_10 b_8) (r : (List Int) × Int × Int) (hp : sdu_taken F c_1 b_8 = some r) :
    Calls Try.prog 36 #[.agg #[.int .u16 c_1.Local, .int .u16 c_1.Remote, .int .u16 c_1.PSM, .int .i64 c_1.MTU, .int .i64 c_1.MPS, .int .i64 c_1.PeerMTU, .int .i64 c_1.PeerMPS, .int .i64 c_1.TxCredits, .int .i64 c_1.RxCredits, .int .i64 c_1.Given, .slice A_2 (List.length c_1.Out) k_3, .int .i64 c_1.Sent, .slice A_5 (List.length c_1.In) k_6, .int .i64 c_1.Want, .bool c_1.Failed], .slice A_9 (List.length b_8) k_10] w0 fun e w => ∃ v, e = .returned v ∧ ∃ (A_31 : Option Addr) (k_32 : Nat), (v = .tuple #[.slice A_31 (List.length r.1) k_32, .int .i64 r.2.1, .int .i64 r.2.2]) ∧ (Ctx U0 [] w0 [] w) ∧ (Sl 1 (RInt .u8) (Mu U0 []) w A_31 k_32 r.1) := by
  refine calls_enter (vs := [.agg #[.int .u16 c_1.Local, .int .u16 c_1.Remote, .int .u16 c_1.PSM, .int .i64 c_1.MTU, .int .i64 c_1.MPS, .int .i64 c_1.PeerMTU, .int .i64 c_1.PeerMPS, .int .i64 c_1.TxCredits, .int .i64 c_1.RxCredits, .int .i64 c_1.Given, .slice A_2 (List.length c_1.Out) k_3, .int .i64 c_1.Sent, .slice A_5 (List.length c_1.In) k_6, .int .i64 c_1.Want, .bool c_1.Failed], .slice A_9 (List.length b_8) k_10]) Try.func36 rfl Try.ntmps36 rfl ?_
  refine WC.prune (l' := [(0, .agg #[.int .u16 c_1.Local, .int .u16 c_1.Remote, .int .u16 c_1.PSM, .int .i64 c_1.MTU, .int .i64 c_1.MPS, .int .i64 c_1.PeerMTU, .int .i64 c_1.PeerMPS, .int .i64 c_1.TxCredits, .int .i64 c_1.RxCredits, .int .i64 c_1.Given, .slice A_2 (List.length c_1.Out) k_3, .int .i64 c_1.Sent, .slice A_5 (List.length c_1.In) k_6, .int .i64 c_1.Want, .bool c_1.Failed]), (1, .slice A_9 (List.length b_8) k_10)]) ⟨rfl, rfl, trivial⟩ ?_
  skip
  refine WC.seq ?_
  refine WC.region ?_
  refine WL.world (rw_box rfl rfl C) rfl ?_
  rintro v w ⟨b_12, rfl, hb_12, C', T⟩
  replace C' : Ctx U0 [] w0 [some b_12] _ := C'
  replace T : TR U0 [] _ [some b_12] _ [] := T
  replace hb_12 : Blk _ b_12 26 [.int .u16 c_1.Local, .int .u16 c_1.Remote, .int .u16 c_1.PSM, .int .i64 c_1.MTU, .int .i64 c_1.MPS, .int .i64 c_1.PeerMTU, .int .i64 c_1.PeerMPS, .int .i64 c_1.TxCredits, .int .i64 c_1.RxCredits, .int .i64 c_1.Given, .slice A_2 (List.length c_1.Out) k_3, .int .i64 c_1.Sent, .slice A_5 (List.length c_1.In) k_6, .int .i64 c_1.Want, .bool c_1.Failed] := hb_12
  replace f_4 := T.sl f_4
  replace f_7 := T.sl f_7
  replace f_11 := T.sl f_11
  clear T; replace C := C'; clear C'
  refine WL.val (rv_assign rfl) rfl ?_
  refine WL.val (rv_assign rfl) rfl ?_
  refine WL.val (rv_assign rfl) rfl ?_
  refine WL.nilThen ?_
  refine WC.seq ?_
  refine WC.block ?_
  refine WC.seq ?_
  refine WC.region ?_
  refine WL.val (rv_fieldAddr FA26_8 rfl rfl) rfl ?_
  refine WL.val (rv_load1 Try.isAgg3 rfl hb_12 rfl) rfl ?_
  refine WL.val (rv_leq rfl rfl) rfl ?_
  refine WL.val (rv_assign rfl) rfl ?_
  refine WL.nilThen ?_
  refine WC.cond rfl (fun hc => ?_) (fun hc => ?_)
  · replace hp := if_t hp hc
    clear hc
    refine WC.seq ?_
    refine WC.region ?_
    refine WL.val (rv_assign rfl) rfl ?_
    refine WL.val (rv_assign rfl) rfl ?_
    refine WL.val (rv_assign rfl) rfl ?_
    refine WL.nilThen ?_
    obtain rfl := some_inv' hp
    refine WC.ret (retK (rs := [.tmp 4, .tmp 5, .tmp 6]) (vs := [.slice none 0 0, .int .i64 0, .int .i64 19]) rfl ⟨rv1_tmp rfl, rv1_tmp rfl, rv1_tmp rfl, trivial⟩ ?_)
    have T : TR U0 [some b_12] w [] w [] := TR.pick [] rfl
    have C' : Ctx U0 [] w0 [] _ := C.pick [] (by decide) rfl
    clear T; replace C := C'; clear C'
    exact ⟨_, rfl, none, 0, rfl, C, Sl.nil0⟩
  · replace hp := if_f hp hc
    clear hc
    refine WC.seq ?_
    refine WC.region ?_
    refine WL.val (rv_move rfl) rfl ?_
    refine WL.val (rv_len (dt := b_8) Try.underlying24 rfl) rfl ?_
    refine WL.val (rv_fieldAddr FA26_4 rfl rfl) rfl ?_
    refine WL.val (rv_load1 Try.isAgg3 rfl hb_12 rfl) rfl ?_
    refine WL.val (rv_gtr rfl rfl) rfl ?_
    refine WL.val (rv_assign rfl) rfl ?_
    refine WL.nilThen ?_
    refine WC.cond rfl (fun hc => ?_) (fun hc => ?_)
    · replace hp := if_t hp hc
      clear hc
      refine WC.seq ?_
      refine WC.region ?_
      refine WL.val (rv_assign rfl) rfl ?_
      refine WL.val (rv_assign rfl) rfl ?_
      refine WL.val (rv_assign rfl) rfl ?_
      refine WL.nilThen ?_
      obtain rfl := some_inv' hp
      refine WC.ret (retK (rs := [.tmp 4, .tmp 5, .tmp 6]) (vs := [.slice none 0 0, .int .i64 0, .int .i64 4]) rfl ⟨rv1_tmp rfl, rv1_tmp rfl, rv1_tmp rfl, trivial⟩ ?_)
      have T : TR U0 [some b_12] w [] w [] := TR.pick [] rfl
      have C' : Ctx U0 [] w0 [] _ := C.pick [] (by decide) rfl
      clear T; replace C := C'; clear C'
      exact ⟨_, rfl, none, 0, rfl, C, Sl.nil0⟩
    · replace hp := if_f hp hc
      clear hc
      refine WC.skipThen ?_
      refine WC.seq ?_
      refine WC.seq ?_
      refine WC.region ?_
      refine WL.val (rv_fieldAddr FA26_13 rfl rfl) rfl ?_
      refine WL.val (rv_load1 Try.isAgg3 rfl hb_12 rfl) rfl ?_
      refine WL.val (rv_neq rfl rfl) rfl ?_
      refine WL.nilThen ?_
      refine WC.cond rfl (fun hc => ?_) (fun hc => ?_)
      · replace hp := if_t hp hc
        clear hc
        refine WC.seq ?_
        refine WC.block ?_
        refine WC.seq ?_
        refine WC.region ?_
        refine WL.val (rv_move rfl) rfl ?_
        refine WL.val (rv_len (dt := b_8) Try.underlying24 rfl) rfl ?_
        refine WL.val (rv_eql rfl rfl) rfl ?_
        refine WL.val (rv_assign rfl) rfl ?_
        refine WL.nilThen ?_
        refine WC.cond rfl (fun hc => ?_) (fun hc => ?_)
        · replace hp := if_t hp hc
          clear hc
          refine WC.seq ?_
          refine WC.region ?_
          refine WL.val (rv_assign rfl) rfl ?_
          refine WL.val (rv_assign rfl) rfl ?_
          refine WL.val (rv_assign rfl) rfl ?_
          refine WL.nilThen ?_
          obtain rfl := some_inv' hp
          refine WC.ret (retK (rs := [.tmp 4, .tmp 5, .tmp 6]) (vs := [.slice none 0 0, .int .i64 0, .int .i64 3]) rfl ⟨rv1_tmp rfl, rv1_tmp rfl, rv1_tmp rfl, trivial⟩ ?_)
          have T : TR U0 [some b_12] w [] w [] := TR.pick [] rfl
          have C' : Ctx U0 [] w0 [] _ := C.pick [] (by decide) rfl
          clear T; replace C := C'; clear C'
          exact ⟨_, rfl, none, 0, rfl, C, Sl.nil0⟩
        · replace hp := if_f hp hc
          clear hc
          refine WC.seq ?_
          refine WC.region ?_
          refine WL.val (rv_fieldAddr FA26_12 rfl rfl) rfl ?_
          refine WL.val (rv_load1 Try.isAgg24 rfl hb_12 rfl) rfl ?_
          refine WL.val (rv_len (dt := c_1.In) Try.underlying24 rfl) rfl ?_
          refine WL.val (rv_move rfl) rfl ?_
          refine WL.val (rv_len (dt := b_8) Try.underlying24 rfl) rfl ?_
          refine WL.val (rv_add rfl rfl (wrap_i64 _)) rfl ?_
          refine WL.val (rv_fieldAddr FA26_13 rfl rfl) rfl ?_
          refine WL.val (rv_load1 Try.isAgg3 rfl hb_12 rfl) rfl ?_
          refine WL.val (rv_gtr rfl rfl) rfl ?_
          refine WL.val (rv_assign rfl) rfl ?_
          refine WL.nilThen ?_
          refine WC.cond rfl (fun hc => ?_) (fun hc => ?_)
          · replace hp := if_t hp hc
            clear hc
            refine WC.seq ?_
            refine WC.region ?_
            refine WL.val (rv_assign rfl) rfl ?_
            refine WL.val (rv_assign rfl) rfl ?_
            refine WL.val (rv_assign rfl) rfl ?_
            refine WL.nilThen ?_
            obtain rfl := some_inv' hp
            refine WC.ret (retK (rs := [.tmp 4, .tmp 5, .tmp 6]) (vs := [.slice none 0 0, .int .i64 0, .int .i64 4]) rfl ⟨rv1_tmp rfl, rv1_tmp rfl, rv1_tmp rfl, trivial⟩ ?_)
            have T : TR U0 [some b_12] w [] w [] := TR.pick [] rfl
            have C' : Ctx U0 [] w0 [] _ := C.pick [] (by decide) rfl
            clear T; replace C := C'; clear C'
            exact ⟨_, rfl, none, 0, rfl, C, Sl.nil0⟩
          · replace hp := if_f hp hc
            clear hc
            refine WC.skipThen ?_
            refine WC.seqCut (fun a w => (sdu_taken_j1 F c_1 b_8 = some r) ∧ (Holds 65 [(4, .slice A_9 (List.length b_8) k_10), (5, .int .i64 c_1.Want), (6, .int .i64 0)] a) ∧ (Ctx U0 [] w0 [] w) ∧ (Sl 1 (RInt .u8) (Mu U0 []) w A_9 k_10 b_8)) ?_ ?_
            · refine WC.draw (fun w => (Blk w b_12 26 [.int .u16 c_1.Local, .int .u16 c_1.Remote, .int .u16 c_1.PSM, .int .i64 c_1.MTU, .int .i64 c_1.MPS, .int .i64 c_1.PeerMTU, .int .i64 c_1.PeerMPS, .int .i64 c_1.TxCredits, .int .i64 c_1.RxCredits, .int .i64 c_1.Given, .slice A_2 (List.length c_1.Out) k_3, .int .i64 c_1.Sent, .slice A_5 (List.length c_1.In) k_6, .int .i64 c_1.Want, .bool c_1.Failed])) MO C ?_
              rintro w C' T
              replace f_4 := T.sl f_4
              replace f_7 := T.sl f_7
              replace f_11 := T.sl f_11
              replace hb_12 := T.blk ne0 hb_12
              clear T; replace C := C'; clear C'
              refine WA.take (i := 0) (bs' := [true, false, false, false, false, false]) rfl (by kernel_rfl) (by kernel_rfl) (by kernel_rfl) (fun _ _ => rv_move rfl) hb_12 rfl rfl ?_
              refine WA.take (i := 1) (bs' := [true, true, false, false, false, false]) rfl (by kernel_rfl) (by kernel_rfl) (by kernel_rfl) (fun _ _ => rv_fieldAddr FA26_13 rfl rfl) hb_12 rfl rfl ?_
              refine WA.take (i := 2) (bs' := [true, true, true, false, false, false]) rfl (by kernel_rfl) (by kernel_rfl) (by kernel_rfl) (fun w hb_12 => rv_load1 Try.isAgg3 rfl hb_12 rfl) hb_12 rfl rfl ?_
              refine WA.take (i := 3) (bs' := [true, true, true, true, false, false]) rfl (by kernel_rfl) (by kernel_rfl) (by kernel_rfl) (fun _ _ => rv_assign rfl) hb_12 rfl rfl ?_
              refine WA.take (i := 4) (bs' := [true, true, true, true, true, false]) rfl (by kernel_rfl) (by kernel_rfl) (by kernel_rfl) (fun _ _ => rv_assign rfl) hb_12 rfl rfl ?_
              refine WA.take (i := 5) (bs' := [true, true, true, true, true, true]) rfl (by kernel_rfl) (by kernel_rfl) (by kernel_rfl) (fun _ _ => rv_assign rfl) hb_12 rfl rfl ?_
              refine WA.done (by kernel_rfl) (fun a ha => ?_)
              have T : TR U0 [some b_12] w [] w [] := TR.pick [] rfl
              have C' : Ctx U0 [] w0 [] _ := C.pick [] (by decide) rfl
              replace f_11 := T.sl f_11
              clear T; replace C := C'; clear C'
              exact ⟨hp, ha.sub ⟨rfl, rfl, rfl, trivial⟩, C, f_11⟩
            · rintro a w ⟨hp, ha, C, f_11⟩
              refine WC.ofJ (l := [(4, .slice A_9 (List.length b_8) k_10), (5, .int .i64 c_1.Want), (6, .int .i64 0)]) ?_ ha
              obtain rfl := some_inv' hp
              refine WC.ret (retK (rs := [.tmp 4, .tmp 5, .tmp 6]) (vs := [.slice A_9 (List.length b_8) k_10, .int .i64 c_1.Want, .int .i64 0]) rfl ⟨rv1_tmp rfl, rv1_tmp rfl, rv1_tmp rfl, trivial⟩ ?_)
              exact ⟨_, rfl, A_9, k_10, rfl, C, f_11⟩
      · replace hp := if_f hp hc
        clear hc
        refine WC.skipThen ?_
        refine WC.seq ?_
        refine WC.seq ?_
        refine WC.region ?_
        refine WL.val (rv_move rfl) rfl ?_
        refine WL.val (rv_len (dt := b_8) Try.underlying24 rfl) rfl ?_
        refine WL.val (rv_lss rfl rfl) rfl ?_
        refine WL.nilThen ?_
        refine WC.cond rfl (fun hc => ?_) (fun hc => ?_)
        · replace hp := if_t hp hc
          clear hc
          refine WC.seq ?_
          refine WC.region ?_
          refine WL.val (rv_assign rfl) rfl ?_
          refine WL.val (rv_assign rfl) rfl ?_
          refine WL.val (rv_assign rfl) rfl ?_
          refine WL.nilThen ?_
          obtain rfl := some_inv' hp
          refine WC.ret (retK (rs := [.tmp 4, .tmp 5, .tmp 6]) (vs := [.slice none 0 0, .int .i64 0, .int .i64 3]) rfl ⟨rv1_tmp rfl, rv1_tmp rfl, rv1_tmp rfl, trivial⟩ ?_)
          have T : TR U0 [some b_12] w [] w [] := TR.pick [] rfl
          have C' : Ctx U0 [] w0 [] _ := C.pick [] (by decide) rfl
          clear T; replace C := C'; clear C'
          exact ⟨_, rfl, none, 0, rfl, C, Sl.nil0⟩
        · replace hp := if_f hp hc
          clear hc
          refine WC.skipThen ?_
          refine WC.seqCut (fun a w => ∃ (x_13 : Int), (sdu_taken_j2 F c_1 b_8 x_13 = some r) ∧ (Holds 65 [(1, .slice A_9 (List.length b_8) k_10), (2, .pointer (some ⟨b_12, 0, none⟩)), (7, .int .i64 x_13)] a) ∧ (Ctx U0 [] w0 [some b_12] w) ∧ (Sl 1 (RInt .u8) (Mu U0 [some b_12]) w A_9 k_10 b_8) ∧ (Sl 1 (RSl 1 (RInt .u8)) (Mu U0 [some b_12]) w A_2 k_3 c_1.Out) ∧ (Sl 1 (RInt .u8) (Mu U0 [some b_12]) w A_5 k_6 c_1.In) ∧ (Blk w b_12 26 [.int .u16 c_1.Local, .int .u16 c_1.Remote, .int .u16 c_1.PSM, .int .i64 c_1.MTU, .int .i64 c_1.MPS, .int .i64 c_1.PeerMTU, .int .i64 c_1.PeerMPS, .int .i64 c_1.TxCredits, .int .i64 c_1.RxCredits, .int .i64 c_1.Given, .slice A_2 (List.length c_1.Out) k_3, .int .i64 c_1.Sent, .slice A_5 (List.length c_1.In) k_6, .int .i64 c_1.Want, .bool c_1.Failed])) ?_ ?_
          · replace hp := bind_inv hp
            obtain ⟨x_19, e_x_19, hp⟩ := hp
            obtain ⟨d_20, es_21, f_22, hl, hr, hv_23⟩ := sl_ix2 (P := Try.prog) (iv := 0) Try.underlying24 Try.sizeOf5 rfl f_11 e_x_19
            obtain rfl : es_21 = [.int .u8 x_19] := hr
            clear hl
            replace hp := bind_inv hp
            obtain ⟨x_24, e_x_24, hp⟩ := hp
            obtain ⟨d_25, es_26, f_27, hl, hr, hv_28⟩ := sl_ix2 (P := Try.prog) (iv := 1) Try.underlying24 Try.sizeOf5 rfl f_11 e_x_24
            obtain rfl : es_26 = [.int .u8 x_24] := hr
            clear hl
            refine WC.draw (fun w => (At (fun _ => False) w d_20 [.int .u8 x_19]) ∧ (At (fun _ => False) w d_25 [.int .u8 x_24])) MO C ?_
            rintro w C' T
            replace f_4 := T.sl f_4
            replace f_7 := T.sl f_7
            replace f_11 := T.sl f_11
            replace f_22 := T.at_ f_22 (by simp)
            replace f_27 := T.at_ f_27 (by simp)
            replace hb_12 := T.blk ne0 hb_12
            clear T; replace C := C'; clear C'
            refine WA.take (i := 0) (bs' := [true, false, false, false, false, false, false, false, false, false, false]) rfl (by kernel_rfl) (by kernel_rfl) (by kernel_rfl) (fun _ _ => rv_move rfl) ⟨(f_22.mu (fun _ h => h.elim)), (f_27.mu (fun _ h => h.elim))⟩ rfl rfl ?_
            refine WA.take (i := 1) (bs' := [true, true, false, false, false, false, false, false, false, false, false]) rfl (by kernel_rfl) (by kernel_rfl) (by kernel_rfl) (fun _ _ => hv_23 rfl rfl) ⟨(f_22.mu (fun _ h => h.elim)), (f_27.mu (fun _ h => h.elim))⟩ rfl rfl ?_
            refine WA.take (i := 2) (bs' := [true, true, true, false, false, false, false, false, false, false, false]) rfl (by kernel_rfl) (by kernel_rfl) (by kernel_rfl) (fun w hS => by obtain ⟨f_22, f_27⟩ := hS; exact rv_loadA1 (ad := d_20) (o := 0) Try.isAgg5 rfl f_22 rfl) ⟨(f_22.mu (fun _ h => h.elim)), (f_27.mu (fun _ h => h.elim))⟩ rfl rfl ?_
            refine WA.take (i := 3) (bs' := [true, true, true, true, false, false, false, false, false, false, false]) rfl (by kernel_rfl) (by kernel_rfl) (by kernel_rfl) (fun _ _ => rv_conv Try.underlying5 Try.underlying3 rfl (wrap_i64 _)) ⟨(f_22.mu (fun _ h => h.elim)), (f_27.mu (fun _ h => h.elim))⟩ rfl rfl ?_
            refine WA.take (i := 4) (bs' := [true, true, true, true, true, false, false, false, false, false, false]) rfl (by kernel_rfl) (by kernel_rfl) (by kernel_rfl) (fun _ _ => rv_move rfl) ⟨(f_22.mu (fun _ h => h.elim)), (f_27.mu (fun _ h => h.elim))⟩ rfl rfl ?_
            refine WA.take (i := 5) (bs' := [true, true, true, true, true, true, false, false, false, false, false]) rfl (by kernel_rfl) (by kernel_rfl) (by kernel_rfl) (fun _ _ => hv_28 rfl rfl) ⟨(f_22.mu (fun _ h => h.elim)), (f_27.mu (fun _ h => h.elim))⟩ rfl rfl ?_
            refine WA.take (i := 6) (bs' := [true, true, true, true, true, true, true, false, false, false, false]) rfl (by kernel_rfl) (by kernel_rfl) (by kernel_rfl) (fun w hS => by obtain ⟨f_22, f_27⟩ := hS; exact rv_loadA1 (ad := d_25) (o := 0) Try.isAgg5 rfl f_27 rfl) ⟨(f_22.mu (fun _ h => h.elim)), (f_27.mu (fun _ h => h.elim))⟩ rfl rfl ?_
            refine WA.take (i := 7) (bs' := [true, true, true, true, true, true, true, true, false, false, false]) rfl (by kernel_rfl) (by kernel_rfl) (by kernel_rfl) (fun _ _ => rv_conv Try.underlying5 Try.underlying3 rfl (wrap_i64 _)) ⟨(f_22.mu (fun _ h => h.elim)), (f_27.mu (fun _ h => h.elim))⟩ rfl rfl ?_
            replace hp := bind_inv hp
            obtain ⟨x_30, e_x_30, hp⟩ := hp
            refine WA.take (i := 8) (bs' := [true, true, true, true, true, true, true, true, true, false, false]) rfl (by kernel_rfl) (by kernel_rfl) (by kernel_rfl) (fun _ _ => rv_shl rfl rfl e_x_30) ⟨(f_22.mu (fun _ h => h.elim)), (f_27.mu (fun _ h => h.elim))⟩ rfl rfl ?_
            refine WA.take (i := 9) (bs' := [true, true, true, true, true, true, true, true, true, true, false]) rfl (by kernel_rfl) (by kernel_rfl) (by kernel_rfl) (fun _ _ => rv_or rfl rfl) ⟨(f_22.mu (fun _ h => h.elim)), (f_27.mu (fun _ h => h.elim))⟩ rfl rfl ?_
            refine WA.take (i := 10) (bs' := [true, true, true, true, true, true, true, true, true, true, true]) rfl (by kernel_rfl) (by kernel_rfl) (by kernel_rfl) (fun _ _ => rv_assign rfl) ⟨(f_22.mu (fun _ h => h.elim)), (f_27.mu (fun _ h => h.elim))⟩ rfl rfl ?_
            refine WA.done (by kernel_rfl) (fun a ha => ?_)
            exact ⟨ior .i64 (w64 x_19) x_30, hp, ha.sub ⟨rfl, rfl, rfl, trivial⟩, C, f_11, f_4, f_7, hb_12⟩
          · rintro a w ⟨x_13, hp, ha, C, f_11, f_4, f_7, hb_12⟩
            refine WC.ofJ (l := [(1, .slice A_9 (List.length b_8) k_10), (2, .pointer (some ⟨b_12, 0, none⟩)), (7, .int .i64 x_13)]) ?_ ha
            refine WC.seq ?_
            refine WC.seq ?_
            refine WC.region ?_
            refine WL.val (rv_move rfl) rfl ?_
            refine WL.val (rv_fieldAddr FA26_3 rfl rfl) rfl ?_
            refine WL.val (rv_load1 Try.isAgg3 rfl hb_12 rfl) rfl ?_
            refine WL.val (rv_gtr rfl rfl) rfl ?_
            refine WL.val (rv_move rfl) rfl ?_
            refine WL.cutAt 6 (fun a w' => w = w' ∧ Holds 65 [(1, .slice A_9 (List.length b_8) k_10), (7, .int .i64 x_13), (61, .bool ((decide (x_13 > c_1.MTU)) || (decide (x_13 < (w64 ((len b_8) - 2))))))] a) ?_ ?_
            · rcases Bool.eq_false_or_eq_true (decide (x_13 > c_1.MTU)) with hg_14 | hg_14
              · refine WL.no rfl rfl hg_14 rfl ?_
                refine WL.no rfl rfl hg_14 rfl ?_
                refine WL.no rfl rfl hg_14 rfl ?_
                refine WL.no rfl rfl hg_14 rfl ?_
                refine WL.no rfl rfl hg_14 rfl ?_
                refine WL.val (rv_pick_t rfl hg_14 rfl) rfl ?_
                refine WL.nil (fun a ha => ?_)
                exact ⟨rfl, ha.sub ⟨rfl, rfl, or_t hg_14, trivial⟩⟩
              · refine WL.yes rfl rfl hg_14 ?_
                refine WL.val (rv_move rfl) rfl ?_
                refine WL.yes rfl rfl hg_14 ?_
                refine WL.val (rv_move rfl) rfl ?_
                refine WL.yes rfl rfl hg_14 ?_
                refine WL.val (rv_len (dt := b_8) Try.underlying24 rfl) rfl ?_
                refine WL.yes rfl rfl hg_14 ?_
                refine WL.val (rv_sub rfl rfl (wrap_i64 _)) rfl ?_
                refine WL.yes rfl rfl hg_14 ?_
                refine WL.val (rv_lss rfl rfl) rfl ?_
                refine WL.val (rv_pick_f rfl hg_14 rfl) rfl ?_
                refine WL.nil (fun a ha => ?_)
                exact ⟨rfl, ha.sub ⟨rfl, rfl, or_f hg_14, trivial⟩⟩
            · rintro a w' ⟨rfl, ha⟩
              refine WL.ofJ (l := [(1, .slice A_9 (List.length b_8) k_10), (7, .int .i64 x_13), (61, .bool ((decide (x_13 > c_1.MTU)) || (decide (x_13 < (w64 ((len b_8) - 2))))))]) ?_ ha
              refine WL.nilThen ?_
              refine WC.cond rfl (fun hc => ?_) (fun hc => ?_)
              · replace hp := if_t hp hc
                clear hc
                refine WC.seq ?_
                refine WC.region ?_
                refine WL.val (rv_assign rfl) rfl ?_
                refine WL.val (rv_assign rfl) rfl ?_
                refine WL.val (rv_assign rfl) rfl ?_
                refine WL.nilThen ?_
                obtain rfl := some_inv' hp
                refine WC.ret (retK (rs := [.tmp 4, .tmp 5, .tmp 6]) (vs := [.slice none 0 0, .int .i64 0, .int .i64 4]) rfl ⟨rv1_tmp rfl, rv1_tmp rfl, rv1_tmp rfl, trivial⟩ ?_)
                have T : TR U0 [some b_12] w [] w [] := TR.pick [] rfl
                have C' : Ctx U0 [] w0 [] _ := C.pick [] (by decide) rfl
                clear T; replace C := C'; clear C'
                exact ⟨_, rfl, none, 0, rfl, C, Sl.nil0⟩
              · replace hp := if_f hp hc
                clear hc
                refine WC.skipThen ?_
                refine WC.seq ?_
                refine WC.region ?_
                refine WL.val (rv_move rfl) rfl ?_
                replace hp := bind_inv hp
                obtain ⟨l_15, e_l_15, hp⟩ := hp
                refine WL.subSl Try.underlying24 Try.sizeOf5 rfl rfl rfl (.inr ⟨_, rfl⟩) (.inl ⟨rfl, rfl⟩) f_11 e_l_15 rfl ?_
                intro A_16 k_17 f_18
                refine WL.val (rv_move rfl) rfl ?_
                refine WL.val (rv_assign rfl) rfl ?_
                refine WL.val (rv_assign rfl) rfl ?_
                refine WL.val (rv_assign rfl) rfl ?_
                refine WL.nilThen ?_
                obtain rfl := some_inv' hp
                refine WC.ret (retK (rs := [.tmp 4, .tmp 5, .tmp 6]) (vs := [.slice A_16 (List.length l_15) k_17, .int .i64 x_13, .int .i64 0]) rfl ⟨rv1_tmp rfl, rv1_tmp rfl, rv1_tmp rfl, trivial⟩ ?_)
                have T : TR U0 [some b_12] w [] w [] := TR.pick [] rfl
                have C' : Ctx U0 [] w0 [] _ := C.pick [] (by decide) rfl
                replace f_18 := T.sl f_18
                clear T; replace C := C'; clear C'
                exact ⟨_, rfl, A_16, k_17, rfl, C, f_18⟩

theorem ok_sdu_Input (F : Nat) (U0 : Nat → Prop) (w0 : World) (c_1 : T_api_Channel) (b_8 : (List Int)) (A_2 : Option Addr) (k_3 : Nat) (A_5 : Option Addr) (k_6 : Nat) (A_9 : Option Addr) (k_10 : Nat) (C : Ctx U0 [] w0 [] w0) (f_4 : Sl 1 (RSl 1 (RInt .u8)) (Mu U0 []) w0 A_2 k_3 c_1.Out) (f_7 : Sl 1 (RInt .u8) (Mu U0 []) w0 A_5 k_6 c_1.In) (f_11 : Sl 1 (RInt .u8) (Mu U0 []) w0 A_9 k_10 b_8) (r : T_api_Channel × (List (List Int)) × Int) (hp : sdu_Input F c_1 b_8 = some r) :
    Calls Try.prog 16 #[.agg #[.int .u16 c_1.Local, .int .u16 c_1.Remote, .int .u16 c_1.PSM, .int .i64 c_1.MTU, .int .i64 c_1.MPS, .int .i64 c_1.PeerMTU, .int .i64 c_1.PeerMPS, .int .i64 c_1.TxCredits, .int .i64 c_1.RxCredits, .int .i64 c_1.Given, .slice A_2 (List.length c_1.Out) k_3, .int .i64 c_1.Sent, .slice A_5 (List.length c_1.In) k_6, .int .i64 c_1.Want, .bool c_1.Failed], .slice A_9 (List.length b_8) k_10] w0 fun e w => ∃ v, e = .returned v ∧ ∃ (A_40 : Option Addr) (k_41 : Nat) (A_43 : Option Addr) (k_44 : Nat) (A_46 : Option Addr) (k_47 : Nat), (v = .tuple #[.agg #[.int .u16 r.1.Local, .int .u16 r.1.Remote, .int .u16 r.1.PSM, .int .i64 r.1.MTU, .int .i64 r.1.MPS, .int .i64 r.1.PeerMTU, .int .i64 r.1.PeerMPS, .int .i64 r.1.TxCredits, .int .i64 r.1.RxCredits, .int .i64 r.1.Given, .slice A_40 (List.length r.1.Out) k_41, .int .i64 r.1.Sent, .slice A_43 (List.length r.1.In) k_44, .int .i64 r.1.Want, .bool r.1.Failed], .slice A_46 (List.length r.2.1) k_47, .int .i64 r.2.2]) ∧ (Ctx U0 [] w0 [] w) ∧ (Sl 1 (RSl 1 (RInt .u8)) (Mu U0 []) w A_40 k_41 r.1.Out) ∧ (Sl 1 (RInt .u8) (Mu U0 []) w A_43 k_44 r.1.In) ∧ (Sl 1 (RSl 1 (RInt .u8)) (Mu U0 []) w A_46 k_47 r.2.1) := by
  refine calls_enter (vs := [.agg #[.int .u16 c_1.Local, .int .u16 c_1.Remote, .int .u16 c_1.PSM, .int .i64 c_1.MTU, .int .i64 c_1.MPS, .int .i64 c_1.PeerMTU, .int .i64 c_1.PeerMPS, .int .i64 c_1.TxCredits, .int .i64 c_1.RxCredits, .int .i64 c_1.Given, .slice A_2 (List.length c_1.Out) k_3, .int .i64 c_1.Sent, .slice A_5 (List.length c_1.In) k_6, .int .i64 c_1.Want, .bool c_1.Failed], .slice A_9 (List.length b_8) k_10]) Try.func16 rfl Try.ntmps16 rfl ?_
  refine WC.prune (l' := [(0, .agg #[.int .u16 c_1.Local, .int .u16 c_1.Remote, .int .u16 c_1.PSM, .int .i64 c_1.MTU, .int .i64 c_1.MPS, .int .i64 c_1.PeerMTU, .int .i64 c_1.PeerMPS, .int .i64 c_1.TxCredits, .int .i64 c_1.RxCredits, .int .i64 c_1.Given, .slice A_2 (List.length c_1.Out) k_3, .int .i64 c_1.Sent, .slice A_5 (List.length c_1.In) k_6, .int .i64 c_1.Want, .bool c_1.Failed]), (1, .slice A_9 (List.length b_8) k_10)]) ⟨rfl, rfl, trivial⟩ ?_
  skip
  refine WC.seq ?_
  refine WC.region ?_
  refine WL.world (rw_box rfl rfl C) rfl ?_
  rintro v w ⟨b_12, rfl, hb_12, C', T⟩
  replace C' : Ctx U0 [] w0 [some b_12] _ := C'
  replace T : TR U0 [] _ [some b_12] _ [] := T
  replace hb_12 : Blk _ b_12 26 [.int .u16 c_1.Local, .int .u16 c_1.Remote, .int .u16 c_1.PSM, .int .i64 c_1.MTU, .int .i64 c_1.MPS, .int .i64 c_1.PeerMTU, .int .i64 c_1.PeerMPS, .int .i64 c_1.TxCredits, .int .i64 c_1.RxCredits, .int .i64 c_1.Given, .slice A_2 (List.length c_1.Out) k_3, .int .i64 c_1.Sent, .slice A_5 (List.length c_1.In) k_6, .int .i64 c_1.Want, .bool c_1.Failed] := hb_12
  replace f_4 := T.sl f_4
  replace f_7 := T.sl f_7
  replace f_11 := T.sl f_11
  clear T; replace C := C'; clear C'
  refine WL.world (rw_alloc Try.zeroValue26 rfl C) rfl ?_
  rintro v w ⟨b_13, rfl, hb_13, C', T⟩
  replace C' : Ctx U0 [] w0 [some b_13, some b_12] _ := C'
  replace T : TR U0 [some b_12] _ [some b_13, some b_12] _ [] := T
  replace hb_13 : Blk _ b_13 26 [.int .u16 0, .int .u16 0, .int .u16 0, .int .i64 0, .int .i64 0, .int .i64 0, .int .i64 0, .int .i64 0, .int .i64 0, .int .i64 0, .slice none 0 0, .int .i64 0, .slice none 0 0, .int .i64 0, .bool false] := hb_13
  replace f_4 := T.sl f_4
  replace f_7 := T.sl f_7
  replace f_11 := T.sl f_11
  replace hb_12 := T.blk ne0 hb_12
  clear T; replace C := C'; clear C'
  refine WL.val (rv_assign rfl) rfl ?_
  refine WL.val (rv_assign rfl) rfl ?_
  refine WL.nilThen ?_
  refine WC.seq ?_
  refine WC.region ?_
  refine WL.val (rv_loadN Try.isAgg26 Try.sizeOf26 rfl hb_12 rfl rfl) rfl ?_
  replace hp := bind_inv hp
  obtain ⟨x_14, e_x_14, hp⟩ := hp
  refine WL.call (rc_func Try.call32 rfl) (ok_sdu_copied F (Mu U0 [some b_13, some b_12]) _ c_1 A_2 k_3 A_5 k_6 (C.give [0, 1] [] (by decide) rfl rfl (by decide)) (f_4.mu (mu_give [0, 1] [] rfl rfl)) (f_7.mu (mu_give [0, 1] [] rfl rfl)) _ e_x_14) rfl ?_
  rintro v w ⟨A_15, k_16, A_19, k_20, rfl, D, f_21, f_17⟩
  obtain ⟨C', T⟩ := C.join D [0, 1] [] (by decide) rfl rfl (by decide)
  replace C' : Ctx U0 [] w0 [ob A_15, some b_13, some b_12] _ := C'
  replace T : TR U0 [some b_13, some b_12] _ [ob A_15, some b_13, some b_12] _ [] := T
  replace f_21 : Sl 1 (RInt .u8) (Mu U0 [ob A_15, some b_13, some b_12]) _ A_19 k_20 x_14.In := f_21.mu (mu_join (R := [ob A_15]) (L2 := [some b_13, some b_12]) (fun b h => h))
  replace f_17 : Own 1 24 (RSl 1 (RInt .u8)) (Mu U0 [ob A_15, some b_13, some b_12]) _ A_15 k_16 x_14.Out := f_17.mu (mu_join (R := [ob A_15]) (L2 := [some b_13, some b_12]) (fun b h => h))
  replace f_4 := T.sl f_4
  replace f_7 := T.sl f_7
  replace f_11 := T.sl f_11
  replace hb_12 := T.blk ne0 hb_12
  replace hb_13 := T.blk ne0 hb_13
  clear T; replace C := C'; clear C'
  clear D
  refine WL.storeK (rs_store (i := 2) (cs' := [.int .u16 x_14.Local, .int .u16 x_14.Remote, .int .u16 x_14.PSM, .int .i64 x_14.MTU, .int .i64 x_14.MPS, .int .i64 x_14.PeerMTU, .int .i64 x_14.PeerMPS, .int .i64 x_14.TxCredits, .int .i64 x_14.RxCredits, .int .i64 x_14.Given, .slice A_15 (List.length x_14.Out) k_16, .int .i64 x_14.Sent, .slice A_19 (List.length x_14.In) k_20, .int .i64 x_14.Want, .bool x_14.Failed]) Try.sizeOf26 rfl rfl rfl rfl rfl hb_12 rfl C rfl rfl) ?_
  rintro w ⟨hb_12, C', T⟩
  replace f_4 := T.sl f_4
  replace f_7 := T.sl f_7
  replace f_11 := T.sl f_11
  replace f_21 := T.sl f_21
  replace hb_13 := T.blk (C.ne (i := 1) rfl [2] rfl (by decide)) hb_13
  replace f_17 := T.own (C.ne (i := 0) rfl [2] rfl (by decide)) f_17
  clear T; replace C := C'; clear C'
  refine WL.nilThen ?_
  refine WC.seq ?_
  refine WC.seq ?_
  refine WC.region ?_
  refine WL.val (rv_fieldAddr FA26_14 rfl rfl) rfl ?_
  refine WL.val (rv_load1 Try.isAgg4 rfl hb_12 rfl) rfl ?_
  refine WL.nilThen ?_
  refine WC.cond rfl (fun hc => ?_) (fun hc => ?_)
  · replace hp := if_t hp hc
    clear hc
    refine WC.seq ?_
    refine WC.region ?_
    refine WL.val (rv_loadN Try.isAgg26 Try.sizeOf26 rfl hb_12 rfl rfl) rfl ?_
    refine WL.storeK (rs_store (i := 1) (cs' := [.int .u16 x_14.Local, .int .u16 x_14.Remote, .int .u16 x_14.PSM, .int .i64 x_14.MTU, .int .i64 x_14.MPS, .int .i64 x_14.PeerMTU, .int .i64 x_14.PeerMPS, .int .i64 x_14.TxCredits, .int .i64 x_14.RxCredits, .int .i64 x_14.Given, .slice A_15 (List.length x_14.Out) k_16, .int .i64 x_14.Sent, .slice A_19 (List.length x_14.In) k_20, .int .i64 x_14.Want, .bool x_14.Failed]) Try.sizeOf26 rfl rfl rfl rfl rfl hb_13 rfl C rfl rfl) ?_
    rintro w ⟨hb_13, C', T⟩
    replace f_11 := T.sl f_11
    replace f_21 := T.sl f_21
    replace hb_12 := T.blk (C.ne (i := 2) rfl [1] rfl (by decide)) hb_12
    replace f_17 := T.own (C.ne (i := 0) rfl [1] rfl (by decide)) f_17
    clear T; replace C := C'; clear C'
    refine WL.val (rv_assign rfl) rfl ?_
    refine WL.val (rv_assign rfl) rfl ?_
    refine WL.nilThen ?_
    obtain rfl := some_inv' hp
    refine WC.ret (retK (rs := [.cell 4 26, .tmp 5, .tmp 6]) (vs := [.agg #[.int .u16 x_14.Local, .int .u16 x_14.Remote, .int .u16 x_14.PSM, .int .i64 x_14.MTU, .int .i64 x_14.MPS, .int .i64 x_14.PeerMTU, .int .i64 x_14.PeerMPS, .int .i64 x_14.TxCredits, .int .i64 x_14.RxCredits, .int .i64 x_14.Given, .slice A_15 (List.length x_14.Out) k_16, .int .i64 x_14.Sent, .slice A_19 (List.length x_14.In) k_20, .int .i64 x_14.Want, .bool x_14.Failed], .slice none 0 0, .int .i64 9]) rfl ⟨rv1_cell Try.isAgg26 Try.sizeOf26 rfl hb_13 rfl, rv1_tmp rfl, rv1_tmp rfl, trivial⟩ ?_)
    have f_31 : Sl 1 (RSl 1 (RInt .u8)) (Mu U0 [some b_13, some b_12]) _ A_15 k_16 x_14.Out := f_17.toSl (C.off (i := 0) rfl [1, 2] rfl (by decide)) (Mu.weaken (mem_pick [1, 2] rfl))
    have T : TR U0 [ob A_15, some b_13, some b_12] w [some b_13, some b_12] w [] := TR.pick [1, 2] rfl
    have C' : Ctx U0 [] w0 [some b_13, some b_12] _ := C.pick [1, 2] (by decide) rfl
    replace f_21 := T.sl f_21
    clear T; replace C := C'; clear C'
    have T : TR U0 [some b_13, some b_12] w [] w [] := TR.pick [] rfl
    have C' : Ctx U0 [] w0 [] _ := C.pick [] (by decide) rfl
    replace f_21 := T.sl f_21
    replace f_31 := T.sl f_31
    clear T; replace C := C'; clear C'
    exact ⟨_, rfl, A_15, k_16, A_19, k_20, none, 0, rfl, C, f_31, f_21, Sl.nil0⟩
  · replace hp := if_f hp hc
    clear hc
    refine WC.skipThen ?_
    refine WC.seq ?_
    refine WC.region ?_
    refine WL.val (rv_loadN Try.isAgg26 Try.sizeOf26 rfl hb_12 rfl rfl) rfl ?_
    refine WL.val (rv_move rfl) rfl ?_
    have f_22 : Sl 1 (RSl 1 (RInt .u8)) (Mu U0 [some b_13, some b_12]) _ A_15 k_16 x_14.Out := f_17.toSl (C.off (i := 0) rfl [1, 2] rfl (by decide)) (Mu.weaken (mem_pick [1, 2] rfl))
    have T : TR U0 [ob A_15, some b_13, some b_12] w [some b_13, some b_12] w [] := TR.pick [1, 2] rfl
    have C' : Ctx U0 [] w0 [some b_13, some b_12] _ := C.pick [1, 2] (by decide) rfl
    replace f_11 := T.sl f_11
    replace f_21 := T.sl f_21
    replace hb_12 := T.blk ne0 hb_12
    replace hb_13 := T.blk ne0 hb_13
    clear T; replace C := C'; clear C'
    replace hp := bind_inv hp
    obtain ⟨x_23, e_x_23, hp⟩ := hp
    refine WL.call (rc_func Try.call36 rfl) (ok_sdu_taken F (Mu U0 [some b_13, some b_12]) _ x_14 b_8 A_15 k_16 A_19 k_20 A_9 k_10 (C.give [0, 1] [] (by decide) rfl rfl (by decide)) (f_22.mu (mu_give [0, 1] [] rfl rfl)) (f_21.mu (mu_give [0, 1] [] rfl rfl)) (f_11.mu (mu_give [0, 1] [] rfl rfl)) _ e_x_23) rfl ?_
    rintro v w ⟨A_24, k_25, rfl, D, f_26⟩
    obtain ⟨C', T⟩ := C.join D [0, 1] [] (by decide) rfl rfl (by decide)
    replace C' : Ctx U0 [] w0 [some b_13, some b_12] _ := C'
    replace T : TR U0 [some b_13, some b_12] _ [some b_13, some b_12] _ [] := T
    replace f_26 : Sl 1 (RInt .u8) (Mu U0 [some b_13, some b_12]) _ A_24 k_25 x_23.1 := f_26.mu (mu_join (R := []) (L2 := [some b_13, some b_12]) (fun b h => h))
    replace f_11 := T.sl f_11
    replace f_21 := T.sl f_21
    replace f_22 := T.sl f_22
    replace hb_12 := T.blk ne0 hb_12
    replace hb_13 := T.blk ne0 hb_13
    clear T; replace C := C'; clear C'
    clear D
    refine WL.val (rv_move rfl) rfl ?_
    refine WL.val (rv_extract rfl rfl) rfl ?_
    refine WL.val (rv_extract rfl rfl) rfl ?_
    refine WL.val (rv_extract rfl rfl) rfl ?_
    refine WL.val (rv_assign rfl) rfl ?_
    refine WL.val (rv_assign rfl) rfl ?_
    refine WL.val (rv_assign rfl) rfl ?_
    refine WL.nilThen ?_
    refine WC.seq ?_
    refine WC.seq ?_
    refine WC.region ?_
    refine WL.val (rv_move rfl) rfl ?_
    refine WL.val (rv_neq rfl rfl) rfl ?_
    refine WL.nilThen ?_
    refine WC.cond rfl (fun hc => ?_) (fun hc => ?_)
    · replace hp := if_t hp hc
      clear hc
      refine WC.seq ?_
      refine WC.region ?_
      refine WL.val (rv_fieldAddr FA26_14 rfl rfl) rfl ?_
      refine WL.storeK (rs_store (i := 1) (cs' := [.int .u16 x_14.Local, .int .u16 x_14.Remote, .int .u16 x_14.PSM, .int .i64 x_14.MTU, .int .i64 x_14.MPS, .int .i64 x_14.PeerMTU, .int .i64 x_14.PeerMPS, .int .i64 x_14.TxCredits, .int .i64 x_14.RxCredits, .int .i64 x_14.Given, .slice A_15 (List.length x_14.Out) k_16, .int .i64 x_14.Sent, .slice A_19 (List.length x_14.In) k_20, .int .i64 x_14.Want, .bool true]) Try.sizeOf4 rfl rfl rfl rfl rfl hb_12 rfl C rfl rfl) ?_
      rintro w ⟨hb_12, C', T⟩
      replace f_21 := T.sl f_21
      replace f_22 := T.sl f_22
      replace f_26 := T.sl f_26
      replace hb_13 := T.blk (C.ne (i := 0) rfl [1] rfl (by decide)) hb_13
      clear T; replace C := C'; clear C'
      refine WL.nilThen ?_
      refine WC.seq ?_
      refine WC.region ?_
      refine WL.val (rv_loadN Try.isAgg26 Try.sizeOf26 rfl hb_12 rfl rfl) rfl ?_
      refine WL.val (rv_move rfl) rfl ?_
      refine WL.storeK (rs_store (i := 0) (cs' := [.int .u16 x_14.Local, .int .u16 x_14.Remote, .int .u16 x_14.PSM, .int .i64 x_14.MTU, .int .i64 x_14.MPS, .int .i64 x_14.PeerMTU, .int .i64 x_14.PeerMPS, .int .i64 x_14.TxCredits, .int .i64 x_14.RxCredits, .int .i64 x_14.Given, .slice A_15 (List.length x_14.Out) k_16, .int .i64 x_14.Sent, .slice A_19 (List.length x_14.In) k_20, .int .i64 x_14.Want, .bool true]) Try.sizeOf26 rfl rfl rfl rfl rfl hb_13 rfl C rfl rfl) ?_
      rintro w ⟨hb_13, C', T⟩
      replace f_21 := T.sl f_21
      replace f_22 := T.sl f_22
      replace hb_12 := T.blk (C.ne (i := 1) rfl [0] rfl (by decide)) hb_12
      clear T; replace C := C'; clear C'
      refine WL.val (rv_assign rfl) rfl ?_
      refine WL.val (rv_assign rfl) rfl ?_
      refine WL.nilThen ?_
      obtain rfl := some_inv' hp
      refine WC.ret (retK (rs := [.cell 4 26, .tmp 5, .tmp 6]) (vs := [.agg #[.int .u16 x_14.Local, .int .u16 x_14.Remote, .int .u16 x_14.PSM, .int .i64 x_14.MTU, .int .i64 x_14.MPS, .int .i64 x_14.PeerMTU, .int .i64 x_14.PeerMPS, .int .i64 x_14.TxCredits, .int .i64 x_14.RxCredits, .int .i64 x_14.Given, .slice A_15 (List.length x_14.Out) k_16, .int .i64 x_14.Sent, .slice A_19 (List.length x_14.In) k_20, .int .i64 x_14.Want, .bool true], .slice none 0 0, .int .i64 x_23.2.2]) rfl ⟨rv1_cell Try.isAgg26 Try.sizeOf26 rfl hb_13 rfl, rv1_tmp rfl, rv1_tmp rfl, trivial⟩ ?_)
      have T : TR U0 [some b_13, some b_12] w [] w [] := TR.pick [] rfl
      have C' : Ctx U0 [] w0 [] _ := C.pick [] (by decide) rfl
      replace f_21 := T.sl f_21
      replace f_22 := T.sl f_22
      clear T; replace C := C'; clear C'
      exact ⟨_, rfl, A_15, k_16, A_19, k_20, none, 0, rfl, C, f_22, f_21, Sl.nil0⟩
    · replace hp := if_f hp hc
      clear hc
      refine WC.skipThen ?_
      refine WC.seq ?_
      refine WC.region ?_
      refine WL.val (rv_fieldAddr FA26_8 rfl rfl) rfl ?_
      refine WL.val (rv_load1 Try.isAgg3 rfl hb_12 rfl) rfl ?_
      refine WL.val (rv_sub rfl rfl (wrap_i64 _)) rfl ?_
      refine WL.val (rv_fieldAddr FA26_8 rfl rfl) rfl ?_
      refine WL.storeK (rs_store (i := 1) (cs' := [.int .u16 x_14.Local, .int .u16 x_14.Remote, .int .u16 x_14.PSM, .int .i64 x_14.MTU, .int .i64 x_14.MPS, .int .i64 x_14.PeerMTU, .int .i64 x_14.PeerMPS, .int .i64 x_14.TxCredits, .int .i64 (w64 (x_14.RxCredits - 1)), .int .i64 x_14.Given, .slice A_15 (List.length x_14.Out) k_16, .int .i64 x_14.Sent, .slice A_19 (List.length x_14.In) k_20, .int .i64 x_14.Want, .bool x_14.Failed]) Try.sizeOf3 rfl rfl rfl rfl rfl hb_12 rfl C rfl rfl) ?_
      rintro w ⟨hb_12, C', T⟩
      replace f_21 := T.sl f_21
      replace f_22 := T.sl f_22
      replace f_26 := T.sl f_26
      replace hb_13 := T.blk (C.ne (i := 0) rfl [1] rfl (by decide)) hb_13
      clear T; replace C := C'; clear C'
      refine WL.nilThen ?_
      refine WC.seq ?_
      refine WC.region ?_
      refine WL.val (rv_fieldAddr FA26_12 rfl rfl) rfl ?_
      refine WL.val (rv_load1 Try.isAgg24 rfl hb_12 rfl) rfl ?_
      refine WL.val (rv_move rfl) rfl ?_
      refine WL.world (rw_buildSlice (sz := 1) (R := (RSl 1 (RInt .u8))) (es := [.slice A_19 (List.length x_14.In) k_20, .slice A_24 (List.length x_23.1) k_25]) (dt := [x_14.In, x_23.1]) Try.underlying23 Try.sizeOf24 Try.zeroValue24 rfl rfl rfl rfl rfl rfl rfl rfl ⟨_, _, rfl, rfl, ⟨_, _, rfl, f_21⟩, ⟨_, _, rfl, rfl, ⟨_, _, rfl, f_26⟩, rfl⟩⟩ C) rfl ?_
      rintro v w ⟨A_28, k_29, rfl, f_30, C', T⟩
      replace C' : Ctx U0 [] w0 [ob A_28, some b_13, some b_12] _ := C'
      replace T : TR U0 [some b_13, some b_12] _ [ob A_28, some b_13, some b_12] _ _ := T
      replace f_30 : Own 1 24 (RSl 1 (RInt .u8)) (Mu U0 [ob A_28, some b_13, some b_12]) _ A_28 k_29 [x_14.In, x_23.1] := f_30
      replace f_21 := T.sl f_21
      replace f_22 := T.sl f_22
      replace f_26 := T.sl f_26
      replace hb_12 := T.blk ne0 hb_12
      replace hb_13 := T.blk ne0 hb_13
      clear T; replace C := C'; clear C'
      have f_31 : Sl 1 (RSl 1 (RInt .u8)) (Mu U0 [some b_13, some b_12]) _ A_28 k_29 [x_14.In, x_23.1] := f_30.toSl (C.off (i := 0) rfl [1, 2] rfl (by decide)) (Mu.weaken (mem_pick [1, 2] rfl))
      have T : TR U0 [ob A_28, some b_13, some b_12] w [some b_13, some b_12] w [] := TR.pick [1, 2] rfl
      have C' : Ctx U0 [] w0 [some b_13, some b_12] _ := C.pick [1, 2] (by decide) rfl
      replace f_21 := T.sl f_21
      replace f_22 := T.sl f_22
      replace f_26 := T.sl f_26
      replace hb_12 := T.blk ne0 hb_12
      replace hb_13 := T.blk ne0 hb_13
      clear T; replace C := C'; clear C'
      replace hp := bind_inv hp
      obtain ⟨x_32, e_x_32, hp⟩ := hp
      refine WL.call (rc_func Try.call37 rfl) (ok_octets_Join F (Mu U0 [some b_13, some b_12]) _ [x_14.In, x_23.1] A_28 k_29 (C.give [0, 1] [] (by decide) rfl rfl (by decide)) (f_31.mu (mu_give [0, 1] [] rfl rfl)) _ e_x_32) rfl ?_
      rintro v w ⟨A_33, k_34, rfl, D, f_35⟩
      obtain ⟨C', T⟩ := C.join D [0, 1] [] (by decide) rfl rfl (by decide)
      replace C' : Ctx U0 [] w0 [some b_13, some b_12] _ := C'
      replace T : TR U0 [some b_13, some b_12] _ [some b_13, some b_12] _ [] := T
      replace f_35 : Sl 1 (RInt .u8) (Mu U0 [some b_13, some b_12]) _ A_33 k_34 x_32 := f_35.mu (mu_join (R := []) (L2 := [some b_13, some b_12]) (fun b h => h))
      replace f_21 := T.sl f_21
      replace f_22 := T.sl f_22
      replace f_26 := T.sl f_26
      replace f_31 := T.sl f_31
      replace hb_12 := T.blk ne0 hb_12
      replace hb_13 := T.blk ne0 hb_13
      clear T; replace C := C'; clear C'
      clear D
      refine WL.val (rv_move rfl) rfl ?_
      refine WL.val (rv_fieldAddr FA26_12 rfl rfl) rfl ?_
      refine WL.storeK (rs_store (i := 1) (cs' := [.int .u16 x_14.Local, .int .u16 x_14.Remote, .int .u16 x_14.PSM, .int .i64 x_14.MTU, .int .i64 x_14.MPS, .int .i64 x_14.PeerMTU, .int .i64 x_14.PeerMPS, .int .i64 x_14.TxCredits, .int .i64 (w64 (x_14.RxCredits - 1)), .int .i64 x_14.Given, .slice A_15 (List.length x_14.Out) k_16, .int .i64 x_14.Sent, .slice A_33 (List.length x_32) k_34, .int .i64 x_14.Want, .bool x_14.Failed]) Try.sizeOf24 rfl rfl rfl rfl rfl hb_12 rfl C rfl rfl) ?_
      rintro w ⟨hb_12, C', T⟩
      replace f_21 := T.sl f_21
      replace f_22 := T.sl f_22
      replace f_26 := T.sl f_26
      replace f_31 := T.sl f_31
      replace f_35 := T.sl f_35
      replace hb_13 := T.blk (C.ne (i := 0) rfl [1] rfl (by decide)) hb_13
      clear T; replace C := C'; clear C'
      refine WL.val (rv_fieldAddr FA26_13 rfl rfl) rfl ?_
      refine WL.storeK (rs_store (i := 1) (cs' := [.int .u16 x_14.Local, .int .u16 x_14.Remote, .int .u16 x_14.PSM, .int .i64 x_14.MTU, .int .i64 x_14.MPS, .int .i64 x_14.PeerMTU, .int .i64 x_14.PeerMPS, .int .i64 x_14.TxCredits, .int .i64 (w64 (x_14.RxCredits - 1)), .int .i64 x_14.Given, .slice A_15 (List.length x_14.Out) k_16, .int .i64 x_14.Sent, .slice A_33 (List.length x_32) k_34, .int .i64 x_23.2.1, .bool x_14.Failed]) Try.sizeOf3 rfl rfl rfl rfl rfl hb_12 rfl C rfl rfl) ?_
      rintro w ⟨hb_12, C', T⟩
      replace f_21 := T.sl f_21
      replace f_22 := T.sl f_22
      replace f_26 := T.sl f_26
      replace f_31 := T.sl f_31
      replace f_35 := T.sl f_35
      replace hb_13 := T.blk (C.ne (i := 0) rfl [1] rfl (by decide)) hb_13
      clear T; replace C := C'; clear C'
      refine WL.nilThen ?_
      refine WC.seq ?_
      refine WC.seq ?_
      refine WC.region ?_
      refine WL.val (rv_fieldAddr FA26_12 rfl rfl) rfl ?_
      refine WL.val (rv_load1 Try.isAgg24 rfl hb_12 rfl) rfl ?_
      refine WL.val (rv_len (dt := x_32) Try.underlying24 rfl) rfl ?_
      refine WL.val (rv_fieldAddr FA26_13 rfl rfl) rfl ?_
      refine WL.val (rv_load1 Try.isAgg3 rfl hb_12 rfl) rfl ?_
      refine WL.val (rv_lss rfl rfl) rfl ?_
      refine WL.nilThen ?_
      refine WC.cond rfl (fun hc => ?_) (fun hc => ?_)
      · replace hp := if_t hp hc
        clear hc
        refine WC.seq ?_
        refine WC.region ?_
        refine WL.val (rv_loadN Try.isAgg26 Try.sizeOf26 rfl hb_12 rfl rfl) rfl ?_
        refine WL.storeK (rs_store (i := 0) (cs' := [.int .u16 x_14.Local, .int .u16 x_14.Remote, .int .u16 x_14.PSM, .int .i64 x_14.MTU, .int .i64 x_14.MPS, .int .i64 x_14.PeerMTU, .int .i64 x_14.PeerMPS, .int .i64 x_14.TxCredits, .int .i64 (w64 (x_14.RxCredits - 1)), .int .i64 x_14.Given, .slice A_15 (List.length x_14.Out) k_16, .int .i64 x_14.Sent, .slice A_33 (List.length x_32) k_34, .int .i64 x_23.2.1, .bool x_14.Failed]) Try.sizeOf26 rfl rfl rfl rfl rfl hb_13 rfl C rfl rfl) ?_
        rintro w ⟨hb_13, C', T⟩
        replace f_22 := T.sl f_22
        replace f_35 := T.sl f_35
        replace hb_12 := T.blk (C.ne (i := 1) rfl [0] rfl (by decide)) hb_12
        clear T; replace C := C'; clear C'
        refine WL.val (rv_assign rfl) rfl ?_
        refine WL.val (rv_assign rfl) rfl ?_
        refine WL.nilThen ?_
        obtain rfl := some_inv' hp
        refine WC.ret (retK (rs := [.cell 4 26, .tmp 5, .tmp 6]) (vs := [.agg #[.int .u16 x_14.Local, .int .u16 x_14.Remote, .int .u16 x_14.PSM, .int .i64 x_14.MTU, .int .i64 x_14.MPS, .int .i64 x_14.PeerMTU, .int .i64 x_14.PeerMPS, .int .i64 x_14.TxCredits, .int .i64 (w64 (x_14.RxCredits - 1)), .int .i64 x_14.Given, .slice A_15 (List.length x_14.Out) k_16, .int .i64 x_14.Sent, .slice A_33 (List.length x_32) k_34, .int .i64 x_23.2.1, .bool x_14.Failed], .slice none 0 0, .int .i64 0]) rfl ⟨rv1_cell Try.isAgg26 Try.sizeOf26 rfl hb_13 rfl, rv1_tmp rfl, rv1_tmp rfl, trivial⟩ ?_)
        have T : TR U0 [some b_13, some b_12] w [] w [] := TR.pick [] rfl
        have C' : Ctx U0 [] w0 [] _ := C.pick [] (by decide) rfl
        replace f_22 := T.sl f_22
        replace f_35 := T.sl f_35
        clear T; replace C := C'; clear C'
        exact ⟨_, rfl, A_15, k_16, A_33, k_34, none, 0, rfl, C, f_22, f_35, Sl.nil0⟩
      · replace hp := if_f hp hc
        clear hc
        refine WC.skipThen ?_
        refine WC.seq ?_
        refine WC.region ?_
        refine WL.val (rv_fieldAddr FA26_12 rfl rfl) rfl ?_
        refine WL.val (rv_load1 Try.isAgg24 rfl hb_12 rfl) rfl ?_
        refine WL.val (rv_assign rfl) rfl ?_
        refine WL.nilThen ?_
        refine WC.seq ?_
        refine WC.region ?_
        refine WL.val (rv_fieldAddr FA26_12 rfl rfl) rfl ?_
        refine WL.storeK (rs_store (i := 1) (cs' := [.int .u16 x_14.Local, .int .u16 x_14.Remote, .int .u16 x_14.PSM, .int .i64 x_14.MTU, .int .i64 x_14.MPS, .int .i64 x_14.PeerMTU, .int .i64 x_14.PeerMPS, .int .i64 x_14.TxCredits, .int .i64 (w64 (x_14.RxCredits - 1)), .int .i64 x_14.Given, .slice A_15 (List.length x_14.Out) k_16, .int .i64 x_14.Sent, .slice none 0 0, .int .i64 x_23.2.1, .bool x_14.Failed]) Try.sizeOf24 rfl rfl rfl rfl rfl hb_12 rfl C rfl rfl) ?_
        rintro w ⟨hb_12, C', T⟩
        replace f_22 := T.sl f_22
        replace f_35 := T.sl f_35
        replace hb_13 := T.blk (C.ne (i := 0) rfl [1] rfl (by decide)) hb_13
        clear T; replace C := C'; clear C'
        refine WL.val (rv_fieldAddr FA26_13 rfl rfl) rfl ?_
        refine WL.storeK (rs_store (i := 1) (cs' := [.int .u16 x_14.Local, .int .u16 x_14.Remote, .int .u16 x_14.PSM, .int .i64 x_14.MTU, .int .i64 x_14.MPS, .int .i64 x_14.PeerMTU, .int .i64 x_14.PeerMPS, .int .i64 x_14.TxCredits, .int .i64 (w64 (x_14.RxCredits - 1)), .int .i64 x_14.Given, .slice A_15 (List.length x_14.Out) k_16, .int .i64 x_14.Sent, .slice none 0 0, .int .i64 (-1), .bool x_14.Failed]) Try.sizeOf3 rfl rfl rfl rfl rfl hb_12 rfl C rfl rfl) ?_
        rintro w ⟨hb_12, C', T⟩
        replace f_22 := T.sl f_22
        replace f_35 := T.sl f_35
        replace hb_13 := T.blk (C.ne (i := 0) rfl [1] rfl (by decide)) hb_13
        clear T; replace C := C'; clear C'
        refine WL.nilThen ?_
        refine WC.seq ?_
        refine WC.region ?_
        refine WL.val (rv_loadN Try.isAgg26 Try.sizeOf26 rfl hb_12 rfl rfl) rfl ?_
        refine WL.val (rv_move rfl) rfl ?_
        refine WL.world (rw_buildSlice (sz := 1) (R := (RSl 1 (RInt .u8))) (es := [.slice A_33 (List.length x_32) k_34]) (dt := [x_32]) Try.underlying23 Try.sizeOf24 Try.zeroValue24 rfl rfl rfl rfl rfl rfl rfl rfl ⟨_, _, rfl, rfl, ⟨_, _, rfl, f_35⟩, rfl⟩ C) rfl ?_
        rintro v w ⟨A_37, k_38, rfl, f_39, C', T⟩
        replace C' : Ctx U0 [] w0 [ob A_37, some b_13, some b_12] _ := C'
        replace T : TR U0 [some b_13, some b_12] _ [ob A_37, some b_13, some b_12] _ _ := T
        replace f_39 : Own 1 24 (RSl 1 (RInt .u8)) (Mu U0 [ob A_37, some b_13, some b_12]) _ A_37 k_38 [x_32] := f_39
        replace f_22 := T.sl f_22
        replace f_35 := T.sl f_35
        replace hb_12 := T.blk ne0 hb_12
        replace hb_13 := T.blk ne0 hb_13
        clear T; replace C := C'; clear C'
        refine WL.storeK (rs_store (i := 1) (cs' := [.int .u16 x_14.Local, .int .u16 x_14.Remote, .int .u16 x_14.PSM, .int .i64 x_14.MTU, .int .i64 x_14.MPS, .int .i64 x_14.PeerMTU, .int .i64 x_14.PeerMPS, .int .i64 x_14.TxCredits, .int .i64 (w64 (x_14.RxCredits - 1)), .int .i64 x_14.Given, .slice A_15 (List.length x_14.Out) k_16, .int .i64 x_14.Sent, .slice none 0 0, .int .i64 (-1), .bool x_14.Failed]) Try.sizeOf26 rfl rfl rfl rfl rfl hb_13 rfl C rfl rfl) ?_
        rintro w ⟨hb_13, C', T⟩
        replace f_22 := T.sl f_22
        replace f_35 := T.sl f_35
        replace hb_12 := T.blk (C.ne (i := 2) rfl [1] rfl (by decide)) hb_12
        replace f_39 := T.own (C.ne (i := 0) rfl [1] rfl (by decide)) f_39
        clear T; replace C := C'; clear C'
        refine WL.val (rv_assign rfl) rfl ?_
        refine WL.val (rv_assign rfl) rfl ?_
        refine WL.nilThen ?_
        obtain rfl := some_inv' hp
        refine WC.ret (retK (rs := [.cell 4 26, .tmp 5, .tmp 6]) (vs := [.agg #[.int .u16 x_14.Local, .int .u16 x_14.Remote, .int .u16 x_14.PSM, .int .i64 x_14.MTU, .int .i64 x_14.MPS, .int .i64 x_14.PeerMTU, .int .i64 x_14.PeerMPS, .int .i64 x_14.TxCredits, .int .i64 (w64 (x_14.RxCredits - 1)), .int .i64 x_14.Given, .slice A_15 (List.length x_14.Out) k_16, .int .i64 x_14.Sent, .slice none 0 0, .int .i64 (-1), .bool x_14.Failed], .slice A_37 (List.length [x_32]) k_38, .int .i64 0]) rfl ⟨rv1_cell Try.isAgg26 Try.sizeOf26 rfl hb_13 rfl, rv1_tmp rfl, rv1_tmp rfl, trivial⟩ ?_)
        have f_49 : Sl 1 (RSl 1 (RInt .u8)) (Mu U0 [some b_13, some b_12]) _ A_37 k_38 [x_32] := f_39.toSl (C.off (i := 0) rfl [1, 2] rfl (by decide)) (Mu.weaken (mem_pick [1, 2] rfl))
        have T : TR U0 [ob A_37, some b_13, some b_12] w [some b_13, some b_12] w [] := TR.pick [1, 2] rfl
        have C' : Ctx U0 [] w0 [some b_13, some b_12] _ := C.pick [1, 2] (by decide) rfl
        replace f_22 := T.sl f_22
        clear T; replace C := C'; clear C'
        have T : TR U0 [some b_13, some b_12] w [] w [] := TR.pick [] rfl
        have C' : Ctx U0 [] w0 [] _ := C.pick [] (by decide) rfl
        replace f_22 := T.sl f_22
        replace f_49 := T.sl f_49
        clear T; replace C := C'; clear C'
        exact ⟨_, rfl, A_15, k_16, none, 0, A_37, k_38, rfl, C, f_22, Sl.nil0, f_49⟩

theorem ok_wirelessref23_Num (F : Nat) (U0 : Nat → Prop) (w0 : World) (b_1 : (List Int)) (at_5 : Int) (size_6 : Int) (A_2 : Option Addr) (k_3 : Nat) (C : Ctx U0 [] w0 [] w0) (f_4 : Sl 1 (RInt .u8) (Mu U0 []) w0 A_2 k_3 b_1) (r : Int) (hp : wirelessref23_Num F b_1 at_5 size_6 = some r) :
    Calls Try.prog 39 #[.slice A_2 (List.length b_1) k_3, .int .i64 at_5, .int .i64 size_6] w0 fun e w => ∃ v, e = .returned v ∧ (v = .int .u64 r) ∧ (Ctx U0 [] w0 [] w) := by
  refine calls_enter (vs := [.slice A_2 (List.length b_1) k_3, .int .i64 at_5, .int .i64 size_6]) Try.func39 rfl Try.ntmps39 rfl ?_
  refine WC.prune (l' := [(0, .slice A_2 (List.length b_1) k_3), (1, .int .i64 at_5), (2, .int .i64 size_6)]) ⟨rfl, rfl, rfl, trivial⟩ ?_
  skip
  refine WC.seq ?_
  refine WC.region ?_
  refine WL.val (rv_assign rfl) rfl ?_
  refine WL.nilThen ?_
  refine WC.seq ?_
  refine WC.region ?_
  refine WL.val (rv_assign rfl) rfl ?_
  refine WL.nilThen ?_
  refine WC.seqCut (fun a w => ∃ (x_7 : Int), (wirelessref23_Num_j1 F x_7 = some r) ∧ (Holds 26 [(7, .int .u64 x_7)] a) ∧ (Ctx U0 [] w0 [] w)) ?_ ?_
  · refine WC.seq ?_
    refine WC.region ?_
    refine WL.val (rv_move rfl) rfl ?_
    refine WL.val (rv_sub rfl rfl (wrap_i64 _)) rfl ?_
    refine WL.val (rv_assign rfl) rfl ?_
    refine WL.nilThen ?_
    refine WC.block ?_
    obtain ⟨o_10, hi_10, hpo_10⟩ := bind_inv hp
    clear hp
    refine WC.loop (fun n a w => ∃ (x_8 : Int) (x_9 : Int), (iter (fun s => wirelessref23_Num_l10 F b_1 at_5 s.1 s.2) n (x_8, x_9) = some o_10) ∧ (Holds 26 [(0, .slice A_2 (List.length b_1) k_3), (1, .int .i64 at_5), (7, .int .u64 x_8), (8, .int .i64 x_9)] a) ∧ (Ctx U0 [] w0 [] w) ∧ (Sl 1 (RInt .u8) (Mu U0 []) w A_2 k_3 b_1)) F ?_ ?_
    · intro a ha
      exact ⟨0, w64 (size_6 - 1), hi_10, ha.sub ⟨rfl, rfl, rfl, rfl, trivial⟩, C, f_4⟩
    · rintro n_10 a w ⟨x_8, x_9, hi_10, ha, C, f_4⟩
      obtain ⟨n_10, q_10, rfl, hp, hs_10⟩ := iter_inv hi_10
      replace hp : wirelessref23_Num_l10 F b_1 at_5 x_8 x_9 = some q_10 := hp
      clear hi_10
      refine WC.ofJ (l := [(0, .slice A_2 (List.length b_1) k_3), (1, .int .i64 at_5), (7, .int .u64 x_8), (8, .int .i64 x_9)]) ?_ ha
      refine WC.seq ?_
      refine WC.seq ?_
      refine WC.region ?_
      refine WL.val (rv_move rfl) rfl ?_
      refine WL.val (rv_geq rfl rfl) rfl ?_
      refine WL.nilThen ?_
      refine WC.cond rfl (fun hc => ?_) (fun hc => ?_)
      · replace hp := if_t hp hc
        clear hc
        refine WC.skipThen ?_
        refine WC.seq ?_
        refine WC.block ?_
        refine WC.region ?_
        refine WL.val (rv_move rfl) rfl ?_
        refine WL.val (rv_mul rfl rfl (wrap_u64 _)) rfl ?_
        refine WL.val (rv_move rfl) rfl ?_
        refine WL.val (rv_move rfl) rfl ?_
        refine WL.val (rv_move rfl) rfl ?_
        refine WL.val (rv_add rfl rfl (wrap_i64 _)) rfl ?_
        replace hp := bind_inv hp
        obtain ⟨x_11, e_x_11, hp⟩ := hp
        refine WL.ixSl (dt := b_1) Try.underlying24 Try.sizeOf5 rfl rfl rfl f_4 e_x_11 rfl ?_
        intro d_12 es_13 f_14 hl hr
        obtain rfl : es_13 = [.int .u8 x_11] := hr
        clear hl
        refine WL.val (rv_loadA1 (ad := d_12) (o := 0) Try.isAgg5 rfl f_14 rfl) rfl ?_
        refine WL.val (rv_conv Try.underlying5 Try.underlying64 rfl (wrap_u64 _)) rfl ?_
        refine WL.val (rv_add rfl rfl (wrap_u64 _)) rfl ?_
        refine WL.val (rv_assign rfl) rfl ?_
        refine WL.nilThen ?_
        refine WC.region ?_
        refine WL.val (rv_move rfl) rfl ?_
        refine WL.val (rv_sub rfl rfl (wrap_i64 _)) rfl ?_
        refine WL.val (rv_assign rfl) rfl ?_
        refine WL.nil (fun a ha => ?_)
        have ho := next_inv hp hs_10
        exact ⟨n_10, Nat.lt_succ_self _, ⟨wu64 ((wu64 (x_8 * 256)) + (wu64 x_11)), w64 (x_9 - 1), ho, ha.sub ⟨rfl, rfl, rfl, rfl, trivial⟩, C, f_4⟩⟩
      · replace hp := if_f hp hc
        clear hc
        refine WC.exitJ rfl (fun a ha => ?_)
        have ho := done_inv hp hs_10
        replace hp := hpo_10
        try rw [ho] at hp
        exact ⟨x_8, hp, ha.sub ⟨rfl, trivial⟩, C⟩
  · rintro a w ⟨x_7, hp, ha, C⟩
    refine WC.ofJ (l := [(7, .int .u64 x_7)]) ?_ ha
    refine WC.seq ?_
    refine WC.region ?_
    refine WL.val (rv_move rfl) rfl ?_
    refine WL.val (rv_assign rfl) rfl ?_
    refine WL.nilThen ?_
    obtain rfl := some_inv' hp
    refine WC.ret (retK (rs := [.tmp 6]) (vs := [.int .u64 x_7]) rfl ⟨rv1_tmp rfl, trivial⟩ ?_)
    exact ⟨_, rfl, rfl, C⟩

theorem ok_wirelessref33_fault (F : Nat) (U0 : Nat → Prop) (w0 : World) (c_1 : T_api_Channel) (b_8 : (List Int)) (A_2 : Option Addr) (k_3 : Nat) (A_5 : Option Addr) (k_6 : Nat) (A_9 : Option Addr) (k_10 : Nat) (C : Ctx U0 [] w0 [] w0) (f_4 : Sl 1 (RSl 1 (RInt .u8)) (Mu U0 []) w0 A_2 k_3 c_1.Out) (f_7 : Sl 1 (RInt .u8) (Mu U0 []) w0 A_5 k_6 c_1.In) (f_11 : Sl 1 (RInt .u8) (Mu U0 []) w0 A_9 k_10 b_8) (r : Int) (hp : wirelessref33_fault F c_1 b_8 = some r) :
    Calls Try.prog 38 #[.agg #[.int .u16 c_1.Local, .int .u16 c_1.Remote, .int .u16 c_1.PSM, .int .i64 c_1.MTU, .int .i64 c_1.MPS, .int .i64 c_1.PeerMTU, .int .i64 c_1.PeerMPS, .int .i64 c_1.TxCredits, .int .i64 c_1.RxCredits, .int .i64 c_1.Given, .slice A_2 (List.length c_1.Out) k_3, .int .i64 c_1.Sent, .slice A_5 (List.length c_1.In) k_6, .int .i64 c_1.Want, .bool c_1.Failed], .slice A_9 (List.length b_8) k_10] w0 fun e w => ∃ v, e = .returned v ∧ (v = .int .i64 r) ∧ (Ctx U0 [] w0 [] w) := by
  refine calls_enter (vs := [.agg #[.int .u16 c_1.Local, .int .u16 c_1.Remote, .int .u16 c_1.PSM, .int .i64 c_1.MTU, .int .i64 c_1.MPS, .int .i64 c_1.PeerMTU, .int .i64 c_1.PeerMPS, .int .i64 c_1.TxCredits, .int .i64 c_1.RxCredits, .int .i64 c_1.Given, .slice A_2 (List.length c_1.Out) k_3, .int .i64 c_1.Sent, .slice A_5 (List.length c_1.In) k_6, .int .i64 c_1.Want, .bool c_1.Failed], .slice A_9 (List.length b_8) k_10]) Try.func38 rfl Try.ntmps38 rfl ?_
  refine WC.prune (l' := [(0, .agg #[.int .u16 c_1.Local, .int .u16 c_1.Remote, .int .u16 c_1.PSM, .int .i64 c_1.MTU, .int .i64 c_1.MPS, .int .i64 c_1.PeerMTU, .int .i64 c_1.PeerMPS, .int .i64 c_1.TxCredits, .int .i64 c_1.RxCredits, .int .i64 c_1.Given, .slice A_2 (List.length c_1.Out) k_3, .int .i64 c_1.Sent, .slice A_5 (List.length c_1.In) k_6, .int .i64 c_1.Want, .bool c_1.Failed]), (1, .slice A_9 (List.length b_8) k_10)]) ⟨rfl, rfl, trivial⟩ ?_
  skip
  refine WC.seq ?_
  refine WC.region ?_
  refine WL.world (rw_box rfl rfl C) rfl ?_
  rintro v w ⟨b_12, rfl, hb_12, C', T⟩
  replace C' : Ctx U0 [] w0 [some b_12] _ := C'
  replace T : TR U0 [] _ [some b_12] _ [] := T
  replace hb_12 : Blk _ b_12 26 [.int .u16 c_1.Local, .int .u16 c_1.Remote, .int .u16 c_1.PSM, .int .i64 c_1.MTU, .int .i64 c_1.MPS, .int .i64 c_1.PeerMTU, .int .i64 c_1.PeerMPS, .int .i64 c_1.TxCredits, .int .i64 c_1.RxCredits, .int .i64 c_1.Given, .slice A_2 (List.length c_1.Out) k_3, .int .i64 c_1.Sent, .slice A_5 (List.length c_1.In) k_6, .int .i64 c_1.Want, .bool c_1.Failed] := hb_12
  replace f_4 := T.sl f_4
  replace f_7 := T.sl f_7
  replace f_11 := T.sl f_11
  clear T; replace C := C'; clear C'
  refine WL.val (rv_assign rfl) rfl ?_
  refine WL.nilThen ?_
  refine WC.seq ?_
  refine WC.seq ?_
  refine WC.region ?_
  refine WL.val (rv_fieldAddr FA26_8 rfl rfl) rfl ?_
  refine WL.val (rv_load1 Try.isAgg3 rfl hb_12 rfl) rfl ?_
  refine WL.val (rv_eql rfl rfl) rfl ?_
  refine WL.nilThen ?_
  refine WC.cond rfl (fun hc => ?_) (fun hc => ?_)
  · replace hp := if_t hp hc
    clear hc
    refine WC.seq ?_
    refine WC.region ?_
    refine WL.val (rv_assign rfl) rfl ?_
    refine WL.nilThen ?_
    obtain rfl := some_inv' hp
    refine WC.ret (retK (rs := [.tmp 4]) (vs := [.int .i64 19]) rfl ⟨rv1_tmp rfl, trivial⟩ ?_)
    have T : TR U0 [some b_12] w [] w [] := TR.pick [] rfl
    have C' : Ctx U0 [] w0 [] _ := C.pick [] (by decide) rfl
    clear T; replace C := C'; clear C'
    exact ⟨_, rfl, rfl, C⟩
  · replace hp := if_f hp hc
    clear hc
    refine WC.skipThen ?_
    refine WC.seq ?_
    refine WC.seq ?_
    refine WC.region ?_
    refine WL.val (rv_move rfl) rfl ?_
    refine WL.val (rv_len (dt := b_8) Try.underlying24 rfl) rfl ?_
    refine WL.val (rv_fieldAddr FA26_4 rfl rfl) rfl ?_
    refine WL.val (rv_load1 Try.isAgg3 rfl hb_12 rfl) rfl ?_
    refine WL.val (rv_gtr rfl rfl) rfl ?_
    refine WL.nilThen ?_
    refine WC.cond rfl (fun hc => ?_) (fun hc => ?_)
    · replace hp := if_t hp hc
      clear hc
      refine WC.seq ?_
      refine WC.region ?_
      refine WL.val (rv_assign rfl) rfl ?_
      refine WL.nilThen ?_
      obtain rfl := some_inv' hp
      refine WC.ret (retK (rs := [.tmp 4]) (vs := [.int .i64 4]) rfl ⟨rv1_tmp rfl, trivial⟩ ?_)
      have T : TR U0 [some b_12] w [] w [] := TR.pick [] rfl
      have C' : Ctx U0 [] w0 [] _ := C.pick [] (by decide) rfl
      clear T; replace C := C'; clear C'
      exact ⟨_, rfl, rfl, C⟩
    · replace hp := if_f hp hc
      clear hc
      refine WC.skipThen ?_
      refine WC.seq ?_
      refine WC.seq ?_
      refine WC.region ?_
      refine WL.val (rv_fieldAddr FA26_13 rfl rfl) rfl ?_
      refine WL.val (rv_load1 Try.isAgg3 rfl hb_12 rfl) rfl ?_
      refine WL.val (rv_eql rfl rfl) rfl ?_
      refine WL.nilThen ?_
      refine WC.cond rfl (fun hc => ?_) (fun hc => ?_)
      · replace hp := if_t hp hc
        clear hc
        refine WC.seq ?_
        refine WC.seq ?_
        refine WC.region ?_
        refine WL.val (rv_move rfl) rfl ?_
        refine WL.val (rv_len (dt := b_8) Try.underlying24 rfl) rfl ?_
        refine WL.val (rv_lss rfl rfl) rfl ?_
        refine WL.nilThen ?_
        refine WC.cond rfl (fun hc => ?_) (fun hc => ?_)
        · replace hp := if_t hp hc
          clear hc
          refine WC.seq ?_
          refine WC.region ?_
          refine WL.val (rv_assign rfl) rfl ?_
          refine WL.nilThen ?_
          obtain rfl := some_inv' hp
          refine WC.ret (retK (rs := [.tmp 4]) (vs := [.int .i64 3]) rfl ⟨rv1_tmp rfl, trivial⟩ ?_)
          have T : TR U0 [some b_12] w [] w [] := TR.pick [] rfl
          have C' : Ctx U0 [] w0 [] _ := C.pick [] (by decide) rfl
          clear T; replace C := C'; clear C'
          exact ⟨_, rfl, rfl, C⟩
        · replace hp := if_f hp hc
          clear hc
          refine WC.skipThen ?_
          refine WC.seq ?_
          refine WC.region ?_
          refine WL.val (rv_move rfl) rfl ?_
          replace hp := bind_inv hp
          obtain ⟨x_13, e_x_13, hp⟩ := hp
          refine WL.call (rc_func Try.call39 rfl) (ok_wirelessref23_Num F (Mu U0 [some b_12]) _ b_8 0 2 A_9 k_10 (C.give [0] [] (by decide) rfl rfl (by decide)) (f_11.mu (mu_give [0] [] rfl rfl)) _ e_x_13) rfl ?_
          rintro v w ⟨rfl, D⟩
          obtain ⟨C', T⟩ := C.join D [0] [] (by decide) rfl rfl (by decide)
          replace C' : Ctx U0 [] w0 [some b_12] _ := C'
          replace T : TR U0 [some b_12] _ [some b_12] _ [] := T
          replace f_4 := T.sl f_4
          replace f_7 := T.sl f_7
          replace f_11 := T.sl f_11
          replace hb_12 := T.blk ne0 hb_12
          clear T; replace C := C'; clear C'
          clear D
          refine WL.val (rv_conv Try.underlying64 Try.underlying3 rfl (wrap_i64 _)) rfl ?_
          refine WL.val (rv_assign rfl) rfl ?_
          refine WL.nilThen ?_
          refine WC.seq ?_
          refine WC.seq ?_
          refine WC.region ?_
          refine WL.val (rv_move rfl) rfl ?_
          refine WL.val (rv_fieldAddr FA26_3 rfl rfl) rfl ?_
          refine WL.val (rv_load1 Try.isAgg3 rfl hb_12 rfl) rfl ?_
          refine WL.val (rv_gtr rfl rfl) rfl ?_
          refine WL.val (rv_move rfl) rfl ?_
          refine WL.cutAt 6 (fun a w' => w = w' ∧ Holds 46 [(33, .bool ((decide ((w64 x_13) > c_1.MTU)) || (decide ((w64 ((len b_8) - 2)) > (w64 x_13)))))] a) ?_ ?_
          · rcases Bool.eq_false_or_eq_true (decide ((w64 x_13) > c_1.MTU)) with hg_14 | hg_14
            · refine WL.no rfl rfl hg_14 rfl ?_
              refine WL.no rfl rfl hg_14 rfl ?_
              refine WL.no rfl rfl hg_14 rfl ?_
              refine WL.no rfl rfl hg_14 rfl ?_
              refine WL.no rfl rfl hg_14 rfl ?_
              refine WL.val (rv_pick_t rfl hg_14 rfl) rfl ?_
              refine WL.nil (fun a ha => ?_)
              exact ⟨rfl, ha.sub ⟨or_t hg_14, trivial⟩⟩
            · refine WL.yes rfl rfl hg_14 ?_
              refine WL.val (rv_move rfl) rfl ?_
              refine WL.yes rfl rfl hg_14 ?_
              refine WL.val (rv_len (dt := b_8) Try.underlying24 rfl) rfl ?_
              refine WL.yes rfl rfl hg_14 ?_
              refine WL.val (rv_sub rfl rfl (wrap_i64 _)) rfl ?_
              refine WL.yes rfl rfl hg_14 ?_
              refine WL.val (rv_move rfl) rfl ?_
              refine WL.yes rfl rfl hg_14 ?_
              refine WL.val (rv_gtr rfl rfl) rfl ?_
              refine WL.val (rv_pick_f rfl hg_14 rfl) rfl ?_
              refine WL.nil (fun a ha => ?_)
              exact ⟨rfl, ha.sub ⟨or_f hg_14, trivial⟩⟩
          · rintro a w' ⟨rfl, ha⟩
            refine WL.ofJ (l := [(33, .bool ((decide ((w64 x_13) > c_1.MTU)) || (decide ((w64 ((len b_8) - 2)) > (w64 x_13)))))]) ?_ ha
            refine WL.nilThen ?_
            refine WC.cond rfl (fun hc => ?_) (fun hc => ?_)
            · replace hp := if_t hp hc
              clear hc
              refine WC.seq ?_
              refine WC.region ?_
              refine WL.val (rv_assign rfl) rfl ?_
              refine WL.nilThen ?_
              obtain rfl := some_inv' hp
              refine WC.ret (retK (rs := [.tmp 4]) (vs := [.int .i64 4]) rfl ⟨rv1_tmp rfl, trivial⟩ ?_)
              have T : TR U0 [some b_12] w [] w [] := TR.pick [] rfl
              have C' : Ctx U0 [] w0 [] _ := C.pick [] (by decide) rfl
              clear T; replace C := C'; clear C'
              exact ⟨_, rfl, rfl, C⟩
            · replace hp := if_f hp hc
              clear hc
              refine WC.skipThen ?_
              refine WC.seq ?_
              refine WC.region ?_
              refine WL.val (rv_assign rfl) rfl ?_
              refine WL.nilThen ?_
              obtain rfl := some_inv' hp
              refine WC.ret (retK (rs := [.tmp 4]) (vs := [.int .i64 0]) rfl ⟨rv1_tmp rfl, trivial⟩ ?_)
              have T : TR U0 [some b_12] w [] w [] := TR.pick [] rfl
              have C' : Ctx U0 [] w0 [] _ := C.pick [] (by decide) rfl
              clear T; replace C := C'; clear C'
              exact ⟨_, rfl, rfl, C⟩
      · replace hp := if_f hp hc
        clear hc
        refine WC.skipThen ?_
        refine WC.seq ?_
        refine WC.seq ?_
        refine WC.region ?_
        refine WL.val (rv_move rfl) rfl ?_
        refine WL.val (rv_len (dt := b_8) Try.underlying24 rfl) rfl ?_
        refine WL.val (rv_eql rfl rfl) rfl ?_
        refine WL.nilThen ?_
        refine WC.cond rfl (fun hc => ?_) (fun hc => ?_)
        · replace hp := if_t hp hc
          clear hc
          refine WC.seq ?_
          refine WC.region ?_
          refine WL.val (rv_assign rfl) rfl ?_
          refine WL.nilThen ?_
          obtain rfl := some_inv' hp
          refine WC.ret (retK (rs := [.tmp 4]) (vs := [.int .i64 3]) rfl ⟨rv1_tmp rfl, trivial⟩ ?_)
          have T : TR U0 [some b_12] w [] w [] := TR.pick [] rfl
          have C' : Ctx U0 [] w0 [] _ := C.pick [] (by decide) rfl
          clear T; replace C := C'; clear C'
          exact ⟨_, rfl, rfl, C⟩
        · replace hp := if_f hp hc
          clear hc
          refine WC.skipThen ?_
          refine WC.seq ?_
          refine WC.seq ?_
          refine WC.region ?_
          refine WL.val (rv_fieldAddr FA26_12 rfl rfl) rfl ?_
          refine WL.val (rv_load1 Try.isAgg24 rfl hb_12 rfl) rfl ?_
          refine WL.val (rv_len (dt := c_1.In) Try.underlying24 rfl) rfl ?_
          refine WL.val (rv_move rfl) rfl ?_
          refine WL.val (rv_len (dt := b_8) Try.underlying24 rfl) rfl ?_
          refine WL.val (rv_add rfl rfl (wrap_i64 _)) rfl ?_
          refine WL.val (rv_fieldAddr FA26_13 rfl rfl) rfl ?_
          refine WL.val (rv_load1 Try.isAgg3 rfl hb_12 rfl) rfl ?_
          refine WL.val (rv_gtr rfl rfl) rfl ?_
          refine WL.nilThen ?_
          refine WC.cond rfl (fun hc => ?_) (fun hc => ?_)
          · replace hp := if_t hp hc
            clear hc
            refine WC.seq ?_
            refine WC.region ?_
            refine WL.val (rv_assign rfl) rfl ?_
            refine WL.nilThen ?_
            obtain rfl := some_inv' hp
            refine WC.ret (retK (rs := [.tmp 4]) (vs := [.int .i64 4]) rfl ⟨rv1_tmp rfl, trivial⟩ ?_)
            have T : TR U0 [some b_12] w [] w [] := TR.pick [] rfl
            have C' : Ctx U0 [] w0 [] _ := C.pick [] (by decide) rfl
            clear T; replace C := C'; clear C'
            exact ⟨_, rfl, rfl, C⟩
          · replace hp := if_f hp hc
            clear hc
            refine WC.skipThen ?_
            refine WC.seq ?_
            refine WC.region ?_
            refine WL.val (rv_assign rfl) rfl ?_
            refine WL.nilThen ?_
            obtain rfl := some_inv' hp
            refine WC.ret (retK (rs := [.tmp 4]) (vs := [.int .i64 0]) rfl ⟨rv1_tmp rfl, trivial⟩ ?_)
            have T : TR U0 [some b_12] w [] w [] := TR.pick [] rfl
            have C' : Ctx U0 [] w0 [] _ := C.pick [] (by decide) rfl
            clear T; replace C := C'; clear C'
            exact ⟨_, rfl, rfl, C⟩
end V
end Go.Proofs.Ytfdiabglpgkbeaa
