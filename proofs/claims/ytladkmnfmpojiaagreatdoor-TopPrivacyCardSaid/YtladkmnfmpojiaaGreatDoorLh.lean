/-
  Rows and arrays.
-/
import Derived.Test.YtladkmnfmpojiaaGreatDoorLg
import Derived.Lib.ConvBytes
import Derived.KernelRfl
import Derived.LoopN
import Derived.ChangeKeysEq
namespace Go.Proofs.YtladkmnfmpojiaaGreatDoor
namespace V
/-- A list of Booleans, by a number. -/
def bm : Nat → Nat → List Bool
  | 0, _ => []
  | k + 1, n => (n % 2 == 1) :: bm k (n / 2)
/-- Short names. -/
theorem K {p : Prop} (h : p := by as_aux_lemma => kernel_rfl) : p := h
abbrev J (x : Int) : SV := vi .i64 x
def gsF : Nat → Nat → List Jx
  | 0, _ => []
  | n + 1, i => .g i :: gsF n (i + 1)
abbrev gs (n : Nat) : List Jx := gsF n 0
/-- Short names for lists. -/
abbrev I : Bool := true
abbrev O : Bool := false
section
variable {P : Program} {N n0 : Nat} {fx : Fx} {its its' : List Item} {κ : List Conc} {w : World} {tt : TT} {env : Env'}
theorem kl_any : (kl its).any Item.ow = false := by
  rw [List.any_eq_false]
  intro it hit
  rw [kl_ow it hit]
  exact Bool.false_ne_true
theorem e_upd {α : Type} {sz : Nat} {E : TypeId} {R : RT α} [GRep R] {l l' : List α} {e : α} (htt : TTOk P tt) {t : TypeId} {ps : String} {af : Array Edge} {g : Option (Nat × Bool)} {ty : TypeId} {x y : Operand} {i j : Nat} {iv : Int} {v : SV} {cs0 cs : List Cell}
    (hx : evS env x = some (vp j 0)) (hj : its[j]? = some (.elt (some (i, iv)) true cs0)) (hi : its[i]? = some (.own sz E R l)) (hki : (kl its)[i]? = some (.own sz E R l)) (hy : evS env y = some v) (hv : v.cells its = some cs) (hc : Clo its R cs e)
    (hl : (Nat.beq cs0.length sz && Nat.beq cs.length sz) = true) (hT : (match lkT ty tt with
      | some ti => Nat.beq ti.size sz
      | none => false) = true) (hu : upd l iv e = some l') :
    Eff P N n0 fx env its ⟨none, .store ty x y, t, ps, af, g⟩ none ((kl its).set i (.own sz E R l')) := fun κ w S a ha => by
  simp only [Bool.and_eq_true, Nat.beq_eq] at hl
  obtain ⟨hl1, hl2⟩ := hl
  split at hT
  · rename_i ti ht
    simp only [Nat.beq_eq] at hT
    obtain ⟨c, hcj, hokj⟩ := S.conc hj
    cases c with
    | a ad =>
      obtain ⟨_, _, A, n, c, hci, had, h0, h1⟩ := hokj
      obtain ⟨c', hci', hoki⟩ := S.conc hi
      rw [hci] at hci'
      injection hci' with hci'
      subst hci'
      obtain ⟨hn, ho⟩ := hoki
      rcases own_form ho with ⟨hA, _⟩ | ⟨b, pre, cur, post, fz, hA, _⟩
      · cases hA
      · injection hA with hA
        subst hA
        have hx' := evS_den (κ := κ) hx
        simp only [SV.den, Cell.den, hcj, had, hl1] at hx'
        have hx2 : ev (denE κ env) x = some (.pointer (some ⟨b, pre.length + iv.toNat * sz, none⟩)) := by
          rw [hx']
          simp [add_lit]
        have hL : (Lof its κ)[i]? = some (some b) := Lof_get hi hci
        have hrun := rs_storeEl (P := P) (N := N) (t := t) (ps := ps) (af := af) (g := g) (fun w => by have := (htt.get ht).size w; rw [hT] at this; exact this) hx2 (evS_den hy) (cells_den S.kno hv) (by simpa using hl2) ho (hc S) hu hL S.ctx
        obtain ⟨w', hr, hst⟩ := hrun a ha
        refine .inr (.inl ⟨w', hr, ⟨[], ⟨fun z hz => (by cases hz), ?_⟩⟩⟩)
        rw [List.append_nil]
        have hlen : l'.length = l.length := by obtain ⟨_, _, rfl⟩ := upd_some hu; simp
        have hst' : OwnTurned sz E R fx.U0 fx.X0 fx.w0 (Lof (kl its) κ) w (some ⟨b, pre.length, none⟩) c l' w' := by rw [Lof_kl]; exact hst
        exact ownTurned_st S.kill kl_any hki hci hn hlen hst'
    | _ => exact hokj.elim
  · cases hT
end
/-! ### A part of an element of a row of the call's own is written -/
section
variable {P : Program} {N n0 : Nat} {fx : Fx} {its its' : List Item} {κ : List Conc} {w w0 : World} {tt : TT} {env : Env'} {l : Env} {t : TypeId} {ps : String} {af : Array Edge} {g : Option (Nat × Bool)} {U0 : Nat → Prop} {X0 : List (Option Nat)} {L : List (Option Nat)}
theorem rs_storeF {q0 : Nat} {α : Type} {ty E : TypeId} {sz n : Nat} {x y : Operand} {iv : Int} {b i c o : Nat} {v : Value} {vs es : List Value} {R : RT α} [GRep R] {dt dt' : List α} {e : α} (h2 : ∀ w, (sizeOf ty).run P w = .ok n w) (hx : ev l x = some (.pointer (some ⟨b, q0 + (iv.toNat * sz + o), none⟩))) (hy : ev l y = some v) (hvs : v.cells = vs.toArray) (hn : vs.length = n) (hes : es.length = sz) (ho : o + n ≤ sz)
    (hcur : ∀ k u, es[k]? = some u → w.cell? ⟨b, q0 + (iv.toNat * sz + k), none⟩ = some u)
    (h : Own sz E R (Mu U0 L) w (some ⟨b, q0, none⟩) c dt) (hr : R (Mu U0 L) w (es.take o ++ vs ++ es.drop (o + n)) e) (hi : upd dt iv e = some dt') (hL : L[i]? = some (some b)) (C : Ctx U0 X0 w0 L w) :
    RunSK P N l ⟨none, .store ty x y, t, ps, af, g⟩ w (OwnTurned sz E R U0 X0 w0 L w (some ⟨b, q0, none⟩) c dt') := fun a ha => by
  obtain ⟨h0, h1, rfl⟩ := upd_some hi
  rcases own_form h with ⟨hA, _⟩ | ⟨b', pre, cur, post, fz, hA, hfz, hg, hle, hm, hsz, he⟩
  · cases hA
  · injection hA with hA
    injection hA with hA hA2
    subst hA
    subst hA2
    have hk : iv.toNat < dt.length := by omega
    have hfit0 : iv.toNat * sz + sz ≤ cur.length := by
      rw [hsz, ← Nat.succ_mul]
      exact Nat.mul_le_mul_right _ (by omega)
    have h1c := GRep.one hr
    have hst := run_storeCells_z P b (pre.length + (iv.toNat * sz + o)) E fz vs 0 _ w hg (by simpa using hfz) (by simp only [List.size_toArray, List.length_append]; omega) (fun u hu => h1c u (by simp [hu]))
    simp only [Nat.add_zero] at hst
    rw [row_put (by omega)] at hst
    -- the element's cells in the row
    have hseg : cur = cur.take (iv.toNat * sz) ++ es ++ cur.drop (iv.toNat * sz + sz) := by
      have he2 : (cur.drop (iv.toNat * sz)).take sz = es := by
        refine List.ext_getElem? fun k => ?_
        by_cases hk2 : k < sz
        · have hke : es[k]? = some (es[k]'(by omega)) := List.getElem?_eq_getElem (by omega)
          have := hcur k _ hke
          simp only [World.cell?, hg] at this
          rw [List.getElem?_take, if_pos hk2, List.getElem?_drop, hke, ← this, ← row_get (pre := pre) (post := post) (by omega)]
          simp
        · rw [List.getElem?_eq_none (by rw [List.length_take]; omega), List.getElem?_eq_none (by omega)]
      rw [← he2, List.append_assoc, ← List.drop_drop, List.take_append_drop, List.take_append_drop]
    have hA : (cur.take (iv.toNat * sz)).length = iv.toNat * sz := by
      rw [List.length_take]
      omega
    generalize hAA : cur.take (iv.toNat * sz) = A0 at hseg hA
    generalize hDD : cur.drop (iv.toNat * sz + sz) = D0 at hseg
    have hrow : cur.take (iv.toNat * sz + o) ++ vs ++ cur.drop (iv.toNat * sz + o + vs.length) = A0 ++ (es.take o ++ vs ++ es.drop (o + n)) ++ D0 := by
      have q1 : cur.take (iv.toNat * sz + o) = A0 ++ es.take o := by
        rw [hseg, ← hA, List.append_assoc, List.take_append, Nat.add_sub_cancel_left, List.take_of_length_le (by omega), List.take_append, show o - es.length = 0 from by omega, List.take_zero, List.append_nil]
      have q2 : cur.drop (iv.toNat * sz + o + vs.length) = es.drop (o + n) ++ D0 := by
        rw [hseg, ← hA, List.append_assoc, Nat.add_assoc, List.drop_append, List.drop_of_length_le (by omega), List.nil_append, Nat.add_sub_cancel_left, hn, List.drop_append, show o + n - es.length = 0 from by omega, List.drop_zero]
      rw [q1, q2]
      simp only [List.append_assoc]
    have hvl : (es.take o ++ vs ++ es.drop (o + n)).length = sz := by
      rw [List.length_append, List.length_append, List.length_take, List.length_drop]
      omega
    generalize es.take o ++ vs ++ es.drop (o + n) = vs1 at hr hrow hvl
    obtain ⟨k1, k2, k3⟩ := setRow_turnz C hL hg (cs' := pre ++ (A0 ++ vs1 ++ D0) ++ post)
    have hrowlen : (A0 ++ vs1 ++ D0).length = cur.length := by
      have := congrArg List.length hseg
      rw [List.length_append, List.length_append] at this
      rw [List.length_append, List.length_append]
      omega
    refine ⟨_, ?_, ?_, k2, k3⟩
    · simp only [execOp, ha.ev hx, ha.ev hy, Instr.storeAt, Instr.sureAddr, storeVar, Sem.run_bind, Sem.run_pure, Result.andThen_ok, h2, hvs, List.size_toArray, hn]
      rw [hn] at hrow
      simp [hst, hn, hrow]
    · refine own_mk2 (by rw [row_len hrowlen]; exact hfz) k1 (by simpa using hle) hm (by rw [hrowlen]; exact hsz) ?_
      have hset := Els.set dt _ iv.toNat e vs1 he hk hvl hr
      have e1 : (A0 ++ vs1 ++ D0).take ((dt.set iv.toNat e).length * sz) =
          (cur.take (dt.length * sz)).take (iv.toNat * sz) ++ vs1 ++ (cur.take (dt.length * sz)).drop (iv.toNat * sz + sz) := by
        have hk2 : iv.toNat * sz + sz ≤ dt.length * sz := by rw [← Nat.succ_mul]; exact Nat.mul_le_mul_right _ (by omega)
        rw [List.length_set, List.take_take, List.drop_take, Nat.min_eq_left (by omega : iv.toNat * sz ≤ dt.length * sz), hAA, hDD]
        rw [List.append_assoc, List.take_append, List.take_of_length_le (by omega), List.take_append, List.take_of_length_le (by omega), ← List.append_assoc]
        congr 2
        omega
      rw [e1]
      exact Els.step k3.h1 k3.mono _ _ hset
theorem e_updf {α : Type} {sz : Nat} {E : TypeId} {R : RT α} [GRep R] {l l' : List α} {e : α} (htt : TTOk P tt) {ty : TypeId} {x y : Operand} {i j o : Nat} {iv : Int} {v : SV} {cs0 cs cs1 : List Cell}
    (hx : evS env x = some (vp j o)) (hj : its[j]? = some (.elt (some (i, iv)) true cs0)) (hi : its[i]? = some (.own sz E R l)) (hki : (kl its)[i]? = some (.own sz E R l)) (hy : evS env y = some v) (hv : v.cells its = some cs) (h1 : cs0.take o ++ cs ++ cs0.drop (o + cs.length) = cs1) (hc : Clo its R cs1 e)
    (hl : (Nat.beq cs0.length sz && Nat.ble (o + cs.length) sz) = true) (hT : (match lkT ty tt with
      | some ti => Nat.beq ti.size cs.length
      | none => false) = true) (hu : upd l iv e = some l') :
    Eff P N n0 fx env its ⟨none, .store ty x y, t, ps, af, g⟩ none ((kl its).set i (.own sz E R l')) := fun κ w S a ha => by
  subst h1
  simp only [Bool.and_eq_true, Nat.beq_eq] at hl
  obtain ⟨hl1, hl2⟩ := hl
  have hl2 := Nat.le_of_ble_eq_true hl2
  split at hT
  · rename_i ti ht
    simp only [Nat.beq_eq] at hT
    obtain ⟨c, hcj, hokj⟩ := S.conc hj
    cases c with
    | a ad =>
      obtain ⟨hat, _, A, n, c, hci, had, h0, h1⟩ := hokj
      obtain ⟨c', hci', hoki⟩ := S.conc hi
      rw [hci] at hci'
      injection hci' with hci'
      subst hci'
      obtain ⟨hn, ho⟩ := hoki
      rcases own_form ho with ⟨hA, _⟩ | ⟨b, pre, cur, post, fz, hA, _⟩
      · cases hA
      · injection hA with hA
        subst hA
        have had2 : ad = ⟨b, pre.length + iv.toNat * sz, none⟩ := by rw [had, hl1, add_lit]
        subst had2
        have hx' := evS_den (κ := κ) hx
        simp only [SV.den, Cell.den, hcj] at hx'
        have hx2 : ev (denE κ env) x = some (.pointer (some ⟨b, pre.length + (iv.toNat * sz + o), none⟩)) := by
          rw [hx', add_lit, Nat.add_assoc]
        have hL : (Lof its κ)[i]? = some (some b) := Lof_get hi hci
        have hcc := hc S
        rw [List.map_append, List.map_append, List.map_take, List.map_drop] at hcc
        have hrun := rs_storeF (P := P) (N := N) (t := t) (ps := ps) (af := af) (g := g) (o := o) (n := cs.length) (es := cs0.map (Cell.den κ)) (fun w => by have := (htt.get ht).size w; rw [hT] at this; exact this) hx2 (evS_den hy) (cells_den S.kno hv) (by simp) (by simpa using hl1) hl2 (fun k u hu => by
          have := hat.2 k u hu
          rw [add_lit, Nat.add_assoc] at this
          exact this) ho hcc hu hL S.ctx
        obtain ⟨w', hr, hst⟩ := hrun a ha
        refine .inr (.inl ⟨w', hr, ⟨[], ⟨fun z hz => (by cases hz), ?_⟩⟩⟩)
        rw [List.append_nil]
        have hlen : l'.length = l.length := by obtain ⟨_, _, rfl⟩ := upd_some hu; simp
        have hst' : OwnTurned sz E R fx.U0 fx.X0 fx.w0 (Lof (kl its) κ) w (some ⟨b, pre.length, none⟩) c l' w' := by rw [Lof_kl]; exact hst
        exact ownTurned_st S.kill kl_any hki hci hn hlen hst'
    | _ => exact hokj.elim
  · cases hT
end
/-! ### A string's bytes -/
section
variable {P : Program} {N n0 : Nat} {fx : Fx} {its its' : List Item} {κ : List Conc} {w w0 : World} {tt : TT} {env : Env'} {l : Env} {d : Option Nat} {t : TypeId} {ps : String} {af : Array Edge} {g : Option (Nat × Bool)} {U0 : Nat → Prop} {X0 : List (Option Nat)} {L : List (Option Nat)}
theorem els_str (s : List UInt8) (U : Nat → Prop) (w : World) : Els 1 (RInt .u8) U w (s.map fun b => Value.int .u8 b.toNat) (s.map fun b => (b.toNat : Int)) := by
  induction s with
  | nil => rfl
  | cons b s ih => exact ⟨[.int .u8 b.toNat], _, rfl, rfl, rfl, ih⟩
theorem rw_s2b {src dst E : TypeId} {x : Operand} {s : ByteArray} {u : TypeDesc} {l' : List Int} (hbt : E = BT) (hu : P.underlying src = some u) (hd : P.underlying dst = some (.slice E)) (hE : P.underlying E = some (.int .u8)) (hx : ev l x = some (.string s)) (ha : app 1 ([] : List Int) (strOf s) = some l') (C : Ctx U0 X0 w0 L w) :
    RunW P N l ⟨d, .convert src dst x, t, ps, af, g⟩ w (OwnNew 1 E (RInt .u8) U0 X0 w0 L w [] (fun y => y :: L) l') := fun a haa => by
  obtain ⟨hb1, _, rfl⟩ := app_some ha
  rw [List.nil_append] at *
  have hlen : (strOf s).length = s.size := by
    unfold strOf
    rw [List.length_map, Go.ByteArray.toList_eq]
    exact Array.length_toList
  have hmax : s.size ≤ maxLen := by
    rw [hlen] at hb1
    simp only [maxLen]
    simp at hb1
    omega
  have hcap := grownCap_le_maxLen w s.size 0 E hmax
  have hge := grownCap_ge w s.size 0 E
  have hrun := Lib.run_convert_string_bytes (P := P) w src dst E s hu hd hE
  have hsz := Lib.bytesWorld_size w E s
  obtain ⟨C1, T1⟩ := C.addNone.1.turn (w' := Lib.bytesWorld w E s) (i := 0) (x := none) (y := some w.heap.size) (L' := some w.heap.size :: L) rfl rfl rfl rfl (by omega) (fun b hb _ => Lib.bytesWorld_at_old w E s b hb) (.inr (.inr ⟨rfl, by omega⟩)) rfl
  have hcs : (Lib.bytesCells w E s).size = grownCap w s.size 0 E := by
    unfold Lib.bytesCells
    rw [Array.size_append, Array.size_map, Array.size_replicate]
    show s.size + _ = _
    omega
  refine ⟨_, Lib.bytesWorld w E s, ?_, some ⟨w.heap.size, 0, none⟩, grownCap w s.size 0 E, by rw [hlen], ?_, C1, ⟨by omega, fun b hb _ => Lib.bytesWorld_at_old w E s b hb, fun b e => (by simp at e), fun b hb hM => ?_⟩⟩
  · simp only [execOp, haa.ev hx, Sem.run_bind, hrun, Result.andThen_ok]
    rfl
  · refine own_mk (.inr ⟨Nat.le_refl _, hbt⟩) (Lib.bytesWorld_at_new w E s) (by rw [hlen]; exact hge) hcap (by rw [hcs, Nat.mul_one]) ?_
    have e : (Lib.bytesCells w E s).toList.take ((strOf s).length * 1) = s.data.toList.map fun b => Value.int .u8 b.toNat := by
      unfold Lib.bytesCells
      rw [Nat.mul_one, hlen, Array.toList_append, Array.toList_map]
      have : (s.data.toList.map fun b => Value.int IntKind.u8 b.toNat).length = s.size := by rw [List.length_map]; exact Array.length_toList
      rw [← this]
      exact List.take_left
    rw [e]
    unfold strOf
    rw [Go.ByteArray.toList_eq]
    exact els_str _ _ _
  · have := T1.mono b hb hM
    rcases this with h | h
    · exact .inl h
    · exact .inr (by simpa using h)
/-- A string that is at hand. -/
inductive StrV (its : List Item) (s : List Int) : SV → Prop
  | t {j : Nat} (h : its[j]? = some (.str s)) : StrV its s (vt j)
  | c {b : ByteArray} (h : strOf b = s) : StrV its s (.c (.v (.string b)))
theorem e_s2b (htt : TTOk P tt) {src dst E : TypeId} {x : Operand} {v : SV} {s l' : List Int} (hx : evS env x = some v) (hs : StrV its s v) (ha : app 1 ([] : List Int) s = some l')
    (hT : (match lkT src tt, lkT dst tt, lkT E tt with
      | some ⟨.string, _, _, _, _⟩, some ⟨.slice E', _, _, _, _⟩, some ⟨.int .u8, _, _, _, _⟩ => Nat.beq E' E && Nat.beq E 5 && !its.any Item.ow
      | _, _, _ => false) = true) : Eff P N n0 fx env its ⟨d, .convert src dst x, t, ps, af, g⟩ (some (vs its.length)) (its ++ [.own 1 E (RInt .u8) l']) := fun κ w S a haa => by
  split at hT
  · rename_i E' _ _ _ _ _ _ _ _ _ _ _ _ h1 h2 h3
    simp only [Bool.and_eq_true, Bool.not_eq_true', Nat.beq_eq] at hT
    obtain ⟨⟨rfl, hbt⟩, how⟩ := hT
    have hx' := evS_den (κ := κ) hx
    have hb : ∃ b : ByteArray, v.den κ = .string b ∧ strOf b = s := by
      cases hs with
      | @t j h =>
        obtain ⟨c, hc, hok⟩ := S.conc h
        cases c with
        | s b => exact ⟨b, by simp [SV.den, Cell.den, hc], hok⟩
        | _ => exact hok.elim
      | @c b h => exact ⟨b, rfl, h⟩
    obtain ⟨b, hb1, rfl⟩ := hb
    rw [hb1] at hx'
    exact Does.of_runW (rw_s2b hbt (htt.get h1).und (htt.get h2).und (htt.get h3).und hx' ha S.ctx) haa fun v w' hk => newOwn_st S how hk
  · cases hT
end
/-! ### Shorter steps -/
section
variable {P : Program} {N n0 : Nat} {fx : Fx} {its its' : List Item} {itsK : KI} {κ1 : List Conc} {env : Env'} {tt : TT} {ops : Array Oper} {Kn : Act → World → Prop} {Ke : Nat → Act → World → Prop} {Kr : Act → World → Prop} {bs : List Bool} {fuel : Nat} {rest : List Oper}
theorem SW.f {ks : KB} {d : Nat} {oi : Oper} {v : SV} (D : DK ks itsK κ1) (i : Nat) (bs' : List Bool) (hi : ops[i]? = some oi) (hg : oi.guard = none) (hd : oi.dst = some d) (he : Eff P N n0 fx env its oi (some v) its')
    (hk : SD P ops Kn ks itsK κ1 fuel bs' N n0 fx ((d, v) :: env) its') (hN : (Nat.blt d N && v.lt its'.length) = true := by as_aux_lemma => kernel_rfl) (hb : bs.set i true = bs' := by rfl) (hK : mkQ ks bs' its' = slQ ks itsK bs' := by as_aux_lemma => kernel_rfl) : SW P ops Kn ks itsK κ1 fuel bs N n0 fx env its i := SW.eff D hi (.inl hg) hd he hN hb hK hk
theorem SW.v {ks : KB} {d : Nat} {oi : Oper} (D : DK ks itsK κ1) (i : Nat) (v : SV) (bs' : List Bool) (hi : ops[i]? = some oi) (hg : oi.guard = none) (hd : oi.dst = some d) (he : Eff P N n0 fx env its oi (some v) its')
    (hk : SD P ops Kn ks itsK κ1 fuel bs' N n0 fx ((d, v) :: env) its') (hN : (Nat.blt d N && v.lt its'.length) = true := by as_aux_lemma => kernel_rfl) (hb : bs.set i true = bs' := by rfl) (hK : mkQ ks bs' its' = slQ ks itsK bs' := by as_aux_lemma => kernel_rfl) : SW P ops Kn ks itsK κ1 fuel bs N n0 fx env its i := SW.eff D hi (.inl hg) hd he hN hb hK hk
theorem SW.w (htt : TTOk P tt) {ks : KB} {d : Nat} {op : Op} {t : TypeId} {ps : String} {af : Array Edge} (D : DK ks itsK κ1) (i : Nat) (v : SV) (bs' : List Bool) (hi : ops[i]? = some ⟨some d, op, t, ps, af, none⟩) (hk : SD P ops Kn ks itsK κ1 fuel bs' N n0 fx ((d, v) :: env) its) (hv : sv1 tt (fun _ => true) its (evS env) op = some v := by as_aux_lemma => kernel_rfl)
    (hN : (Nat.blt d N && v.lt its.length) = true := by as_aux_lemma => kernel_rfl) (hb : bs.set i true = bs' := by rfl) (hK : mkQ ks bs' its = slQ ks itsK bs' := by as_aux_lemma => kernel_rfl) : SW P ops Kn ks itsK κ1 fuel bs N n0 fx env its i := SW.eff D hi (.inl rfl) rfl (e_val htt hv) hN hb hK hk
theorem SD.t {ks : KB} (htt : TTOk P tt) (D : DK ks itsK κ1) (is : List Nat) (bs' : List Bool) (env' : Env') {fuel' : Nat} (hk : SD P ops Kn ks itsK κ1 fuel' bs' N n0 fx env' its) (hf : fuel = fuel' + is.length := by rfl) (hsel : Region.noSelect ops = true := by as_aux_lemma => kernel_rfl) (hK : mkQ ks bs its = slQ ks itsK bs := by as_aux_lemma => kernel_rfl)
    (h : takeT N tt [] ks.2.2 itsK its.length ops is [] bs env (env'.map (·.1)) = some (bs', env', [], []) := by as_aux_lemma => kernel_rfl) : SD P ops Kn ks itsK κ1 fuel bs N n0 fx env its := SD.takes htt D [] kn0 is [] [] bs' env' hf hsel hK h hk
def kv (t : Nat) (env : Env') : SV := match lkE t env with
  | some v => v
  | none => .u []
def kp : List Nat → Env' → Env' → Env'
  | [], _, new => new
  | t :: ts, env, new => (t, kv t env) :: kp ts env new
theorem SL.d (htt : TTOk P tt) (k : Nat) (ts : List Nat) (new : Env') (ch : List (Nat × TypeId × List Cell)) (evs : List Evi) (q : List Int) (hk : SL P ops (rest.drop k) Kn N n0 fx (kp ts env new) (ch.foldl (fun i c => setB i c.1 c.2.1 c.2.2) its))
    (h : simT N tt (fun _ => true) ops (rest.take k) evs env its ((kp ts env new).map (·.1)) = some (kp ts env new, ch.foldl (fun i c => setB i c.1 c.2.1 c.2.2) its, q, q) := by as_aux_lemma => kernel_rfl) : SL P ops rest Kn N n0 fx env its := SL.sim htt k _ ch evs q h hk
theorem SC.d (htt : TTOk P tt) {id : Nat} {os : List Oper} {y : Code} (ts : List Nat) (new : Env') (ch : List (Nat × TypeId × List Cell)) (evs : List Evi) (q : List Int) (hk : SC P y Kn Ke Kr N n0 fx (kp ts env new) (ch.foldl (fun i c => setB i c.1 c.2.1 c.2.2) its))
    (h : simT N tt (fun _ => true) os.toArray os evs env its ((kp ts env new).map (·.1)) = some (kp ts env new, ch.foldl (fun i c => setB i c.1 c.2.1 c.2.2) its, q, q) := by as_aux_lemma => kernel_rfl) : SC P (.seq (.region id os.toArray false) y) Kn Ke Kr N n0 fx env its := SC.r htt _ ch evs q h hk
theorem SL.n (htt : TTOk P tt) (k : Nat) (ts : List Nat) (new : Env') (hk : SL P ops (rest.drop k) Kn N n0 fx (kp ts env new) its) (h : simT N tt (fun _ => true) ops (rest.take k) [] env its ((kp ts env new).map (·.1)) = some (kp ts env new, its, [], []) := by as_aux_lemma => kernel_rfl) : SL P ops rest Kn N n0 fx env its := SL.sim htt k _ [] [] [] h hk
theorem SC.n (htt : TTOk P tt) {id : Nat} {os : List Oper} {y : Code} (ts : List Nat) (new : Env') (hk : SC P y Kn Ke Kr N n0 fx (kp ts env new) its) (h : simT N tt (fun _ => true) os.toArray os [] env its ((kp ts env new).map (·.1)) = some (kp ts env new, its, [], []) := by as_aux_lemma => kernel_rfl) : SC P (.seq (.region id os.toArray false) y) Kn Ke Kr N n0 fx env its := SC.r htt _ [] [] [] h hk
theorem SD.d {ks : KB} (htt : TTOk P tt) (D : DK ks itsK κ1) (kn : List (Nat × Bool)) (hkn : KnOK kn env) (is : List Nat) (evs : List Evi) (q : List Int) (bs' : List Bool) (ts : List Nat) (new : Env') {fuel' : Nat} (hk : SD P ops Kn ks itsK κ1 fuel' bs' N n0 fx (kp ts env new) its) (hf : fuel = fuel' + is.length := by rfl) (hsel : Region.noSelect ops = true := by as_aux_lemma => kernel_rfl) (hK : mkQ ks bs its = slQ ks itsK bs := by as_aux_lemma => kernel_rfl)
    (h : takeT N tt kn ks.2.2 itsK its.length ops is evs bs env ((kp ts env new).map (·.1)) = some (bs', kp ts env new, q, q) := by as_aux_lemma => kernel_rfl) : SD P ops Kn ks itsK κ1 fuel bs N n0 fx env its := SD.takes htt D kn hkn is evs q bs' _ hf hsel hK h hk
theorem SD.n {ks : KB} (htt : TTOk P tt) (D : DK ks itsK κ1) (is : List Nat) (bs' : List Bool) (ts : List Nat) (new : Env') {fuel' : Nat} (hk : SD P ops Kn ks itsK κ1 fuel' bs' N n0 fx (kp ts env new) its) (hf : fuel = fuel' + is.length := by rfl) (hsel : Region.noSelect ops = true := by as_aux_lemma => kernel_rfl) (hK : mkQ ks bs its = slQ ks itsK bs := by as_aux_lemma => kernel_rfl)
    (h : takeT N tt [] ks.2.2 itsK its.length ops is [] bs env ((kp ts env new).map (·.1)) = some (bs', kp ts env new, [], []) := by as_aux_lemma => kernel_rfl) : SD P ops Kn ks itsK κ1 fuel bs N n0 fx env its := SD.takes htt D [] kn0 is [] [] bs' _ hf hsel hK h hk
/-- Runs of sources. -/
def gr : List (Nat × Nat) → List Jx
  | [] => []
  | (a, n) :: r => (List.range n).map (fun i => Jx.g (a + i)) ++ gr r
theorem SL.f {d : Nat} {op : Op} {t : TypeId} {ps : String} {af : Array Edge} {v : SV} (h : Eff P N n0 fx env its ⟨some d, op, t, ps, af, none⟩ (some v) its') (hk : SL P ops rest Kn N n0 fx ((d, v) :: env) its') (hd : Nat.blt d N = true := by rfl) (hv : v.lt its'.length = true := by as_aux_lemma => kernel_rfl) : SL P ops (⟨some d, op, t, ps, af, none⟩ :: rest) Kn N n0 fx env its := SL.eff h hd hv hk
theorem A.t {a : Act} {w : World} {env' : Env'} (h : A N n0 fx env its a w) (js : List Jx) (e : (renE js env', renIs js its', vwB n0 its.length js env' its' (lkEs env env') (srcs its js its')) = (lkEs env env', srcs its js its', true) := by as_aux_lemma => kernel_rfl) : A N n0 fx env' its' a w := h.at e
theorem SC.q {fn : Func} {rs : SV} (htt : TTOk P tt) (js : List Jx) (e : ((renS js rs, (renS js rs).isSome), renIs js its', vwB n0 its.length js [(0, rs)] its' (some []) (srcs its js its')) = (((resS tt env its fn.results.toList).bind retS, true), srcs its js its', true) := by as_aux_lemma => kernel_rfl) : SC P .ret Kn Ke (RetE P fn n0 fx rs its') N n0 fx env its := SC.re htt e
theorem SC.j {c : Operand} {x y : Code} {α : Type} {e : Bool} {X Y : Option α} {r : α} (hp : (if e = true then X else Y) = some r) (ht : X = some r → SC P x Kn Ke Kr N n0 fx env its) (hf : Y = some r → SC P y Kn Ke Kr N n0 fx env its) (hc : evS env c = some (vb e) := by as_aux_lemma => kernel_rfl) : SC P (.cond c x y) Kn Ke Kr N n0 fx env its := SC.if' hc hp ht hf
theorem SD.w {ks : KB} {env' : Env'} (D : DK ks itsK κ1) (js : List Jx) (hk : SD P ops Kn ks itsK κ1 fuel bs N n0 fx env' its') (e : (preB itsK.1.length js, renE js env', renIs js its', vwB n0 its.length js env' its' (lkEs env env') (srcs its js its')) = (true, lkEs env env', srcs its js its', true) := by as_aux_lemma => kernel_rfl) : SD P ops Kn ks itsK κ1 fuel bs N n0 fx env its := SD.view D js hk e
theorem bB (b : Bool) : b = true ∨ b = false := Bool.eq_false_or_eq_true b
theorem SL.m (htt : TTOk P tt) (k : Nat) (env' : Env') (hk : SL P ops (rest.drop k) Kn N n0 fx env' its) (h : simT N tt (fun _ => true) ops (rest.take k) [] env its (env'.map (·.1)) = some (env', its, [], []) := by as_aux_lemma => kernel_rfl) : SL P ops rest Kn N n0 fx env its := SL.sim htt k env' [] [] [] h hk
theorem SC.m (htt : TTOk P tt) {id : Nat} {os : List Oper} {y : Code} (env' : Env') (hk : SC P y Kn Ke Kr N n0 fx env' its) (h : simT N tt (fun _ => true) os.toArray os [] env its (env'.map (·.1)) = some (env', its, [], []) := by as_aux_lemma => kernel_rfl) : SC P (.seq (.region id os.toArray false) y) Kn Ke Kr N n0 fx env its := SC.r htt env' [] [] [] h hk
theorem SC.s {id : Nat} {os : List Oper} {y : Code} (h : SL P os.toArray os (fun a w => wp3 P fx.px y Kn Ke Kr a w) N n0 fx env its) : SC P (.seq (.region id os.toArray false) y) Kn Ke Kr N n0 fx env its := SC.seq (SC.reg h)
end
end V
end Go.Proofs.YtladkmnfmpojiaaGreatDoor
namespace Go.Proofs.YtladkmnfmpojiaaGreatDoor
namespace V
section
variable {P : Program} {N n0 : Nat} {fx : Fx} {its its' : List Item} {κ : List Conc} {w : World} {env env' : Env'} {tt : TT} {Kn : Act → World → Prop} {Ke : Nat → Act → World → Prop} {Kr : Act → World → Prop}
/-! ### A loop, round by round -/
def Rd (P : Program) (px : Value → World → Prop) (c : Code) (Ke : Nat → Act → World → Prop) (Kr : Act → World → Prop) (m : Nat) (a : Act) (w : World) : Prop := Code.rounds P c (post3 px (fun _ _ => False) Ke Kr) m a w
theorem SC.unr {c : Code} (m : Nat) (h : ∀ a w, A N n0 fx env its a w → Rd P fx.px c Ke Kr m a w) : SC P (.loop c) Kn Ke Kr N n0 fx env its := fun κ w S a ha =>
  wp_mono (wp_loop_rounds m (h a w ⟨κ, ha, S⟩)) fun e a w hq => by cases e <;> first | exact hq.elim | exact hq
theorem A.rd {c : Code} {m : Nat} {a : Act} (h : A N n0 fx env its a w) (hc : SC P c (Rd P fx.px c Ke Kr m) Ke Kr N n0 fx env its) : Rd P fx.px c Ke Kr (m + 1) a w := by
  obtain ⟨κ, h1, h2⟩ := h
  refine wp_mono (hc κ w h2 a h1) fun e a w hq => ?_
  cases e <;> exact hq

theorem Rd.lay {px : Value → World → Prop} {c : Code} {m : Nat} {Q0 : Act → World → Prop} (m' : Nat) (Q : Act → World → Prop) (h : ∀ a w, Q a w → Rd P px c Ke Kr m' a w) (k : (∀ a w, Q a w → Rd P px c Ke Kr m' a w) → ∀ a w, Q0 a w → Rd P px c Ke Kr m a w) : ∀ a w, Q0 a w → Rd P px c Ke Kr m a w := k h

/-! ### Elements of an array -/
def arrI (tt : TT) (ty : TypeId) (iv : Int) (o : Nat) : Option Nat := match lkT ty tt with
  | some ⟨.array n e, _, _, _, _⟩ => (match lkT e tt with
    | some te => (match decide (0 ≤ iv), decide (iv < n) with
      | true, true => some (o + iv.toNat * te.size)
      | _, _ => none)
    | none => none)
  | _ => none
theorem e_ixa (htt : TTOk P tt) {d : Option Nat} {t : TypeId} {ps : String} {af : Array Edge} {g : Option (Nat × Bool)} {ty T : TypeId} {x y : Operand} {k : IntKind} {iv : Int} {i o off : Nat} {cs : List Cell}
    (hx : evS env x = some (vp i o)) (hy : evS env y = some (vi k iv)) (hi : its[i]? = some (.blk T cs)) (ho : arrI tt ty iv o = some off) : Eff P N n0 fx env its ⟨d, .indexAddr ty x y, t, ps, af, g⟩ (some (vp i off)) its := fun κ w S a ha => by
  unfold arrI at ho
  split at ho
  · rename_i n e _ _ _ _ ht
    split at ho
    · rename_i te hte
      split at ho
      · rename_i h0 h1
        injection ho with ho
        have h0 := of_decide_eq_true h0
        have h1 := of_decide_eq_true h1
        obtain ⟨c, hc, hok⟩ := S.conc hi
        cases c with
        | b q =>
          have hx' := evS_den (κ := κ) hx
          have hy' := evS_den (κ := κ) hy
          simp only [SV.den, Cell.den, hc] at hx' hy'
          have hrun : (Instr.indexAt ty (.pointer (some ⟨q, o, none⟩)) (.int k iv)).run P w = .ok (.pointer (some ⟨q, off, none⟩)) w := by
            simp [Instr.indexAt, Instr.sureAddr, asIntOf, run_underlying (htt.get ht).und, h0, h1, (htt.get hte).size, Addr.add_lit, ho]
          refine .inl ⟨_, w, ?_, [], fun z hz => (by injection hz with hz; subst hz; rfl), by rw [List.append_nil]; exact S⟩
          simp only [execOp, ha.ev hx', ha.ev hy', Sem.run_bind, hrun, Result.andThen_ok, SV.den, Cell.den, List.append_nil, hc]
          rfl
        | _ => exact hok.elim
      · cases ho
    · cases ho
  · cases ho

/-- The same state, in part forgotten. -/
theorem pre_view {its' : List Item} (e : (renIs ((List.range its.length).map .g) its', vwB n0 its.length ((List.range its.length).map .g) env its' (some []) (srcs its ((List.range its.length).map .g) its')) = (srcs its ((List.range its.length).map .g) its', true)) : Pre n0 fx env its its' := fun κ w S => by
  injection e with h1 h2
  refine ⟨[], ?_⟩
  have h := S.view h1 h2
  have hm : ((List.range its.length).map Jx.g).map (cJ κ) = κ := by
    apply List.ext_getElem?
    intro i
    rw [List.getElem?_map, List.getElem?_map]
    by_cases hi : i < its.length
    · have h2 : i < κ.length := by rw [S.len]; exact hi
      rw [List.getElem?_range hi, List.getElem?_eq_getElem h2]
      simp [cJ, List.getElem?_eq_getElem h2]
    · have h2 : κ.length ≤ i := by rw [S.len]; omega
      rw [List.getElem?_eq_none (by simpa using hi), List.getElem?_eq_none h2]
      rfl
  rw [hm] at h
  rwa [List.append_nil]
/-! ### An array as a slice -/
theorem pre_gone {i : Nat} : Pre n0 fx env its (its.set i .gone) := fun κ w S => by
  refine ⟨[], ?_⟩
  rw [List.append_nil]
  have hL : ∀ (j b : Nat), (Lof (its.set i .gone) κ)[j]? = some (some b) → (Lof its κ)[j]? = some (some b) := by
    intro j b h
    obtain ⟨it, c, h1, h2, h3⟩ := Lof_inv h
    by_cases e : j = i
    · subst e
      rw [List.getElem?_set] at h1
      split at h1
      · split at h1
        · injection h1 with h1; subst h1; cases c <;> cases h3
        · cases h1
      · rw [Lof_get h1 h2, h3]
    · rw [List.getElem?_set_ne (fun h => e h.symm)] at h1
      rw [Lof_get h1 h2, h3]
  have hmem : ∀ b, some b ∈ Lof (its.set i .gone) κ → some b ∈ Lof its κ := by
    intro b hb
    obtain ⟨j, hj⟩ := List.getElem?_of_mem hb
    exact List.mem_of_getElem? (hL j b hj)
  refine ⟨by simp [S.len], S.pre, S.n0, by simpa using S.sce, ?_, S.ctx.of id hL (fun _ _ _ _ _ e => e), fun j it c' h1 h2 => ?_⟩
  · unfold scI
    rw [List.length_set, List.all_eq_true]
    intro it hit
    have hs := S.sci
    unfold scI at hs
    rw [List.all_eq_true] at hs
    rcases List.mem_or_eq_of_mem_set hit with h | h
    · exact hs _ h
    · subst h; rfl
  · by_cases e : j = i
    · subst e
      rw [List.getElem?_set] at h1
      split at h1
      · split at h1
        · injection h1 with h1; subst h1; cases c' <;> trivial
        · cases h1
      · rename_i hne; exact absurd rfl hne
    · rw [List.getElem?_set_ne (fun h => e h.symm)] at h1
      have hlt : it.lt κ.length = true := by
        have := S.sci
        unfold scI at this
        rw [List.all_eq_true] at this
        rw [S.len]
        exact this _ (List.mem_of_getElem? h1)
      have h4 := OK.ext (κx := []) hlt (Mu.weaken hmem) (S.ok j it c' h1 h2)
      rwa [List.append_nil] at h4
def arrL (cs : List Cell) : Option (List Int) := cs.mapM fun c => match c with
  | .v (.int .u8 x) => some x
  | _ => none
theorem arrL_els : ∀ {cs : List Cell} {l : List Int} {κ : List Conc} {U : Nat → Prop} {w : World}, arrL cs = some l → Els 1 (RInt .u8) U w (cs.map (Cell.den κ)) l
  | [], l, κ, U, w, h => by simp [arrL] at h; subst h; rfl
  | c :: cs, l, κ, U, w, h => by
    unfold arrL at h
    rw [List.mapM_cons] at h
    simp only [bind, Option.bind_eq_some_iff, pure, Option.some.injEq] at h
    obtain ⟨x, hx, l', hl, rfl⟩ := h
    split at hx
    · injection hx with hx; subst hx
      exact ⟨[.int .u8 _], _, rfl, rfl, rfl, arrL_els hl⟩
    · cases hx
theorem arrL_len : ∀ {cs : List Cell} {l : List Int}, arrL cs = some l → l.length = cs.length
  | [], l, h => by simp [arrL] at h; subst h; rfl
  | c :: cs, l, h => by
    unfold arrL at h
    rw [List.mapM_cons] at h
    simp only [bind, Option.bind_eq_some_iff, pure, Option.some.injEq] at h
    obtain ⟨x, hx, l', hl, rfl⟩ := h
    rw [List.length_cons, List.length_cons, arrL_len hl]
def arrN (tt : TT) (ty : TypeId) (cs : List Cell) : Bool := match lkT ty tt with
  | some ⟨.array n e, _, _, _, _⟩ => (match lkT e tt with
    | some ⟨.int .u8, false, 1, _, _⟩ => Nat.beq n cs.length && Nat.ble n 1000000
    | _ => false)
  | _ => false
theorem e_arrs (htt : TTOk P tt) {d : Option Nat} {t : TypeId} {ps : String} {af : Array Edge} {g : Option (Nat × Bool)} {ty T : TypeId} {x : Operand} {i : Nat} {cs : List Cell} {l : List Int}
    (hx : evS env x = some (vp i 0)) (hi : its[i]? = some (.blk T cs)) (hl : arrL cs = some l) (hn : arrN tt ty cs = true) : Eff P N n0 fx env its ⟨d, .slice ty x none none none, t, ps, af, g⟩ (some (vs its.length)) (its.set i .gone ++ [.rd 1 (RInt .u8) l]) := fun κ w S a ha => by
  unfold arrN at hn
  split at hn
  · rename_i n e _ _ _ _ ht
    split at hn
    · rename_i hte
      simp only [Bool.and_eq_true] at hn
      obtain ⟨hn1, hn2⟩ := hn
      have hn1 := Nat.eq_of_beq_eq_true hn1
      have hn2 := Nat.le_of_ble_eq_true hn2
      obtain ⟨c, hc, hok⟩ := S.conc hi
      cases c with
      | b q =>
        have hx' := evS_den (κ := κ) hx
        simp only [SV.den, Cell.den, hc] at hx'
        have hsz := (htt.get hte).size w
        simp only at hsz
        have hrun : (Instr.sliceAt ty (.pointer (some ⟨q, 0, none⟩)) none none none).run P w = .ok (.slice (some ⟨q, 0, none⟩) n n) w := by
          simp [Instr.sliceAt, Instr.sureAddr, run_underlying (htt.get ht).und, Instr.sliceBounds, hsz, Addr.add_lit]
        obtain ⟨κx, S1⟩ := pre_gone (i := i) κ w S
        have hκx : κx = [] := by
          have h1 := S1.len
          rw [List.length_append, List.length_set, S.len] at h1
          exact List.eq_nil_of_length_eq_zero (by omega)
        subst hκx
        rw [List.append_nil] at S1
        have hll := arrL_len hl
        have hLq := Lof_get hi hc
        have hnm : ¬ Mu fx.U0 (Lof (its.set i .gone) κ) q := by
          rintro (h | h)
          · exact (S.ctx.live q (List.mem_of_getElem? hLq)).2.1 h
          · obtain ⟨j, hj⟩ := List.getElem?_of_mem h
            obtain ⟨it, c', h1, h2, h3⟩ := Lof_inv hj
            by_cases e : j = i
            · subst e
              rw [List.getElem?_set] at h1
              split at h1
              · split at h1
                · injection h1 with h1; subst h1; cases c' <;> cases h3
                · cases h1
              · rename_i hne; exact absurd rfl hne
            · rw [List.getElem?_set_ne (fun h => e h.symm)] at h1
              have h4 := Lof_get h1 h2
              rw [h3] at h4
              exact S.ctx.sep j i q e h4 hLq
        refine .inl ⟨.slice (some ⟨q, 0, none⟩) l.length l.length, w, ?_, [.r (some ⟨q, 0, none⟩) l.length l.length], fun z hz => ?_, S1.more rfl (one_get (P := fun (it : Item) (c : Conc) => own1 it c = none) rfl) rfl (one_get (P := fun (it : Item) (c : Conc) => OK _ _ w it c) ⟨rfl, Nat.le_refl _, ?_, cs.map (Cell.den κ), arrL_els hl, fun j u hu => ⟨_, rfl, hnm, ?_⟩⟩)⟩
        · simp only [execOp, ha.ev hx', Sem.run_bind, Option.map_none, hrun, Result.andThen_ok, hll, ← hn1]
          rfl
        · injection hz with hz
          subst hz
          simp only [SV.den, Cell.den]
          rw [List.getElem?_append_right (by rw [S.len]; exact Nat.le_refl _), S.len]
          simp [hll]
        · simp only [maxLen]; omega
        · have := hok.cell j
          rw [Addr.add_lit, Nat.zero_add, this]
          exact hu
      | _ => exact hok.elim
    · cases hn
  · cases hn

/-! ### Arrays compared -/
def eqL : List Cell → List Cell → Option (List Bool)
  | [], [] => some []
  | .v (.int k a) :: cs, .v (.int k' b) :: ds => (match keq k k', eqL cs ds with
    | true, some r => some ((a == b) :: r)
    | _, _ => none)
  | _, _ => none
def arrE (tt : TT) (ty : TypeId) (cs : List Cell) : Bool := match lkT ty tt with
  | some ⟨.array n e, _, _, _, _⟩ => (match lkT e tt with
    | some ⟨.int _, false, 1, _, _⟩ => Nat.beq n cs.length
    | _ => false)
  | _ => false
theorem eqItems_ok (htt : TTOk P tt) {e : TypeId} {q : IntKind} {z : Option Value} {by_ : Nat} (hte : lkT e tt = some ⟨.int q, false, 1, z, by_⟩) (D : Nat) {xs ys : Array Value} :
    ∀ (cs ds : List Cell) (r : List Bool) (j : Nat), eqL cs ds = some r → (∀ i : Nat, (xs.toList.drop j)[i]? = (cs.map (Cell.den κ))[i]?) → (∀ i : Nat, (ys.toList.drop j)[i]? = (ds.map (Cell.den κ))[i]?) →
      (Op.eqItems (D + 1) e 1 xs ys (List.range' j cs.length)).run P w = .ok (allB r) w
  | [], [], r, j, h, _, _ => by
    simp only [eqL, Option.some.injEq] at h
    subst h
    simp [Op.eqItems, allB]
  | [], _ :: _, r, j, h, _, _ => by simp [eqL] at h
  | c :: cs, [], r, j, h, _, _ => by
    cases c with
    | v x => cases x <;> simp [eqL] at h
    | _ => simp [eqL] at h
  | c :: cs, d :: ds, r, j, h, hx, hy => by
    have key : ∃ k a b r', c = .v (.int k a) ∧ d = .v (.int k b) ∧ eqL cs ds = some r' ∧ r = (a == b) :: r' := by
      unfold eqL at h
      split at h
      · rename_i heq _
        cases heq
      · rename_i k a cs' k' b ds' h1 h2
        injection h1 with h1 h1'
        injection h2 with h2 h2'
        subst h1 h1' h2 h2'
        split at h
        · rename_i r' hk hr
          have := keq_eq hk
          subst this
          injection h with h
          exact ⟨_, a, b, r', rfl, rfl, hr, h.symm⟩
        · cases h
      · cases h
    obtain ⟨k, a, b, r', rfl, rfl, hr, rfl⟩ := key
    have gx : xs.toList[j]? = some (.int k a) := by
      have := hx 0
      simpa [List.getElem?_drop, Cell.den] using this
    have gy : ys.toList[j]? = some (.int k b) := by
      have := hy 0
      simpa [List.getElem?_drop, Cell.den] using this
    have hp : ∀ (vs : Array Value) (v : Value), vs.toList[j]? = some v → (part e vs (j * 1)).run P w = .ok v w := fun vs v hv => by
      have hA := (htt.get hte).agg w
      simp only at hA
      unfold part
      have : vs[j]? = some v := by simpa using hv
      simp [Sem.run_bind, hA, this]
    have ih := eqItems_ok htt hte D (xs := xs) (ys := ys) cs ds r' (j + 1) hr (fun i => by
      have := hx (i + 1)
      simp only [List.getElem?_drop, List.map_cons, List.getElem?_cons_succ] at this ⊢
      rw [← this]
      congr 1
      omega) (fun i => by
      have := hy (i + 1)
      simp only [List.getElem?_drop, List.map_cons, List.getElem?_cons_succ] at this ⊢
      rw [← this]
      congr 1
      omega)
    rw [List.length_cons, List.range'_succ]
    simp only [Op.eqItems, Sem.run_bind, hp xs _ gx, hp ys _ gy, Result.andThen_ok, run_equalIn_int w D e k q a b (htt.get hte).und, allB_cons]
    cases a == b
    · simp
    · simpa using ih
theorem eqL_len : ∀ {cs ds : List Cell} {r : List Bool}, eqL cs ds = some r → ds.length = cs.length
  | [], [], _, _ => rfl
  | [], _ :: _, r, h => by simp [eqL] at h
  | c :: cs, [], r, h => by
    cases c with
    | v x => cases x <;> simp [eqL] at h
    | _ => simp [eqL] at h
  | c :: cs, d :: ds, r, h => by
    unfold eqL at h
    split at h
    · rename_i heq _
      cases heq
    · rename_i k a cs' k' b ds' h1 h2
      injection h1 with h1 h1'
      injection h2 with h2 h2'
      subst h1 h1' h2 h2'
      split at h
      · rename_i r' hk hr
        rw [List.length_cons, List.length_cons, eqL_len hr]
      · cases h
    · cases h
theorem e_eqa (htt : TTOk P tt) {d : Option Nat} {t : TypeId} {ps : String} {af : Array Edge} {g : Option (Nat × Bool)} {op : BinOp} {ty ty2 : TypeId} {x y : Operand} {cs ds : List Cell} (bs : List Bool) (v : Bool) (hx : evS env x = some (.g cs)) (hy : evS env y = some (.g ds)) (hg : P.eqGuardType P.depth ty = false)
    (ha : arrE tt ty cs = true) (he : eqL cs ds = some bs) (hv : (op = .eql ∧ allB bs = v) ∨ (op = .neq ∧ (!allB bs) = v)) :
    Eff P N n0 fx env its ⟨d, .binOp op ty x y ty2, t, ps, af, g⟩ (some (vb v)) its := fun κ w S a haa => by
  unfold arrE at ha
  split at ha
  · rename_i n e _ _ _ _ ht
    split at ha
    · rename_i q _ _ hte
      have ha := Nat.eq_of_beq_eq_true ha
      have hx' := evS_den (κ := κ) hx
      have hy' := evS_den (κ := κ) hy
      simp only [SV.den] at hx' hy'
      obtain ⟨info, z, hinf, hsz, _⟩ := (htt.get hte).info
      have hco : P.cellsOf e = 1 := by
        unfold Program.cellsOf
        rw [hinf]
        exact hsz
      have hr : (Op.equalIn (9999 + 1) ty (.agg (cs.map (Cell.den κ)).toArray) (.agg (ds.map (Cell.den κ)).toArray)).run P w = .ok (allB bs) w := by
        rw [run_equalIn_array w 9999 _ _ (htt.get ht).und hinf, hco, List.range_eq_range', ha]
        exact eqItems_ok (κ := κ) htt hte 9998 cs ds bs 0 he (fun i => by simp) (fun i => by simp)
      have hguard : ∀ o : BinOp, (eqGuard o ty x y (Value.agg (cs.map (Cell.den κ)).toArray) (Value.agg (ds.map (Cell.den κ)).toArray)).run P w = .ok () w := by
        intro o
        unfold eqGuard
        cases o <;> simp [hg, Go.program, Sem.run]
      refine .inl ⟨_, w, ?_, [], fun z hz => (by injection hz with hz; subst hz; rfl), by rw [List.append_nil]; exact S⟩
      rcases hv with ⟨rfl, hv⟩ | ⟨rfl, hv⟩
      · simp only [execOp, haa.ev hx', haa.ev hy', Sem.run_bind, hguard, Result.andThen_ok, binOp, Op.equal, Op.maxDepth, hr, Sem.run_pure]
        rw [hv]
        rfl
      · simp only [execOp, haa.ev hx', haa.ev hy', Sem.run_bind, hguard, Result.andThen_ok, binOp, Op.equal, Op.maxDepth, hr, Sem.run_pure]
        rw [hv]
        rfl
    · cases ha
  · cases ha

end
end V
end Go.Proofs.YtladkmnfmpojiaaGreatDoor
namespace Go.Proofs.YtladkmnfmpojiaaGreatDoor
namespace V
section
variable {P : Program} {N n0 : Nat} {fx : Fx} {its its' : List Item} {κ : List Conc} {w : World} {tt : TT} {env : Env'} {α : Type} {sz : Nat} {E : TypeId} {R : RT α} [GRep R] {d : Option Nat} {t : TypeId} {ps : String} {af : Array Edge} {g : Option (Nat × Bool)}
/-- The place of an element. -/
theorem e_ixp (htt : TTOk P tt) {ty : TypeId} {x y : Operand} {i by_ : Nat} {k : IntKind} {iv : Int} {l : List α} {e : α} (hx : evS env x = some (vs i)) (hi : its[i]? = some (.own sz E R l)) (hy : evS env y = some (vi k iv)) (he : idx l iv = some e) (hT : TRow tt ty E sz by_ = true) :
    Eff P N n0 fx env its ⟨d, .indexAddr ty x y, t, ps, af, g⟩ (some (vp i (iv.toNat * sz))) its := fun κ w S a haa => by
  obtain ⟨hu, _, hpos, hs⟩ := trow_get htt hT
  obtain ⟨c, hc, hok⟩ := S.conc hi
  cases c with
  | r A n c =>
    obtain ⟨hn, ho⟩ := hok
    subst hn
    have hx' := evS_den (κ := κ) hx
    simp only [SV.den, Cell.den, hc] at hx'
    obtain ⟨b, o, es, rfl, hr, _, _, _⟩ := ix_own (P := P) (N := N) hu hs hx' (evS_den hy) ho he
    refine .inl ⟨_, w, hr a haa, [], fun z hz => ?_, by rw [List.append_nil]; exact S⟩
    injection hz with hz
    subst hz
    simp only [SV.den, Cell.den, List.append_nil, hc, add_lit]
  | _ => exact hok.elim
/-- A whole element is loaded from its place. -/
theorem e_ldp [GOpen R] (htt : TTOk P tt) {ty : TypeId} {x : Operand} {i : Nat} {iv : Int} {l : List α} {e : α} (hx : evS env x = some (vp i (iv.toNat * sz))) (hi : its[i]? = some (.own sz E R l)) (he : idx l iv = some e) (hpos : (Nat.blt 0 sz && !its.any Item.ow) = true)
    (hT : (match lkT ty tt with
      | some ti => ti.agg && Nat.beq ti.size sz
      | none => false) = true) (_ : ((GOpen.its R e).any Item.ow) = false) :
    Eff P N n0 fx env its ⟨d, .load ty x, t, ps, af, g⟩ (some (.g (GOpen.cells R e (its.length + 1)))) (kl (its ++ (.elt (some (i, iv)) true (GOpen.cells R e (its.length + 1)) :: GOpen.its R e))) := fun κ w S a haa => by
  simp only [Bool.and_eq_true, Bool.not_eq_true'] at hpos
  obtain ⟨hpos, how⟩ := hpos
  split at hT
  · rename_i ti ht
    simp only [Bool.and_eq_true, Nat.beq_eq] at hT
    obtain ⟨hag, hsz⟩ := hT
    obtain ⟨c, hc, hok⟩ := S.conc hi
    cases c with
    | r A n c =>
      obtain ⟨hn, ho⟩ := hok
      obtain ⟨h0, h1, hxx⟩ := idx_some he
      rcases own_form ho with ⟨rfl, rfl, rfl⟩ | ⟨b, pre, cur, post, fz, rfl, _, hg, _, _, hsize, hes⟩
      · simp at hxx
      obtain ⟨e1, hl1, hr, hcell⟩ := Els.get l _ iv.toNat e hes hxx
      have hpos' : 0 < sz := by simpa [Nat.blt_eq] using hpos
      have hne : e1 ≠ [] := fun q => by rw [q] at hl1; simp at hl1; omega
      have hcl : ∀ j u, e1[j]? = some u → w.cell? (((⟨b, pre.length, none⟩ : Addr).add (iv.toNat * sz)).add j) = some u := by
        intro j u hu
        have := hcell j u hu
        rw [add_add, add_lit]
        rw [List.getElem?_take] at this
        split at this
        · have hj := (List.getElem?_eq_some_iff.1 this).1
          simp only [World.cell?, hg]
          rw [← this, ← row_get (pre := pre) (post := post) hj]
          simp
        · cases this
      have hat : At (fun b => true = false ∧ Mu fx.U0 (Lof its κ) b) w ((⟨b, pre.length, none⟩ : Addr).add (iv.toNat * sz)) e1 := ⟨fun h => (by cases h.1), hcl⟩
      obtain ⟨κx, S'⟩ := el_more (ow := true) S hat hne hr (List.getElem?_eq_some_iff.1 hi).1 ⟨_, n, c, hc, by rw [hl1], h0, by omega⟩
      have hx' := evS_den (κ := κ) hx
      simp only [SV.den, Cell.den, hc] at hx'
      have hrun := rv_loadAN (P := P) (N := N) (d := d) (t := t) (ps := ps) (af := af) (g := g) (o := 0) (n := sz) (vs := e1) (ty := ty) (l := denE κ env) (x := x) (w := w) (ad := (⟨b, pre.length, none⟩ : Addr).add (iv.toNat * sz)) (es := e1) (U := fun b => true = false ∧ Mu fx.U0 (Lof its κ) b) (fun w => by have := (htt.get ht).agg w; rw [hag] at this; exact this) (fun w => by have := (htt.get ht).size w; rw [hsz] at this; exact this) (by rw [hx', add_add]; rfl) hat (by rw [List.drop_zero, List.take_of_length_le (by omega)]) hl1
      refine .inl ⟨_, w, hrun a haa, κx, fun z hz => ?_, S'.kill⟩
      injection hz with hz
      subst hz
      -- the element's cells, described
      obtain ⟨c', hc', hok'⟩ := S'.conc (i := its.length) (by rw [List.getElem?_append_right (Nat.le_refl _), Nat.sub_self]; rfl)
      cases c' with
      | a ad =>
        obtain ⟨hat', _, A', n', c2, hA', had, _, _⟩ := hok'
        have hil := (List.getElem?_eq_some_iff.1 hc).1
        rw [List.getElem?_append_left hil, hc] at hA'
        injection hA' with hA'
        injection hA' with hA' _ _
        injection hA' with hA'
        subst hA'
        have hlen : (GOpen.cells R e (its.length + 1)).length = e1.length := by
          obtain ⟨κs, k1, k2, _⟩ := GOpen.op hr
          have q1 := congrArg List.length (k2 (κ ++ [.a ad]))
          rw [List.length_append, List.length_singleton, S.len, List.length_map] at q1
          exact q1.symm
        have hcs : e1 = (GOpen.cells R e (its.length + 1)).map (Cell.den (κ ++ κx)) := by
          refine List.ext_getElem? fun k => ?_
          by_cases hk : k < e1.length
          · obtain ⟨u, hu⟩ : ∃ u, ((GOpen.cells R e (its.length + 1)).map (Cell.den (κ ++ κx)))[k]? = some u := ⟨_, List.getElem?_eq_getElem (by rw [List.length_map, hlen]; exact hk)⟩
            have q3 := hat'.2 k u hu
            have q4 := hcl k _ (List.getElem?_eq_getElem hk)
            rw [had, hlen, hl1, q4] at q3
            rw [hu, List.getElem?_eq_getElem hk]
            exact q3
          · rw [List.getElem?_eq_none (by omega), List.getElem?_eq_none (by rw [List.length_map, hlen]; omega)]
        rw [hcs]
        rfl
      | _ => exact hok'.elim
    | _ => exact hok.elim
  · cases hT
/-- An element of one cell is loaded from its place. -/
theorem e_ldp1 [GOpen R] (htt : TTOk P tt) {ty : TypeId} {x : Operand} {i : Nat} {iv : Int} {l : List α} {e : α} {cc : Cell} (hx : evS env x = some (vp i (iv.toNat * 1))) (hi : its[i]? = some (.own 1 E R l)) (he : idx l iv = some e) (hcc : GOpen.cells R e (its.length + 1) = [cc]) (hpos : (!its.any Item.ow) = true)
    (hT : (match lkT ty tt with
      | some ti => !ti.agg
      | none => false) = true) (_ : ((GOpen.its R e).any Item.ow) = false) :
    Eff P N n0 fx env its ⟨d, .load ty x, t, ps, af, g⟩ (some (.c cc)) (kl (its ++ (.elt (some (i, iv)) true (GOpen.cells R e (its.length + 1)) :: GOpen.its R e))) := fun κ w S a haa => by
  have how : its.any Item.ow = false := by simpa using hpos
  split at hT
  · rename_i ti ht
    have hag : ti.agg = false := by simpa using hT
    obtain ⟨c, hc, hok⟩ := S.conc hi
    cases c with
    | r A n c =>
      obtain ⟨hn, ho⟩ := hok
      obtain ⟨h0, h1, hxx⟩ := idx_some he
      rcases own_form ho with ⟨rfl, rfl, rfl⟩ | ⟨b, pre, cur, post, fz, rfl, _, hg, _, _, hsize, hes⟩
      · simp at hxx
      obtain ⟨e1, hl1, hr, hcell⟩ := Els.get l _ iv.toNat e hes hxx
      obtain ⟨u1, hu1⟩ : ∃ u1, e1[0]? = some u1 := ⟨_, List.getElem?_eq_getElem (by omega)⟩
      have hne : e1 ≠ [] := fun q => by rw [q] at hl1; simp at hl1
      have hcl : ∀ j u, e1[j]? = some u → w.cell? (((⟨b, pre.length, none⟩ : Addr).add (iv.toNat * 1)).add j) = some u := by
        intro j u hu
        have := hcell j u hu
        rw [add_add, add_lit]
        rw [List.getElem?_take] at this
        split at this
        · have hj := (List.getElem?_eq_some_iff.1 this).1
          simp only [World.cell?, hg]
          rw [← this, ← row_get (pre := pre) (post := post) hj]
          simp
        · cases this
      have hat : At (fun b => true = false ∧ Mu fx.U0 (Lof its κ) b) w ((⟨b, pre.length, none⟩ : Addr).add (iv.toNat * 1)) e1 := ⟨fun h => (by cases h.1), hcl⟩
      obtain ⟨κx, S'⟩ := el_more (ow := true) S hat hne hr (List.getElem?_eq_some_iff.1 hi).1 ⟨_, n, c, hc, by rw [hl1], h0, by omega⟩
      have hx' := evS_den (κ := κ) hx
      simp only [SV.den, Cell.den, hc] at hx'
      have hrun := rv_loadA1 (P := P) (N := N) (d := d) (t := t) (ps := ps) (af := af) (g := g) (o := 0) (v := u1) (ty := ty) (l := denE κ env) (x := x) (w := w) (ad := (⟨b, pre.length, none⟩ : Addr).add (iv.toNat * 1)) (es := e1) (U := fun b => true = false ∧ Mu fx.U0 (Lof its κ) b) (fun w => by have := (htt.get ht).agg w; rw [hag] at this; exact this) (by rw [hx', add_add]; rfl) hat hu1
      refine .inl ⟨_, w, hrun a haa, κx, fun z hz => ?_, S'.kill⟩
      injection hz with hz
      subst hz
      -- the element's cells, described
      obtain ⟨c', hc', hok'⟩ := S'.conc (i := its.length) (by rw [List.getElem?_append_right (Nat.le_refl _), Nat.sub_self]; rfl)
      cases c' with
      | a ad =>
        obtain ⟨hat', _, A', n', c2, hA', had, _, _⟩ := hok'
        have hil := (List.getElem?_eq_some_iff.1 hc).1
        rw [List.getElem?_append_left hil, hc] at hA'
        injection hA' with hA'
        injection hA' with hA' _ _
        injection hA' with hA'
        subst hA'
        have hlen : (GOpen.cells R e (its.length + 1)).length = e1.length := by
          obtain ⟨κs, k1, k2, _⟩ := GOpen.op hr
          have q1 := congrArg List.length (k2 (κ ++ [.a ad]))
          rw [List.length_append, List.length_singleton, S.len, List.length_map] at q1
          exact q1.symm
        have hcs : e1 = (GOpen.cells R e (its.length + 1)).map (Cell.den (κ ++ κx)) := by
          refine List.ext_getElem? fun k => ?_
          by_cases hk : k < e1.length
          · obtain ⟨u, hu⟩ : ∃ u, ((GOpen.cells R e (its.length + 1)).map (Cell.den (κ ++ κx)))[k]? = some u := ⟨_, List.getElem?_eq_getElem (by rw [List.length_map, hlen]; exact hk)⟩
            have q3 := hat'.2 k u hu
            have q4 := hcl k _ (List.getElem?_eq_getElem hk)
            rw [had, hlen, hl1, q4] at q3
            rw [hu, List.getElem?_eq_getElem hk]
            exact q3
          · rw [List.getElem?_eq_none (by omega), List.getElem?_eq_none (by rw [List.length_map, hlen]; omega)]
        rw [hcc] at hcs
        rw [hcs] at hu1
        simp only [List.map_cons, List.map_nil, List.getElem?_cons_zero, Option.some.injEq] at hu1
        rw [← hu1]
        rfl
      | _ => exact hok'.elim
    | _ => exact hok.elim
  · cases hT
/-- An operation that yields nothing. -/
def EffS (P : Program) (N n0 : Nat) (fx : Fx) (env : Env') (its : List Item) (o : Oper) (its' : List Item) : Prop :=
  ∀ κ w, St n0 fx env its κ w → ∀ a, Holds N (denE κ env) a → ∃ w', (execOp a.eval o).run P w = .ok .skip w' ∧ St n0 fx env its' κ w'
theorem SW.effS {ops : Array Oper} {Kn : Act → World → Prop} {ks : KB} {bs bs' : List Bool} {itsK : KI} {κ1 : List Conc} {fuel i : Nat} {op : Op} {t : TypeId} {ps : String} {af : Array Edge} (D : DK ks itsK κ1) (hi : ops[i]? = some ⟨none, op, t, ps, af, none⟩) (he : EffS P N n0 fx env its ⟨none, op, t, ps, af, none⟩ its') (hb : bs.set i true = bs') (hK : mkQ ks bs' its' = slQ ks itsK bs')
    (hk : SD P ops Kn ks itsK κ1 fuel bs' N n0 fx env its') : SW P ops Kn ks itsK κ1 fuel bs N n0 fx env its i := fun κx w S a ha => by
  obtain ⟨w', h1, S'⟩ := he _ w S a ha
  unfold wpOp
  simp only [hi, Region.wanted, if_true]
  refine .inl ?_
  unfold Oper.wp
  rw [h1]
  have h4 := hk κx w' S' _ ha
  have e : bs.toArray.setIfInBounds i true = bs'.toArray := by rw [← hb]; simp
  rw [e]
  exact ⟨S'.knoS hK D, h4⟩
/-- A whole element is stored at its place. -/
theorem e_stp (htt : TTOk P tt) {ty : TypeId} {x y : Operand} {i : Nat} {iv : Int} {v : SV} {cs : List Cell} {l l' : List α} {e : α}
    (hx : evS env x = some (vp i (iv.toNat * sz))) (hi : its[i]? = some (.own sz E R l)) (hy : evS env y = some v) (hv : v.cells its = some cs) (hc : Clo its R cs e)
    (hl : (Nat.beq cs.length sz && !its.any Item.ow) = true) (hT : (match lkT ty tt with
      | some ti => Nat.beq ti.size sz
      | none => false) = true) (hu : upd l iv e = some l') :
    EffS P N n0 fx env its ⟨none, .store ty x y, t, ps, af, g⟩ (its.set i (.own sz E R l')) := fun κ w S a ha => by
  simp only [Bool.and_eq_true, Nat.beq_eq, Bool.not_eq_true'] at hl
  obtain ⟨hl2, how⟩ := hl
  split at hT
  · rename_i ti ht
    simp only [Nat.beq_eq] at hT
    obtain ⟨c, hci, hoki⟩ := S.conc hi
    cases c with
    | r A n c =>
      obtain ⟨hn, ho⟩ := hoki
      rcases own_form ho with ⟨rfl, _, rfl⟩ | ⟨b, pre, cur, post, fz, rfl, _⟩
      · obtain ⟨_, h1, _⟩ := upd_some hu
        simp at h1
        omega
      · have hx' := evS_den (κ := κ) hx
        simp only [SV.den, Cell.den, hci] at hx'
        have hx2 : ev (denE κ env) x = some (.pointer (some ⟨b, pre.length + iv.toNat * sz, none⟩)) := by
          rw [hx', add_lit]
        have hL : (Lof its κ)[i]? = some (some b) := Lof_get hi hci
        have hrun := rs_storeEl (P := P) (N := N) (t := t) (ps := ps) (af := af) (g := g) (fun w => by have := (htt.get ht).size w; rw [hT] at this; exact this) hx2 (evS_den hy) (cells_den S.kno hv) (by simpa using hl2) ho (hc S) hu hL S.ctx
        obtain ⟨w', hr, hst⟩ := hrun a ha
        have hlen : l'.length = l.length := by obtain ⟨_, _, rfl⟩ := upd_some hu; simp
        exact ⟨w', hr, ownTurned_st S how hi hci hn hlen hst⟩
    | _ => exact hoki.elim
  · cases hT
/-- A part of a row of the call's own, which goes on as the row. -/
theorem e_subo (htt : TTOk P tt) {ty : TypeId} {x : Operand} {lo hi' : Option Operand} {i by_ : Nat} {a b : Int} {l l' : List α} (hx : evS env x = some (vs i)) (hi : its[i]? = some (.own sz E R l)) (hlo : bndC env 0 lo = some a) (hhi : bndC env (len l) hi' = some b)
    (hs : sub l a b = some l') (hT : (TRow tt ty E sz by_ && !its.any Item.ow) = true) : Eff P N n0 fx env its ⟨d, .slice ty x lo hi' none, t, ps, af, g⟩ (some (vs its.length)) (its.set i .gone ++ [.own sz E R l']) := fun κ w S ac haa => by
  simp only [Bool.and_eq_true, Bool.not_eq_true'] at hT
  obtain ⟨hT, how⟩ := hT
  obtain ⟨hu, _, hpos, hsz⟩ := trow_get htt hT
  obtain ⟨c, hc, hok⟩ := S.conc hi
  cases c with
  | r A n c =>
    obtain ⟨hn, ho⟩ := hok
    subst hn
    have hx' := evS_den (κ := κ) hx
    simp only [SV.den, Cell.den, hc] at hx'
    have bnd : ∀ (q : Option Operand) (dflt r : Int), bndC env dflt q = some r → ∃ qv, q.mapM (ev (denE κ env)) = some qv ∧ ((qv = none ∧ r = dflt) ∨ ∃ k, qv = some (.int k r)) := by
      intro q dflt r h
      cases q with
      | none => simp only [bndC, Option.some.injEq] at h; exact ⟨none, rfl, .inl ⟨rfl, h.symm⟩⟩
      | some x =>
        simp only [bndC] at h
        split at h
        · rename_i k n hx
          injection h with h; subst h
          exact ⟨some (.int k n), by simp [evS_den hx, SV.den, Cell.den], .inr ⟨k, rfl⟩⟩
        · cases h
    obtain ⟨lov, hl1, hl2⟩ := bnd lo 0 a hlo
    obtain ⟨hiv, hh1, hh2⟩ := bnd hi' (len l) b hhi
    exact Does.of_runW (rw_subo hu hsz hx' hl1 hh1 hl2 hh2 ho hs (Lof_get hi hc) S.ctx) haa fun u w' h => appended_st S how hi hc h
  | _ => exact hok.elim
/-- A part of a row of the call's own that nobody looks at: only that its bounds are within. -/
theorem e_subd (htt : TTOk P tt) {ty : TypeId} {x : Operand} {lo hi' : Option Operand} {i by_ : Nat} {a b : Int} {l l' : List α} (hx : evS env x = some (vs i)) (hi : its[i]? = some (.own sz E R l)) (hlo : bndC env 0 lo = some a) (hhi : bndC env (len l) hi' = some b)
    (hs : sub l a b = some l') (hT : TRow tt ty E sz by_ = true) : Eff P N n0 fx env its ⟨d, .slice ty x lo hi' none, t, ps, af, g⟩ (some (vs its.length)) (its ++ [.gone]) := fun κ w S ac haa => by
  obtain ⟨hu, _, hpos, hsz⟩ := trow_get htt hT
  obtain ⟨c, hc, hok⟩ := S.conc hi
  cases c with
  | r A n c =>
    obtain ⟨hn, ho⟩ := hok
    subst hn
    have hx' := evS_den (κ := κ) hx
    simp only [SV.den, Cell.den, hc] at hx'
    have bnd : ∀ (q : Option Operand) (dflt r : Int), bndC env dflt q = some r → ∃ qv, q.mapM (ev (denE κ env)) = some qv ∧ ((qv = none ∧ r = dflt) ∨ ∃ k, qv = some (.int k r)) := by
      intro q dflt r h
      cases q with
      | none => simp only [bndC, Option.some.injEq] at h; exact ⟨none, rfl, .inl ⟨rfl, h.symm⟩⟩
      | some x =>
        simp only [bndC] at h
        split at h
        · rename_i k n hx
          injection h with h; subst h
          exact ⟨some (.int k n), by simp [evS_den hx, SV.den, Cell.den], .inr ⟨k, rfl⟩⟩
        · cases h
    obtain ⟨lov, hl1, hl2⟩ := bnd lo 0 a hlo
    obtain ⟨hiv, hh1, hh2⟩ := bnd hi' (len l) b hhi
    obtain ⟨A', c', hrun, _⟩ := sl_sub (N := N) hu hsz hx' hl1 hh1 hl2 hh2 (ho.toSl (U' := fun _ => False) (fun _ _ h => h) (fun _ h => h.elim)) hs
    refine .inl ⟨_, w, hrun ac haa, [.r A' l'.length c'], fun x hx => ?_, S.more rfl (one_get (P := fun (it : Item) (c : Conc) => own1 it c = none) rfl) rfl (one_get (P := fun (it : Item) (c : Conc) => OK _ _ w it c) trivial)⟩
    injection hx with hx; subst hx
    simp only [SV.den, Cell.den]
    rw [List.getElem?_append_right (by rw [S.len]; exact Nat.le_refl _), S.len]
    simp
  | _ => exact hok.elim
end
end V
end Go.Proofs.YtladkmnfmpojiaaGreatDoor
