/-
  An element of a row of the call's own is written.
-/
import Derived.Test.YtchlimkophmjlaaNil
import Derived.Lib.ConvBytes
namespace Go.Proofs.Ytchlimkophmjlaa
namespace V
section
variable {P : Program} {N n0 : Nat} {fx : Fx} {its its' : List Item} {κ : List Conc} {w : World} {tt : TT} {env : Env'}
theorem kl_any : (kl its).any Item.ow = false := by
  rw [List.any_eq_false]
  intro it hit
  rw [kl_ow it hit]
  exact Bool.false_ne_true
theorem e_upd {α : Type} {sz : Nat} {E : TypeId} {R : RT α} [GRep R] {l l' : List α} {e : α} (htt : TTOk P tt) {t : TypeId} {ps : String} {af : Array Edge} {g : Option (Nat × Bool)} {ty : TypeId} {x y : Operand} {i j : Nat} {iv : Int} {v : SV} {cs0 cs : List Cell}
    (hx : evS env x = some (vp j 0)) (hj : its[j]? = some (.elt (some (i, iv)) true cs0)) (hi : its[i]? = some (.own sz E R l)) (hki : (kl its)[i]? = some (.own sz E R l)) (hy : evS env y = some v) (hv : v.cells its = some cs) (hc : Clo its R cs e)
    (hl : (Nat.beq cs0.length sz && Nat.beq cs.length sz) = true) (hT : (match lkT ty tt with
      | some ti => Nat.beq ti.size sz
      | none => false) = true) (hu : upd l iv e = some l') :
    Eff P N n0 fx env its ⟨none, .store ty x y, t, ps, af, g⟩ none ((kl its).set i (.own sz E R l')) := fun κ w S a ha => by
  simp only [Bool.and_eq_true, Nat.beq_eq] at hl
  obtain ⟨hl1, hl2⟩ := hl
  split at hT
  · rename_i ti ht
    simp only [Nat.beq_eq] at hT
    obtain ⟨c, hcj, hokj⟩ := S.conc hj
    cases c with
    | a ad =>
      obtain ⟨_, _, A, n, c, hci, had, h0, h1⟩ := hokj
      obtain ⟨c', hci', hoki⟩ := S.conc hi
      rw [hci] at hci'
      injection hci' with hci'
      subst hci'
      obtain ⟨hn, ho⟩ := hoki
      rcases own_form ho with ⟨hA, _⟩ | ⟨b, cur, fz, hA, _⟩
      · cases hA
      · injection hA with hA
        subst hA
        have hx' := evS_den (κ := κ) hx
        simp only [SV.den, Cell.den, hcj, had, hl1] at hx'
        have hx2 : ev (denE κ env) x = some (.pointer (some ⟨b, iv.toNat * sz, none⟩)) := by
          rw [hx']
          simp [add_lit]
        have hL : (Lof its κ)[i]? = some (some b) := Lof_get hi hci
        have hrun := rs_storeEl (P := P) (N := N) (t := t) (ps := ps) (af := af) (g := g) (fun w => by have := (htt.get ht).size w; rw [hT] at this; exact this) hx2 (evS_den hy) (cells_den S.kno hv) (by simpa using hl2) ho (hc S) hu hL S.ctx
        obtain ⟨w', hr, hst⟩ := hrun a ha
        refine .inr (.inl ⟨w', hr, ⟨[], ⟨fun z hz => (by cases hz), ?_⟩⟩⟩)
        rw [List.append_nil]
        have hlen : l'.length = l.length := by obtain ⟨_, _, rfl⟩ := upd_some hu; simp
        have hst' : OwnTurned sz E R fx.U0 fx.X0 fx.w0 (Lof (kl its) κ) w (some ⟨b, 0, none⟩) c l' w' := by rw [Lof_kl]; exact hst
        exact ownTurned_st S.kill kl_any hki hci hn hlen hst'
    | _ => exact hokj.elim
  · cases hT
end
/-! ### A string's bytes -/
section
variable {P : Program} {N n0 : Nat} {fx : Fx} {its its' : List Item} {κ : List Conc} {w w0 : World} {tt : TT} {env : Env'} {l : Env} {d : Option Nat} {t : TypeId} {ps : String} {af : Array Edge} {g : Option (Nat × Bool)} {U0 : Nat → Prop} {X0 : List (Option Nat)} {L : List (Option Nat)}
theorem els_str (s : List UInt8) (U : Nat → Prop) (w : World) : Els 1 (RInt .u8) U w (s.map fun b => Value.int .u8 b.toNat) (s.map fun b => (b.toNat : Int)) := by
  induction s with
  | nil => rfl
  | cons b s ih => exact ⟨[.int .u8 b.toNat], _, rfl, rfl, rfl, ih⟩
theorem rw_s2b {src dst E : TypeId} {x : Operand} {s : ByteArray} {u : TypeDesc} {l' : List Int} (hu : P.underlying src = some u) (hd : P.underlying dst = some (.slice E)) (hE : P.underlying E = some (.int .u8)) (hx : ev l x = some (.string s)) (ha : app 1 ([] : List Int) (strOf s) = some l') (C : Ctx U0 X0 w0 L w) :
    RunW P N l ⟨d, .convert src dst x, t, ps, af, g⟩ w (OwnNew 1 E (RInt .u8) U0 X0 w0 L w [] (fun y => y :: L) l') := fun a haa => by
  obtain ⟨hb1, _, rfl⟩ := app_some ha
  rw [List.nil_append] at *
  have hlen : (strOf s).length = s.size := by
    unfold strOf
    rw [List.length_map, Go.ByteArray.toList_eq]
    exact Array.length_toList
  have hmax : s.size ≤ maxLen := by
    rw [hlen] at hb1
    simp only [maxLen]
    simp at hb1
    omega
  have hcap := grownCap_le_maxLen w s.size 0 E hmax
  have hge := grownCap_ge w s.size 0 E
  have hrun := Lib.run_convert_string_bytes (P := P) w src dst E s hu hd hE
  have hsz := Lib.bytesWorld_size w E s
  obtain ⟨C1, T1⟩ := C.addNone.1.turn (w' := Lib.bytesWorld w E s) (i := 0) (x := none) (y := some w.heap.size) (L' := some w.heap.size :: L) rfl rfl rfl rfl (by omega) (fun b hb _ => Lib.bytesWorld_at_old w E s b hb) (.inr (.inr ⟨rfl, by omega⟩)) rfl
  have hcs : (Lib.bytesCells w E s).size = grownCap w s.size 0 E := by
    unfold Lib.bytesCells
    rw [Array.size_append, Array.size_map, Array.size_replicate]
    show s.size + _ = _
    omega
  refine ⟨_, Lib.bytesWorld w E s, ?_, some ⟨w.heap.size, 0, none⟩, grownCap w s.size 0 E, by rw [hlen], ?_, C1, ⟨by omega, fun b hb _ => Lib.bytesWorld_at_old w E s b hb, fun b e => (by simp at e), fun b hb hM => ?_⟩⟩
  · simp only [execOp, haa.ev hx, Sem.run_bind, hrun, Result.andThen_ok]
    rfl
  · refine own_mk (.inr (Nat.le_refl _)) (Lib.bytesWorld_at_new w E s) (by rw [hlen]; exact hge) hcap (by rw [hcs, Nat.mul_one]) ?_
    have e : (Lib.bytesCells w E s).toList.take ((strOf s).length * 1) = s.data.toList.map fun b => Value.int .u8 b.toNat := by
      unfold Lib.bytesCells
      rw [Nat.mul_one, hlen, Array.toList_append, Array.toList_map]
      have : (s.data.toList.map fun b => Value.int IntKind.u8 b.toNat).length = s.size := by rw [List.length_map]; exact Array.length_toList
      rw [← this]
      exact List.take_left
    rw [e]
    unfold strOf
    rw [Go.ByteArray.toList_eq]
    exact els_str _ _ _
  · have := T1.mono b hb hM
    rcases this with h | h
    · exact .inl h
    · exact .inr (by simpa using h)
/-- A string that is at hand. -/
inductive StrV (its : List Item) (s : List Int) : SV → Prop
  | t {j : Nat} (h : its[j]? = some (.str s)) : StrV its s (vt j)
  | c {b : ByteArray} (h : strOf b = s) : StrV its s (.c (.v (.string b)))
theorem e_s2b (htt : TTOk P tt) {src dst E : TypeId} {x : Operand} {v : SV} {s l' : List Int} (hx : evS env x = some v) (hs : StrV its s v) (ha : app 1 ([] : List Int) s = some l')
    (hT : (match lkT src tt, lkT dst tt, lkT E tt with
      | some ⟨.string, _, _, _, _⟩, some ⟨.slice E', _, _, _, _⟩, some ⟨.int .u8, _, _, _, _⟩ => Nat.beq E' E && !its.any Item.ow
      | _, _, _ => false) = true) : Eff P N n0 fx env its ⟨d, .convert src dst x, t, ps, af, g⟩ (some (vs its.length)) (its ++ [.own 1 E (RInt .u8) l']) := fun κ w S a haa => by
  split at hT
  · rename_i E' _ _ _ _ _ _ _ _ _ _ _ _ h1 h2 h3
    simp only [Bool.and_eq_true, Bool.not_eq_true', Nat.beq_eq] at hT
    obtain ⟨rfl, how⟩ := hT
    have hx' := evS_den (κ := κ) hx
    have hb : ∃ b : ByteArray, v.den κ = .string b ∧ strOf b = s := by
      cases hs with
      | @t j h =>
        obtain ⟨c, hc, hok⟩ := S.conc h
        cases c with
        | s b => exact ⟨b, by simp [SV.den, Cell.den, hc], hok⟩
        | _ => exact hok.elim
      | @c b h => exact ⟨b, rfl, h⟩
    obtain ⟨b, hb1, rfl⟩ := hb
    rw [hb1] at hx'
    exact Does.of_runW (rw_s2b (htt.get h1).und (htt.get h2).und (htt.get h3).und hx' ha S.ctx) haa fun v w' hk => newOwn_st S how hk
  · cases hT
end
end V
end Go.Proofs.Ytchlimkophmjlaa
