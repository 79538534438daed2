/-
  Effects of operations.
-/
import Derived.Test.YtladkmnfmpojiaaGreatDoorLa
import Derived.Laws.BytesString
import Derived.Laws.Slices
import Derived.MapKept
import Derived.Carry
namespace Go.Proofs.YtladkmnfmpojiaaGreatDoor
namespace V

section
variable {P : Program} {px : Value → World → Prop} {N : Nat} {l : Env} {d : Option Nat} {t : TypeId} {ps : String} {af : Array Edge} {g : Option (Nat × Bool)}
variable {α : Type} {U0 : Nat → Prop} {X0 : List (Option Nat)} {w0 w : World} {L : List (Option Nat)}

/-! ### New variables, loads, stores -/
def NewBlk (U0 : Nat → Prop) (X0 : List (Option Nat)) (w0 : World) (L : List (Option Nat)) (w : World) (T : TypeId) (cs : List Value) (v : Value) (w' : World) : Prop :=
  ∃ b, v = .pointer (some ⟨b, 0, none⟩) ∧ Blk w' b T cs ∧ Ctx U0 X0 w0 (some b :: L) w' ∧ TR U0 L w (some b :: L) w' []
theorem newBlk_mk (C : Ctx U0 X0 w0 L w) (T : TypeId) (cs : List Value) : NewBlk U0 X0 w0 L w T cs (.pointer (some ⟨w.heap.size, 0, none⟩)) (w.alloc (.cells cs.toArray T)) :=
  ⟨w.heap.size, rfl, heap_alloc_new w _, (C.alloc _).1, (C.alloc _).2⟩
theorem rw_box {E : TypeId} {x : Operand} {v : Value} {cs : List Value} (hx : ev l x = some v) (hcs : v.cells = cs.toArray) (C : Ctx U0 X0 w0 L w) :
    RunW P N l ⟨d, .box E x, t, ps, af, g⟩ w (NewBlk U0 X0 w0 L w E cs) := fun a ha => by
  refine ⟨_, _, ?_, newBlk_mk C E cs⟩
  rw [← hcs]
  simp only [execOp, ha.ev hx, Instr.box, newVar, newRow, Sem.run_bind, run_newObj, Result.andThen_ok, Sem.run_pure]
  rfl
theorem rw_alloc {E : TypeId} {z : Value} {cs : List Value} (hz : ∀ w, (zeroValue E).run P w = .ok z w) (hcs : z.cells = cs.toArray) (C : Ctx U0 X0 w0 L w) :
    RunW P N l ⟨d, .alloc E, t, ps, af, g⟩ w (NewBlk U0 X0 w0 L w E cs) := fun a ha => by
  refine ⟨_, _, ?_, newBlk_mk C E cs⟩
  rw [← hcs]
  simp only [execOp, Instr.alloc, hz, newVar, newRow, Sem.run_bind, run_newObj, Result.andThen_ok, Sem.run_pure]
  rfl
theorem run_load1 {ty : TypeId} {ad : Addr} {v : Value} (h1 : ∀ w, (isAgg ty).run P w = .ok false w) (hc : w.cell? ad = some v) : (Instr.loadAt ty (.pointer (some ad))).run P w = .ok v w := by
  simp [Instr.loadAt, Instr.sureAddr, loadVar, h1, hc]
theorem run_loadN {ty : TypeId} {ad : Addr} {vs : List Value} {n : Nat} (h1 : ∀ w, (isAgg ty).run P w = .ok true w) (h2 : ∀ w, (sizeOf ty).run P w = .ok n w) (hn : vs.length = n) (hc : ∀ j v, vs[j]? = some v → w.cell? (ad.add j) = some v) :
    (Instr.loadAt ty (.pointer (some ad))).run P w = .ok (.agg vs.toArray) w := by
  subst hn
  simp [Instr.loadAt, Instr.sureAddr, loadVar, h1, h2, run_loadCells_list w ad vs hc]
theorem add_lit (b o n : Nat) : (⟨b, o, none⟩ : Addr).add n = ⟨b, o + n, none⟩ := by unfold Addr.add; split <;> simp_all
theorem blk_cells {b o n : Nat} {T : TypeId} {cs vs : List Value} (hb : Blk w b T cs) (hv : (cs.drop o).take n = vs) : ∀ j v, vs[j]? = some v → w.cell? ((⟨b, o, none⟩ : Addr).add j) = some v := fun j v h => by
  subst hv
  rw [add_lit, hb.cell]
  rw [List.getElem?_take] at h
  split at h
  · rwa [List.getElem?_drop] at h
  · cases h
theorem rv_load1 {ty : TypeId} {x : Operand} {b o : Nat} {T : TypeId} {cs : List Value} {v : Value} (h1 : ∀ w, (isAgg ty).run P w = .ok false w) (hx : ev l x = some (.pointer (some ⟨b, o, none⟩))) (hb : Blk w b T cs) (hv : cs[o]? = some v) :
    RunV P N l ⟨d, .load ty x, t, ps, af, g⟩ w v := fun a ha => by
  simp only [execOp, ha.ev hx, Sem.run_bind, run_load1 h1 ((hb.cell o).trans hv), Result.andThen_ok]; rfl
theorem rv_loadN {ty : TypeId} {x : Operand} {b o n : Nat} {T : TypeId} {cs vs : List Value} (h1 : ∀ w, (isAgg ty).run P w = .ok true w) (h2 : ∀ w, (sizeOf ty).run P w = .ok n w) (hx : ev l x = some (.pointer (some ⟨b, o, none⟩))) (hb : Blk w b T cs) (hv : (cs.drop o).take n = vs) (hn : vs.length = n) :
    RunV P N l ⟨d, .load ty x, t, ps, af, g⟩ w (.agg vs.toArray) := fun a ha => by
  simp only [execOp, ha.ev hx, Sem.run_bind, run_loadN h1 h2 hn (blk_cells hb hv), Result.andThen_ok]; rfl
theorem rv_loadA1 {ty : TypeId} {x : Operand} {U : Nat → Prop} {ad : Addr} {o : Nat} {es : List Value} {v : Value} (h1 : ∀ w, (isAgg ty).run P w = .ok false w) (hx : ev l x = some (.pointer (some (ad.add o)))) (hb : At U w ad es) (hv : es[o]? = some v) :
    RunV P N l ⟨d, .load ty x, t, ps, af, g⟩ w v := fun a ha => by
  simp only [execOp, ha.ev hx, Sem.run_bind, run_load1 h1 (hb.2 o v hv), Result.andThen_ok]; rfl
theorem rv_loadAN {ty : TypeId} {x : Operand} {U : Nat → Prop} {ad : Addr} {o n : Nat} {es vs : List Value} (h1 : ∀ w, (isAgg ty).run P w = .ok true w) (h2 : ∀ w, (sizeOf ty).run P w = .ok n w) (hx : ev l x = some (.pointer (some (ad.add o)))) (hb : At U w ad es) (hv : (es.drop o).take n = vs) (hn : vs.length = n) :
    RunV P N l ⟨d, .load ty x, t, ps, af, g⟩ w (.agg vs.toArray) := fun a ha => by
  have hc : ∀ j v, vs[j]? = some v → w.cell? ((ad.add o).add j) = some v := fun j v h => by
    subst hv
    rw [add_add]
    refine hb.2 _ v ?_
    rw [List.getElem?_take] at h
    split at h
    · rwa [List.getElem?_drop] at h
    · cases h
  simp only [execOp, ha.ev hx, Sem.run_bind, run_loadN h1 h2 hn hc, Result.andThen_ok]; rfl
theorem rv1_cell {ty : TypeId} {p b n : Nat} {T : TypeId} {cs : List Value} (h1 : ∀ w, (isAgg ty).run P w = .ok true w) (h2 : ∀ w, (sizeOf ty).run P w = .ok n w) (hx : lk p l = some (.pointer (some ⟨b, 0, none⟩))) (hb : Blk w b T cs) (hn : cs.length = n) : RV1 P N l w (.cell p ty) (.agg cs.toArray) := fun a ha => by
  have hr := run_loadN (P := P) (w := w) (ad := ⟨b, 0, none⟩) (vs := cs) h1 h2 hn (blk_cells (o := 0) (n := cs.length) hb (by simp))
  have hg := ha.get p _ hx
  simp only [Instr.loadAt, Instr.sureAddr, Sem.run_bind, Sem.run_pure, Result.andThen_ok] at hr
  simp [resOne, hg, asAddr, hr]
theorem rv1_cell1 {ty : TypeId} {p b : Nat} {T : TypeId} {v : Value} (h1 : ∀ w, (isAgg ty).run P w = .ok false w) (hx : lk p l = some (.pointer (some ⟨b, 0, none⟩))) (hb : Blk w b T [v]) : RV1 P N l w (.cell p ty) v := fun a ha => by
  have hr := run_load1 (P := P) (w := w) (ad := ⟨b, 0, none⟩) (v := v) h1 (hb.cell 0)
  have hg := ha.get p _ hx
  simp only [Instr.loadAt, Instr.sureAddr, Sem.run_bind, Sem.run_pure, Result.andThen_ok] at hr
  simp [resOne, hg, asAddr, hr]

def Stored (U0 : Nat → Prop) (X0 : List (Option Nat)) (w0 : World) (L : List (Option Nat)) (w : World) (b : Nat) (T : TypeId) (cs : List Value) (w' : World) : Prop :=
  Blk w' b T cs ∧ Ctx U0 X0 w0 L w' ∧ TR U0 L w L w' [some b]
/-- A store, of which 'K' is known. -/
def RunSK (P : Program) (N : Nat) (l : Env) (o : Oper) (w : World) (K : World → Prop) : Prop := ∀ a, Holds N l a → ∃ w', (execOp a.eval o).run P w = .ok .skip w' ∧ K w'
theorem WL.storeK {ops : Array Oper} {rest : List Oper} {Kn : Act → World → Prop} {op : Op} {K : World → Prop} (hr : RunSK P N l ⟨none, op, t, ps, af, none⟩ w K)
    (h : ∀ w', K w' → WL P px ops rest Kn N l w') : WL P px ops (⟨none, op, t, ps, af, none⟩ :: rest) Kn N l w := fun a ha =>
  wpList_plain rfl fun K' hK => by
    obtain ⟨w', h1, h2⟩ := hr a ha
    unfold Oper.wp
    rw [h1]
    exact hK _ _ (h w' h2 _ ha)
theorem set_same {L : List (Option Nat)} {i : Nat} {y : Option Nat} (h : L[i]? = some y) : L.set i y = L := by
  refine List.ext_getElem? fun k => ?_
  rw [List.getElem?_set]
  split
  · rename_i e
    subst e
    obtain ⟨hlt, he⟩ := List.getElem?_eq_some_iff.1 h
    simp [hlt, he]
  · rfl
theorem setRow_turn (C : Ctx U0 X0 w0 L w) {i b : Nat} (hL : L[i]? = some (some b)) {T : TypeId} {cs cs' : List Value} (hb : Blk w b T cs) : Stored U0 X0 w0 L w b T cs' (w.setRow b cs'.toArray) := by
  have h := C.turn (w' := w.setRow b cs'.toArray) (y := some b) (L' := L) hL rfl rfl rfl (by simp) (fun k hk hne => setRow_other w b k _ fun e => hne (by rw [e])) (.inl rfl) (by
    exact set_same hL)
  exact ⟨setRow_heap w b _ _ T _ hb, h.1, h.2⟩
theorem setRow_turnz (C : Ctx U0 X0 w0 L w) {i b : Nat} (hL : L[i]? = some (some b)) {T : TypeId} {cs' : List Value} {cur : Array Value} {fz : Nat × Nat} (hb : w.heap[b]? = some (.cells cur T fz)) : (w.setRow b cs'.toArray).heap[b]? = some (.cells cs'.toArray T fz) ∧ Ctx U0 X0 w0 L (w.setRow b cs'.toArray) ∧ TR U0 L w L (w.setRow b cs'.toArray) [some b] := by
  have h := C.turn (w' := w.setRow b cs'.toArray) (y := some b) (L' := L) hL rfl rfl rfl (by simp) (fun k hk hne => setRow_other w b k _ fun e => hne (by rw [e])) (.inl rfl) (by
    exact set_same hL)
  exact ⟨setRow_heap w b _ _ T _ hb, h.1, h.2⟩
theorem run_storeCells_z (P : Program) (g o : Nat) (t : TypeId) (fz : Nat × Nat) : ∀ (vs : List Value) (i : Nat) (cur : Array Value) (w : World), w.heap[g]? = some (.cells cur t fz) → Fz t fz cur.size → o + i + vs.length ≤ cur.size → (∀ v ∈ vs, v.oneCell' = true) →
    (storeCells ⟨g, o, none⟩ vs i).run P w = .ok () (w.setRow g (cur.toList.take (o + i) ++ vs ++ cur.toList.drop (o + i + vs.length)).toArray)
  | [], i, cur, w, hg, _, _, _ => by
    simp only [storeCells, List.append_nil, List.length_nil, Nat.add_zero, List.take_append_drop, Array.toArray_toList]
    rw [setRow_self w g cur t fz hg]
    rfl
  | v :: rest, i, cur, w, hg, hfz, hl, h1 => by
    have hi : o + i < cur.size := by simp at hl; omega
    have hadd : (⟨g, o, none⟩ : Addr).add i = ⟨g, o + i, none⟩ := by unfold Addr.add; split <;> simp_all
    have hcell : w.cell? ⟨g, o + i, none⟩ = some cur[o + i] := by simp [World.cell?, hg, hi]
    have hfro : w.frozen? ⟨g, o + i, none⟩ = false := by
      rcases hfz with rfl | ⟨hfz, _⟩
      · simp [World.frozen?, hg]
      · obtain ⟨lo, hi'⟩ := fz
        simp only [World.frozen?, hg, Bool.and_eq_false_iff, decide_eq_false_iff_not]
        left
        simp only at hfz
        omega
    have hst : (store ((⟨g, o, none⟩ : Addr).add i) v).run P w = .ok () (w.setRow g (cur.setIfInBounds (o + i) v)) := by
      rw [hadd, run_store P w _ v _ (h1 v (by simp)), hcell]
      simp [hfro, setCell_eq_setRow w g (o + i) cur t fz v hg]
    have ih := run_storeCells_z P g o t fz rest (i + 1) (cur.setIfInBounds (o + i) v) (w.setRow g (cur.setIfInBounds (o + i) v)) (setRow_heap w g cur _ t _ hg) (by simpa using hfz) (by simp at hl ⊢; omega) (fun x hx => h1 x (by simp [hx]))
    simp only [storeCells, Sem.run_bind, hst, Result.andThen_ok, ih, setRow_setRow]
    congr 3
    have e := list_seg_step cur.toList (o + i) v rest (by simp at hl ⊢; omega)
    simpa [Array.toList_setIfInBounds, Nat.add_assoc] using e
theorem rs_store {ty : TypeId} {x y : Operand} {b o i n : Nat} {T : TypeId} {v : Value} {cs vs cs' : List Value} (h2 : ∀ w, (sizeOf ty).run P w = .ok n w) (hx : ev l x = some (.pointer (some ⟨b, o, none⟩))) (hy : ev l y = some v) (hvs : v.cells = vs.toArray) (hn : vs.length = n)
    (h1 : vs.all (·.oneCell') = true) (hb : Blk w b T cs) (hL : L[i]? = some (some b)) (C : Ctx U0 X0 w0 L w) (hle : Nat.ble (o + vs.length) cs.length = true) (hcs : cs.take o ++ vs ++ cs.drop (o + vs.length) = cs') :
    RunSK P N l ⟨none, .store ty x y, t, ps, af, g⟩ w (Stored U0 X0 w0 L w b T cs') := fun a ha => by
  refine ⟨w.setRow b cs'.toArray, ?_, setRow_turn C hL hb⟩
  have hst := run_storeCells_at P b o T vs 0 cs.toArray w hb (by simpa using Nat.le_of_ble_eq_true hle) (by simpa using h1)
  simp only [Nat.add_zero] at hst
  simp only [execOp, ha.ev hx, ha.ev hy, Instr.storeAt, Instr.sureAddr, storeVar, Sem.run_bind, Sem.run_pure, Result.andThen_ok, h2, hvs, List.size_toArray, hn]
  simp [hst, hcs]

/-! ### Slices -/
theorem idx_some {l : List α} {i : Int} {e : α} (h : idx l i = some e) : 0 ≤ i ∧ i < l.length ∧ l[i.toNat]? = some e := by
  unfold idx at h
  split at h
  · rename_i h0
    have := (List.getElem?_eq_some_iff.1 h).1
    exact ⟨h0, by omega, h⟩
  · cases h
theorem run_indexAt {ty E : TypeId} {sz : Nat} {k : IntKind} {iv : Int} {ad : Addr} {n c : Nat} (hu : P.underlying ty = some (.slice E)) (hs : ∀ w, (sizeOf E).run P w = .ok sz w) (h0 : 0 ≤ iv) (h1 : iv < n) :
    (Instr.indexAt ty (.slice (some ad) n c) (.int k iv)).run P w = .ok (.pointer (some (ad.add (iv.toNat * sz)))) w := by
  simp [Instr.indexAt, asIntOf, run_underlying hu, h0, h1, hs]
/-- The address of an element of a slice that is only read. -/
theorem ix_sl {ty E : TypeId} {sz : Nat} {x y : Operand} {k : IntKind} {iv : Int} {R : RT α} {U : Nat → Prop} {A : Option Addr} {c : Nat} {dt : List α} {e : α} (hu : P.underlying ty = some (.slice E)) (hs : ∀ w, (sizeOf E).run P w = .ok sz w) (hpos : Nat.blt 0 sz = true)
    (hx : ev l x = some (.slice A dt.length c)) (hy : ev l y = some (.int k iv)) (h : Sl sz R U w A c dt) (hi : idx dt iv = some e) :
    ∃ ad es, (∀ {d : Option Nat} {t : TypeId} {ps : String} {af : Array Edge} {g : Option (Nat × Bool)} {w : World}, RunV P N l ⟨d, .indexAddr ty x y, t, ps, af, g⟩ w (.pointer (some ad))) ∧ At U w ad es ∧ es.length = sz ∧ R U w es e := by
  have hpos' : 0 < sz := by simpa [Nat.blt_eq] using hpos
  obtain ⟨h0, h1, hi⟩ := idx_some hi
  obtain ⟨_, _, es, he, hm⟩ := h
  obtain ⟨e1, hl1, hr, hc⟩ := Els.get dt es iv.toNat e he hi
  match A with
  | none =>
    match e1, hl1 with
    | u :: e1, _ =>
      obtain ⟨ad, hA, _⟩ := hm _ u (hc 0 u rfl)
      cases hA
    | [], hl1 => exact absurd hl1 (by simp; omega)
  | some ad =>
    have hall : ∀ j u, e1[j]? = some u → ¬ U ad.block ∧ w.cell? ((ad.add (iv.toNat * sz)).add j) = some u := fun j u hu => by
      obtain ⟨ad', h1, h2, h3⟩ := hm _ u (hc j u hu)
      injection h1 with h1
      subst h1
      rw [add_add]
      exact ⟨h2, h3⟩
    refine ⟨ad.add (iv.toNat * sz), e1, fun {d t ps af g w} a ha => ?_, ⟨?_, fun j u hu => (hall j u hu).2⟩, hl1, hr⟩
    · simp only [execOp, ha.ev hx, ha.ev hy, Sem.run_bind, run_indexAt hu hs h0 h1, Result.andThen_ok]; rfl
    · rw [block_add]
      match e1, hl1 with
      | u :: e1, _ => exact (hall 0 u rfl).1
      | [], hl1 => exact absurd hl1 (by simp; omega)
theorem own_form {E : TypeId} {sz : Nat} {R : RT α} {U : Nat → Prop} {A : Option Addr} {c : Nat} {dt : List α} (h : Own sz E R U w A c dt) : (A = none ∧ c = 0 ∧ dt = []) ∨
    ∃ (b : Nat) (pre cur post : List Value) (fz : Nat × Nat), A = some ⟨b, pre.length, none⟩ ∧ Fz E fz (pre ++ cur ++ post).length ∧ w.heap[b]? = some (.cells (pre ++ cur ++ post).toArray E fz) ∧ dt.length ≤ c ∧ c ≤ maxLen ∧ cur.length = c * sz ∧ Els sz R U w (cur.take (dt.length * sz)) dt := by
  obtain ⟨xs, ⟨hl, hr⟩, he⟩ := h
  rcases hr with ⟨hv, h0⟩ | ⟨b, pre, cap, cur, post, fz, hv, hfz, hg, h1, h2, h3, h4⟩
  · injection hv with hA _ hc
    exact .inl ⟨hA, hc, List.eq_nil_of_length_eq_zero h0⟩
  · injection hv with hA hn hc
    subst hc
    subst h4
    exact .inr ⟨b, pre, cur, post, fz, hA, hfz, hg, h1, h2, h3, he⟩
theorem own_mk {E : TypeId} {sz : Nat} {R : RT α} {U : Nat → Prop} {b c : Nat} {cur : Array Value} {dt : List α} {fz : Nat × Nat} (hfz : Fz E fz cur.size) (hg : w.heap[b]? = some (.cells cur E fz)) (h1 : dt.length ≤ c) (h2 : c ≤ maxLen) (h3 : cur.size = c * sz) (he : Els sz R U w (cur.toList.take (dt.length * sz)) dt) : Own sz E R U w (some ⟨b, 0, none⟩) c dt := by
  refine ⟨_, ⟨?_, .inr ⟨b, [], c, cur.toList, [], fz, rfl, by simpa using hfz, by simpa using hg, h1, h2, by simpa using h3, rfl⟩⟩, he⟩
  rw [List.length_take, Array.length_toList (xs := cur), h3]
  exact Nat.min_eq_left (Nat.mul_le_mul_right _ h1)
/-- The same, of a part of a row. -/
theorem own_mk2 {E : TypeId} {sz : Nat} {R : RT α} {U : Nat → Prop} {b c : Nat} {pre cur post : List Value} {dt : List α} {fz : Nat × Nat} (hfz : Fz E fz (pre ++ cur ++ post).length) (hg : w.heap[b]? = some (.cells (pre ++ cur ++ post).toArray E fz)) (h1 : dt.length ≤ c) (h2 : c ≤ maxLen) (h3 : cur.length = c * sz) (he : Els sz R U w (cur.take (dt.length * sz)) dt) : Own sz E R U w (some ⟨b, pre.length, none⟩) c dt := by
  refine ⟨_, ⟨?_, .inr ⟨b, pre, c, cur, post, fz, rfl, hfz, hg, h1, h2, h3, rfl⟩⟩, he⟩
  rw [List.length_take, h3]
  exact Nat.min_eq_left (Nat.mul_le_mul_right _ h1)
/-- The address of an element of a row of the call's own. -/
theorem ix_own {ty E : TypeId} {sz : Nat} {x y : Operand} {k : IntKind} {iv : Int} {R : RT α} {U : Nat → Prop} {A : Option Addr} {c : Nat} {dt : List α} {e : α} (hu : P.underlying ty = some (.slice E)) (hs : ∀ w, (sizeOf E).run P w = .ok sz w)
    (hx : ev l x = some (.slice A dt.length c)) (hy : ev l y = some (.int k iv)) (h : Own sz E R U w A c dt) (hi : idx dt iv = some e) :
    ∃ b o es, A = some ⟨b, o, none⟩ ∧ (∀ {d : Option Nat} {t : TypeId} {ps : String} {af : Array Edge} {g : Option (Nat × Bool)} {w : World}, RunV P N l ⟨d, .indexAddr ty x y, t, ps, af, g⟩ w (.pointer (some ⟨b, o + iv.toNat * sz, none⟩))) ∧
      At (fun _ => False) w ⟨b, o + iv.toNat * sz, none⟩ es ∧ es.length = sz ∧ R U w es e := by
  obtain ⟨h0, h1, hi⟩ := idx_some hi
  rcases own_form h with ⟨_, _, rfl⟩ | ⟨b, pre, cur, post, fz, rfl, hfz, hg, _, _, _, he⟩
  · simp at hi
  · obtain ⟨e1, hl1, hr, hc⟩ := Els.get dt _ iv.toNat e he hi
    refine ⟨b, pre.length, e1, rfl, fun {d t ps af g w} a ha => ?_, ⟨fun h => h, fun j u hu => ?_⟩, hl1, hr⟩
    · have := run_indexAt (P := P) (w := w) (k := k) (ad := ⟨b, pre.length, none⟩) (c := c) hu hs h0 h1
      rw [add_lit] at this
      simp only [execOp, ha.ev hx, ha.ev hy, Sem.run_bind, this, Result.andThen_ok]; rfl
    · have := hc j u hu
      rw [List.getElem?_take] at this
      split at this
      · rw [add_lit]
        have hj := (List.getElem?_eq_some_iff.1 this).1
        simp only [World.cell?, hg]
        rw [← this, ← row_get (pre := pre) (post := post) hj, Nat.add_assoc]
        simp
      · cases this
theorem upd_some {l l' : List α} {i : Int} {e : α} (h : upd l i e = some l') : 0 ≤ i ∧ i < l.length ∧ l' = l.set i.toNat e := by
  unfold upd at h
  split at h
  · rename_i h0
    simp only [Option.some.injEq] at h
    exact ⟨h0.1, h0.2, h.symm⟩
  · cases h
/-- The address of an element that is to be written. -/
theorem ix_upd {ty E : TypeId} {sz : Nat} {x y : Operand} {k : IntKind} {iv : Int} {R : RT α} {U : Nat → Prop} {A : Option Addr} {c : Nat} {dt dt' : List α} {e : α} (hu : P.underlying ty = some (.slice E)) (hs : ∀ w, (sizeOf E).run P w = .ok sz w)
    (hx : ev l x = some (.slice A dt.length c)) (hy : ev l y = some (.int k iv)) (h : Own sz E R U w A c dt) (hi : upd dt iv e = some dt') :
    ∃ b o, A = some ⟨b, o, none⟩ ∧ (∀ {d : Option Nat} {t : TypeId} {ps : String} {af : Array Edge} {g : Option (Nat × Bool)} {w : World}, RunV P N l ⟨d, .indexAddr ty x y, t, ps, af, g⟩ w (.pointer (some ⟨b, o + iv.toNat * sz, none⟩))) := by
  obtain ⟨h0, h1, _⟩ := upd_some hi
  rcases own_form h with ⟨_, _, rfl⟩ | ⟨b, pre, cur, post, fz, rfl, hfz, hg, _, _, _, he⟩
  · simp at h1; omega
  · refine ⟨b, pre.length, rfl, fun {d t ps af g w} a ha => ?_⟩
    have := run_indexAt (P := P) (w := w) (k := k) (ad := ⟨b, pre.length, none⟩) (c := c) hu hs h0 h1
    rw [add_lit] at this
    simp only [execOp, ha.ev hx, ha.ev hy, Sem.run_bind, this, Result.andThen_ok]; rfl
def OwnTurned (sz : Nat) (E : TypeId) (R : RT α) (U0 : Nat → Prop) (X0 : List (Option Nat)) (w0 : World) (L : List (Option Nat)) (w : World) (A : Option Addr) (c : Nat) (dt : List α) (w' : World) : Prop :=
  Own sz E R (Mu U0 L) w' A c dt ∧ Ctx U0 X0 w0 L w' ∧ TR U0 L w L w' [ob A]
/-- A whole element of a row of the call's own is written. -/
theorem rs_storeEl {ty E : TypeId} {sz : Nat} {x y : Operand} {iv : Int} {b o i c : Nat} {v : Value} {vs : List Value} {R : RT α} [GRep R] {dt dt' : List α} {e : α} (h2 : ∀ w, (sizeOf ty).run P w = .ok sz w) (hx : ev l x = some (.pointer (some ⟨b, o + iv.toNat * sz, none⟩))) (hy : ev l y = some v) (hvs : v.cells = vs.toArray) (hn : vs.length = sz)
    (h : Own sz E R (Mu U0 L) w (some ⟨b, o, none⟩) c dt) (hr : R (Mu U0 L) w vs e) (hi : upd dt iv e = some dt') (hL : L[i]? = some (some b)) (C : Ctx U0 X0 w0 L w) :
    RunSK P N l ⟨none, .store ty x y, t, ps, af, g⟩ w (OwnTurned sz E R U0 X0 w0 L w (some ⟨b, o, none⟩) c dt') := fun a ha => by
  obtain ⟨h0, h1, rfl⟩ := upd_some hi
  rcases own_form h with ⟨hA, _⟩ | ⟨b', pre, cur, post, fz, hA, hfz, hg, hle, hm, hsz, he⟩
  · cases hA
  · injection hA with hA
    injection hA with hA hA2
    subst hA
    subst hA2
    have hk : iv.toNat < dt.length := by omega
    have hfit : iv.toNat * sz + vs.length ≤ cur.length := by
      rw [hn, hsz, ← Nat.succ_mul]
      exact Nat.mul_le_mul_right _ (by omega)
    have h1c := GRep.one hr
    have hst := run_storeCells_z P b (pre.length + iv.toNat * sz) E fz vs 0 _ w hg (by simpa using hfz) (by simp only [List.size_toArray, List.length_append]; omega) h1c
    simp only [Nat.add_zero] at hst
    rw [row_put hfit] at hst
    obtain ⟨k1, k2, k3⟩ := setRow_turnz C hL hg (cs' := pre ++ (cur.take (iv.toNat * sz) ++ vs ++ cur.drop (iv.toNat * sz + vs.length)) ++ post)
    refine ⟨_, ?_, ?_, k2, k3⟩
    · simp only [execOp, ha.ev hx, ha.ev hy, Instr.storeAt, Instr.sureAddr, storeVar, Sem.run_bind, Sem.run_pure, Result.andThen_ok, h2, hvs, List.size_toArray, hn]
      simp [hst, hn]
    · have hlen : (cur.take (iv.toNat * sz) ++ vs ++ cur.drop (iv.toNat * sz + vs.length)).length = cur.length := by
        simp only [List.length_append, List.length_take, List.length_drop]
        omega
      refine own_mk2 (by rw [row_len hlen]; exact hfz) k1 (by simpa using hle) hm (by rw [hlen]; exact hsz) ?_
      have hset := Els.set dt _ iv.toNat e vs he hk hn hr
      have e1 : (cur.take (iv.toNat * sz) ++ vs ++ cur.drop (iv.toNat * sz + vs.length)).take ((dt.set iv.toNat e).length * sz) =
          (cur.take (dt.length * sz)).take (iv.toNat * sz) ++ vs ++ (cur.take (dt.length * sz)).drop (iv.toNat * sz + sz) := by
        have hk2 : iv.toNat * sz + sz ≤ dt.length * sz := by rw [← Nat.succ_mul]; exact Nat.mul_le_mul_right _ (by omega)
        rw [List.length_set, List.take_append, List.take_take, List.drop_take, List.length_append, List.length_take, hn]
        rw [Nat.min_eq_left (by omega : iv.toNat * sz ≤ dt.length * sz), Nat.min_eq_left (by omega : iv.toNat * sz ≤ cur.length)]
        rw [List.take_of_length_le (by simp only [List.length_append, List.length_take, hn]; omega)]
      rw [e1]
      exact Els.step k3.h1 k3.mono _ _ hset
/-- What is appended: readable now. -/
def Src (sz : Nat) (R : RT α) (U : Nat → Prop) (w : World) (A : Option Addr) (dt : List α) : Prop := ∃ es, Els sz R U w es dt ∧ ∀ j u, es[j]? = some u → ∃ ad, A = some ad ∧ w.cell? (ad.add j) = some u
theorem Sl.src {sz : Nat} {R : RT α} {U : Nat → Prop} {A : Option Addr} {c : Nat} {dt : List α} (h : Sl sz R U w A c dt) : Src sz R U w A dt := by
  obtain ⟨_, _, es, he, hm⟩ := h
  exact ⟨es, he, fun j u hu => let ⟨ad, h1, _, h3⟩ := hm j u hu; ⟨ad, h1, h3⟩⟩
theorem Own.src {sz : Nat} {E : TypeId} {R : RT α} {U : Nat → Prop} {A : Option Addr} {c : Nat} {dt : List α} (h : Own sz E R U w A c dt) : Src sz R U w A dt := by
  obtain ⟨xs, hown, he⟩ := h
  refine ⟨xs, he, fun j u hu => ?_⟩
  rcases hown.2 with ⟨hv, h0⟩ | ⟨g, pre, cap, cur, post, fz, hv, _⟩
  · have : xs = [] := List.eq_nil_of_length_eq_zero (by rw [hown.1, h0]; simp)
    subst this
    simp at hu
  · injection hv with hA
    subst hA
    exact ⟨_, rfl, hown.cells rfl j u hu⟩
def OwnNew (sz : Nat) (E : TypeId) (R : RT α) (U0 : Nat → Prop) (X0 : List (Option Nat)) (w0 : World) (L : List (Option Nat)) (w : World) (X : List (Option Nat)) (LL : Option Nat → List (Option Nat)) (dt : List α) (v : Value) (w' : World) : Prop :=
  ∃ A c, v = .slice A dt.length c ∧ Own sz E R (Mu U0 (LL (ob A))) w' A c dt ∧ Ctx U0 X0 w0 (LL (ob A)) w' ∧ TR U0 L w (LL (ob A)) w' X
theorem ownBlock_slice (A : Option Addr) (n c : Nat) : Value.ownBlock (.slice A n c) = ob A := by cases A <;> rfl
theorem app_some {by_ : Nat} {l m l' : List α} (h : app by_ l m = some l') : (l.length + m.length) * by_ ≤ 140737488355328 ∧ l.length + m.length ≤ 9223372036854775807 ∧ l' = l ++ m := by
  unfold app at h
  split at h
  · rename_i h0
    simp only [Option.some.injEq] at h
    exact ⟨h0.1, h0.2, h.symm⟩
  · cases h
/-- 'append' onto a row of the call's own. -/
theorem run_append_z (w : World) (t ty e : TypeId) (i : TypeInfo) (z : Value) (size bytes : Nat) (ht : P.underlying t = some (.slice e)) (hi : P.info? e = some i) (hz : i.zero = some z)
    (hsize : i.size = size) (hby : i.bytes = bytes) (hzs : z.cells.size = size) (hsz : 0 < size) (v : Value) (n : Nat) (xs : List Value) (hown : ownsR w e size v n xs)
    (a : Addr) (m c : Nat) (news : List Value) (hl : news.length = m * size) (hnews : ∀ j u, news[j]? = some u → w.cell? (a.add j) = some u) (h1 : ∀ u ∈ news, u.oneCell' = true)
    (h63 : n + m ≤ maxLen) (hbytes : (n + m) * bytes ≤ 140737488355328) :
    ∃ v' w', (Builtin.append_ #[t, t] ty #[v, .slice (some a) m c]).run P w = .ok v' w' ∧ ownsR w' e size v' (n + m) (xs ++ news) ∧ w.grownBy w' v.ownBlock ∧ (v'.ownBlock = v.ownBlock ∨ v'.ownBlock = some w.heap.size) := by
  rcases hown.2 with ⟨hv, h0⟩ | ⟨g, pre, cap, cur, post, fz, hv, hfz, hg, hnc, hcm, hcs, htake⟩
  · obtain ⟨v', w', g1, g2, g3, _, g5⟩ := run_append_own_at (P := P) w 0 t ty e i z size bytes ht hi hz hsize hby hzs hsz v n xs ⟨hown.1, .inl ⟨hv, h0⟩⟩ a m c news hl hnews h1 h63 hbytes (Nat.zero_le _)
    exact ⟨v', w', g1, ownsR_of g2, g3, g5⟩
  · subst hsize
    subst hby
    subst hv
    have hsmall : n + m ≤ 9223372036854775807 := by simp only [maxLen] at h63; omega
    have hlen : (xs ++ news).length = (n + m) * i.size := by rw [List.length_append, hown.1, hl, Nat.add_mul]
    by_cases hroom : n + m ≤ cap
    · have hfit : n * i.size + news.length ≤ cur.length := by rw [hl, hcs, ← Nat.add_mul]; exact Nat.mul_le_mul_right _ hroom
      have hf := run_firstCells_some (P := P) w i.size m a m c news hl hnews
      have hst := run_storeCells_z P g (pre.length + n * i.size) e fz news 0 _ w hg (by simpa using hfz) (by simp only [List.size_toArray, List.length_append]; omega) h1
      simp only [Nat.add_zero] at hst
      rw [row_put hfit] at hst
      have hr : (Builtin.append_ #[t, t] ty #[.slice (some ⟨g, pre.length, none⟩) n cap, .slice (some a) m c]).run P w =
          .ok (.slice (some ⟨g, pre.length, none⟩) (n + m) cap) (w.setRow g (pre ++ (cur.take (n * i.size) ++ news ++ cur.drop (n * i.size + news.length)) ++ post).toArray) := by
        have e0 : (⟨g, pre.length, none⟩ : Addr).add (n * i.size) = ⟨g, pre.length + n * i.size, none⟩ := Addr.add_lit ..
        simp [Builtin.append_, run_underlying ht, sizeOf, typeInfo, hi, Builtin.lenOf, hroom, hf, e0, hst]
      have hszr : (cur.take (n * i.size) ++ news ++ cur.drop (n * i.size + news.length)).length = cur.length := by
        simp only [List.length_append, List.length_take, List.length_drop]
        omega
      refine ⟨_, _, hr, ⟨hlen, .inr ⟨g, pre, cap, _, post, fz, rfl, by rw [row_len hszr]; exact hfz, setRow_heap w g _ _ e _ hg, hroom, hcm, by rw [hszr]; exact hcs, ?_⟩⟩, ⟨rfl, rfl, rfl, by simp, fun k _ hk => setRow_other w g k _ (fun e => hk (by simp [Value.ownBlock, e]))⟩, Or.inl rfl⟩
      rw [htake, ← hlen]
      exact List.take_left
    · have holds : ∀ j u, xs[j]? = some u → w.cell? ((⟨g, pre.length, none⟩ : Addr).add j) = some u := hown.cells rfl
      have hr := run_append_grow (P := P) w t ty e i z ht hi hz ⟨g, pre.length, none⟩ n cap xs hown.1 holds a m c news hl hnews (by omega) (by omega) (growslice_fits (by omega) hbytes)
      have hge := grownCap_ge w (n + m) cap e
      have hcm2 : grownCap w (n + m) cap e ≤ maxLen := grownCap_le_maxLen w (n + m) cap e h63
      refine ⟨_, _, hr, ⟨hlen, .inr ⟨w.heap.size, [], _, Array.toList _, [], (0, 0), rfl, .inl rfl, (heap_alloc_new w.drew _).trans (by simp only [List.nil_append, List.append_nil, Array.toArray_toList]; rfl), hge, hcm2, ?_, ?_⟩⟩, ⟨rfl, rfl, rfl, by simp, fun k hk _ => heap_alloc_old w.drew _ k hk⟩, Or.inr rfl⟩
      · simp only [Array.length_toList, Array.size_append, List.size_toArray, size_zeroCells, hzs, hown.1, hl, ← Nat.add_mul]
        congr 1
        omega
      · simp only [Array.toList_append, List.append_assoc]
        rw [← List.append_assoc, ← hlen]
        exact List.take_left
theorem rw_append {ty E : TypeId} {sz by_ : Nat} {info : TypeInfo} {z : Value} {x y : Operand} {i : Nat} {R : RT α} [GRep R] {A B : Option Addr} {c cb nb : Nat} {dt ds dt' : List α} (hu : P.underlying ty = some (.slice E)) (hi : P.info? E = some info) (hz : info.zero = some z) (hsz : info.size = sz) (hby : info.bytes = by_) (hzs : z.cells.size = sz) (hpos : Nat.blt 0 sz = true)
    (hx : ev l x = some (.slice A dt.length c)) (hy : ev l y = some (.slice B nb cb)) (hnb : nb = ds.length) (h : Own sz E R (Mu U0 L) w A c dt) (hs : Src sz R (Mu U0 L) w B ds) (ha : app by_ dt ds = some dt') (hL : L[i]? = some (ob A)) (C : Ctx U0 X0 w0 L w) :
    RunW P N l ⟨d, .call { callee := .builtin .append, args := #[x, y], argTypes := #[ty, ty] }, t, ps, af, g⟩ w (OwnNew sz E R U0 X0 w0 L w [ob A] (L.set i) dt') := fun a haa => by
  have hpos' : 0 < sz := by simpa [Nat.blt_eq] using hpos
  subst hnb
  obtain ⟨hb1, hb2, rfl⟩ := app_some ha
  obtain ⟨xs, hown, he⟩ := h
  obtain ⟨es, hes, hm⟩ := hs
  have hel := Els.length _ _ hes
  have key : ∃ v' w', (Builtin.append_ #[ty, ty] t #[.slice A dt.length c, .slice B ds.length cb]).run P w = .ok v' w' ∧ ownsR w' E sz v' (dt.length + ds.length) (xs ++ es) ∧ w.grownBy w' (ob A) ∧ (v'.ownBlock = ob A ∨ v'.ownBlock = some w.heap.size) := by
    cases B with
    | none =>
      have h0 : es = [] := by
        cases es with
        | nil => rfl
        | cons u es => obtain ⟨_, h, _⟩ := hm 0 u rfl; cases h
      subst h0
      have hd0 : ds = [] := by
        cases ds with
        | nil => rfl
        | cons e ds => simp [Nat.succ_mul] at hel; omega
      subst hd0
      refine ⟨.slice A dt.length c, w, ?_, by simpa using hown, ⟨rfl, rfl, rfl, Nat.le_refl _, fun _ _ _ => rfl⟩, .inl (ownBlock_slice _ _ _)⟩
      rcases hown.2 with ⟨hv, h0⟩ | ⟨g', pre, cap, cur, post, fz, hv, _, _, hnc, _⟩
      · rw [hv]
        simp [Builtin.append_, run_underlying hu, sizeOf, typeInfo, hi, Builtin.lenOf, Builtin.firstCells]
      · injection hv with hA hn hc
        subst hA
        subst hc
        simp [Builtin.append_, run_underlying hu, sizeOf, typeInfo, hi, Builtin.lenOf, Builtin.firstCells, hnc, storeCells]
    | some ad =>
      obtain ⟨v', w', h1, h2, h3, h5⟩ := run_append_z (P := P) w ty t E info z sz by_ hu hi hz hsz hby hzs hpos' _ _ xs hown ad ds.length cb es hel (fun j u hu => by
        obtain ⟨ad', h1, h2⟩ := hm j u hu
        injection h1 with h1
        subst h1
        exact h2) (Els.one _ _ hes) (by simp only [maxLen]; omega) hb1
      rw [ownBlock_slice] at h3 h5
      exact ⟨v', w', h1, h2, h3, h5⟩
  obtain ⟨v', w', hrun, ho, hg, hob⟩ := key
  have hform : ∃ A' c', v' = .slice A' (dt.length + ds.length) c' := by
    rcases ho.2 with ⟨hv, h0⟩ | ⟨g', pre, cap, cur, post, fz, hv, _⟩
    · exact ⟨none, 0, by rw [hv, h0]⟩
    · exact ⟨_, _, hv⟩
  obtain ⟨A', c', rfl⟩ := hform
  rw [ownBlock_slice] at hob
  have hlt : ∀ b, ob A' = some b → b < w'.heap.size := fun b hb => ho.lt b (by rw [ownBlock_slice]; exact hb)
  have hT := C.turn (w' := w') (y := ob A') (L' := L.set i (ob A')) hL hg.os hg.tape hg.output hg.size (fun b hb hne => hg.block b hb fun e => hne e.symm) (by
    rcases hob with e | e
    · exact .inl e
    · exact .inr (.inr ⟨e, hlt _ e⟩)) rfl
  refine ⟨_, w', ?_, A', c', by rw [List.length_append], ⟨xs ++ es, by rw [List.length_append]; exact ho, ?_⟩, hT.1, hT.2⟩
  · simp only [execOp, resolve, invoke, builtin, Sem.run_bind, Sem.run_pure, Result.andThen_ok, List.map_toArray, List.map_cons, List.map_nil, haa.ev hx, haa.ev hy, hrun]
  · exact Els.append _ _ _ _ (Els.step hT.2.h1 hT.2.mono _ _ he) (Els.step hT.2.h1 hT.2.mono _ _ hes)
theorem mk_some {by_ : Nat} {z : α} {n : Int} {l' : List α} (h : mk by_ z n = some l') : 0 ≤ n ∧ n * by_ ≤ 140737488355328 ∧ n ≤ 9223372036854775807 ∧ l' = List.replicate n.toNat z := by
  unfold mk at h
  split at h
  · rename_i h0
    simp only [Option.some.injEq] at h
    exact ⟨h0.1, h0.2.1, h0.2.2, h.symm⟩
  · cases h
theorem Els.replicate {sz : Nat} {R : RT α} {U : Nat → Prop} {e : List Value} {x : α} (hl : e.length = sz) (hr : R U w e x) : ∀ n, Els sz R U w (List.replicate n e).flatten (List.replicate n x)
  | 0 => rfl
  | n + 1 => ⟨e, _, by simp [List.replicate_succ], hl, hr, Els.replicate hl hr n⟩
theorem madeCells_flatten (z : List Value) (n : Nat) : (madeCells z.toArray (n * z.length)).toList = (List.replicate n z).flatten := by
  have h : ∀ n k, ((List.replicate n z).flatten)[k]? = if k < n * z.length then z[k % z.length]? else none := by
    intro n
    induction n with
    | zero => intro k; simp
    | succ n ih =>
      intro k
      rw [List.replicate_succ, List.flatten_cons, List.getElem?_append]
      split
      · rename_i hk
        rw [Nat.mod_eq_of_lt hk, if_pos (by rw [Nat.succ_mul]; omega)]
      · rename_i hk
        rw [ih, Nat.succ_mul]
        rcases Nat.eq_zero_or_pos z.length with h0 | h0
        · simp [h0]
        · by_cases h2 : k - z.length < n * z.length
          · rw [if_pos h2, if_pos (by omega)]
            rw [Nat.mod_eq_sub_mod (a := k) (by omega)]
          · rw [if_neg h2, if_neg (by omega)]
  refine List.ext_getElem? fun k => ?_
  rw [h]
  simp only [madeCells, Array.toList_map, Array.toList_range, List.getElem?_map, List.size_toArray]
  by_cases hk : k < n * z.length
  · have hz : 0 < z.length := by
      rcases Nat.eq_zero_or_pos z.length with h0 | h0
      · rw [h0] at hk; omega
      · exact h0
    have hm := Nat.mod_lt k hz
    simp [hk, hm]
  · simp [hk]
theorem rw_make {ty E : TypeId} {sz by_ : Nat} {info : TypeInfo} {z : Value} {zs : List Value} {x y : Operand} {k k' : IntKind} {n : Int} {R : RT α} [GRep R] {e : α} {dt : List α} (hu : P.underlying ty = some (.slice E)) (hi : P.info? E = some info) (hz : info.zero = some z) (hsz : info.size = sz) (hby : info.bytes = by_) (hzs : z.cells = zs.toArray) (hn : zs.length = sz)
    (hx : ev l x = some (.int k n)) (hy : ev l y = some (.int k' n)) (hr : ∀ U w, R U w zs e) (hm : mk by_ e n = some dt) (C : Ctx U0 X0 w0 L w) :
    RunW P N l ⟨d, .makeSlice ty x y, t, ps, af, g⟩ w (OwnNew sz E R U0 X0 w0 L w [] (fun y => y :: L) dt) := fun a ha => by
  obtain ⟨h0, h1, h2, rfl⟩ := mk_some hm
  have hrun := run_make (P := P) w ty E info z hu hi hz k k' n n h0 (Int.le_refl _) (by rw [hby, Int.mul_comm]; omega) h2
  have hcells : (madeCells z.cells (n.toNat * info.size)).toList = (List.replicate n.toNat zs).flatten := by rw [hzs, hsz, ← hn]; exact madeCells_flatten _ _
  have hA := C.alloc (.cells (madeCells z.cells (n.toNat * info.size)) E)
  refine ⟨.slice (some ⟨w.heap.size, 0, none⟩) n.toNat n.toNat, w.alloc (.cells (madeCells z.cells (n.toNat * info.size)) E), ?_, some ⟨w.heap.size, 0, none⟩, n.toNat, ?_, ?_, hA.1, hA.2⟩
  · simp only [execOp, ha.ev hx, ha.ev hy, Sem.run_bind, hrun, Result.andThen_ok]; rfl
  · rw [List.length_replicate]
  · refine own_mk (.inl rfl) (heap_alloc_new w _) (by simp) (by simp only [maxLen]; omega) (by simp [size_madeCells, hsz]) ?_
    rw [hcells, List.length_replicate]
    have he := Els.replicate (w := w.alloc (.cells (madeCells z.cells (n.toNat * info.size)) E)) hn (hr (Mu U0 (some w.heap.size :: L)) _) n.toNat
    have := Els.length _ _ he
    rw [List.length_replicate] at this
    rw [List.take_of_length_le (by omega)]
    exact he
theorem mkc_some {by_ : Nat} {z : α} {n c : Int} {l' : List α} (h : mkc by_ z n c = some l') : 0 ≤ n ∧ n ≤ c ∧ c * by_ ≤ 140737488355328 ∧ c ≤ 9223372036854775807 ∧ l' = List.replicate n.toNat z := by
  unfold mkc at h
  split at h
  · rename_i h0
    simp only [Option.some.injEq] at h
    exact ⟨h0.1, h0.2.1, h0.2.2.1, h0.2.2.2, h.symm⟩
  · cases h
theorem rw_makec {ty E : TypeId} {sz by_ : Nat} {info : TypeInfo} {z : Value} {zs : List Value} {x y : Operand} {k k' : IntKind} {n m : Int} {R : RT α} [GRep R] {e : α} {dt : List α} (hu : P.underlying ty = some (.slice E)) (hi : P.info? E = some info) (hz : info.zero = some z) (hsz : info.size = sz) (hby : info.bytes = by_) (hzs : z.cells = zs.toArray) (hn : zs.length = sz)
    (hx : ev l x = some (.int k n)) (hy : ev l y = some (.int k' m)) (hr : ∀ U w, R U w zs e) (hm : mkc by_ e n m = some dt) (C : Ctx U0 X0 w0 L w) :
    RunW P N l ⟨d, .makeSlice ty x y, t, ps, af, g⟩ w (OwnNew sz E R U0 X0 w0 L w [] (fun y => y :: L) dt) := fun a ha => by
  obtain ⟨h0, hnm, h1, h2, rfl⟩ := mkc_some hm
  have hrun := run_make (P := P) w ty E info z hu hi hz k k' n m h0 hnm (by rw [hby, Int.mul_comm]; omega) h2
  have hcells : (madeCells z.cells (m.toNat * info.size)).toList = (List.replicate m.toNat zs).flatten := by rw [hzs, hsz, ← hn]; exact madeCells_flatten _ _
  have hA := C.alloc (.cells (madeCells z.cells (m.toNat * info.size)) E)
  refine ⟨.slice (some ⟨w.heap.size, 0, none⟩) n.toNat m.toNat, w.alloc (.cells (madeCells z.cells (m.toNat * info.size)) E), ?_, some ⟨w.heap.size, 0, none⟩, m.toNat, ?_, ?_, hA.1, hA.2⟩
  · simp only [execOp, ha.ev hx, ha.ev hy, Sem.run_bind, hrun, Result.andThen_ok]; rfl
  · rw [List.length_replicate]
  · refine own_mk (.inl rfl) (heap_alloc_new w _) (by rw [List.length_replicate]; omega) (by simp only [maxLen]; omega) (by simp [size_madeCells, hsz]) ?_
    rw [hcells, List.length_replicate]
    have he := Els.replicate (w := w.alloc (.cells (madeCells z.cells (m.toNat * info.size)) E)) hn (hr (Mu U0 (some w.heap.size :: L)) _) m.toNat
    have := Els.take n.toNat _ _ he
    rw [List.take_replicate, Nat.min_eq_left (by omega)] at this
    exact this
end
end V
end Go.Proofs.YtladkmnfmpojiaaGreatDoor
namespace Go.Proofs.YtladkmnfmpojiaaGreatDoor
namespace V

section
variable {P : Program} {px : Value → World → Prop} {N : Nat} {l : Env} {d : Option Nat} {t : TypeId} {ps : String} {af : Array Edge} {g : Option (Nat × Bool)}
variable {α : Type} {U0 : Nat → Prop} {X0 : List (Option Nat)} {w0 w : World} {L : List (Option Nat)}

/-- A slice literal, its elements all given. -/
def seqParts (k : Nat) : List Value → List (Nat × Value)
  | [] => []
  | v :: vs => (k, v) :: seqParts (k + 1) vs
theorem put_cells (v : List Value) : ∀ (j off : Nat) (cs : Array Value), off + j + v.length ≤ cs.size →
    (((v.zipIdx j).foldl (fun cs (x : Value × Nat) => cs.setIfInBounds (off + x.2) x.1) cs)).toList = cs.toList.take (off + j) ++ v ++ cs.toList.drop (off + j + v.length) := by
  induction v with
  | nil => intro j off cs h; simp
  | cons u v ih =>
    intro j off cs h
    simp only [List.length_cons] at h
    simp only [List.zipIdx_cons, List.foldl_cons]
    rw [ih (j + 1) off _ (by simp; omega)]
    simp only [Array.toList_setIfInBounds]
    have h1 : off + j < cs.toList.length := by simp; omega
    rw [show off + (j + 1) = off + j + 1 from by omega, List.take_add_one, List.take_set_of_le (by omega), List.getElem?_set_self h1, List.drop_set_of_lt (by omega)]
    simp only [Option.toList_some, List.append_assoc, List.cons_append, List.nil_append, List.length_cons]
    rw [show off + j + 1 + v.length = off + j + (v.length + 1) from by omega]
theorem fill_seq (sz : Nat) : ∀ (vs : List Value) (k : Nat) (cs : Array Value), (∀ v ∈ vs, v.cells.size = sz) → (k + vs.length) * sz ≤ cs.size →
    ∃ cs', Instr.fill (fun i => some (i * sz, sz)) cs (seqParts k vs) = some cs' ∧ cs'.toList = cs.toList.take (k * sz) ++ (vs.map (·.cells.toList)).flatten ++ cs.toList.drop ((k + vs.length) * sz)
  | [], k, cs, _, _ => ⟨cs, rfl, by simp⟩
  | v :: vs, k, cs, hv, hle => by
    have h1 := hv v (by simp)
    simp only [List.length_cons] at hle
    have hle2 : k * sz + sz ≤ cs.size := by
      refine Nat.le_trans ?_ hle
      rw [← Nat.succ_mul]
      exact Nat.mul_le_mul_right _ (by omega)
    have hp := put_cells v.cells.toList 0 (k * sz) cs (by simp; omega)
    have hzi : v.cells.zipIdx.foldl (fun cs (c, j) => cs.setIfInBounds (k * sz + j) c) cs = (v.cells.toList.zipIdx 0).foldl (fun cs (x : Value × Nat) => cs.setIfInBounds (k * sz + x.2) x.1) cs := by
      rw [← Array.foldl_toList, Array.toList_zipIdx]
    obtain ⟨cs', hf, ht⟩ := fill_seq sz vs (k + 1) (v.cells.zipIdx.foldl (fun cs (c, j) => cs.setIfInBounds (k * sz + j) c) cs) (fun u hu => hv u (by simp [hu])) (by
      rw [← Array.length_toList, hzi, hp]
      simp only [List.length_append, List.length_take, List.length_drop, Array.length_toList]
      rw [show k + 1 + vs.length = k + (vs.length + 1) from by omega]
      omega)
    refine ⟨cs', ?_, ?_⟩
    · simp only [seqParts, Instr.fill]
      rw [if_neg (by simp [h1]; omega)]
      exact hf
    · rw [ht, hzi, hp]
      have h2 : (k + 1) * sz = k * sz + sz := Nat.succ_mul k sz
      have e1 : (k + 1 + vs.length) * sz = k * sz + sz + vs.length * sz := by rw [Nat.add_mul, h2]
      have hl : v.cells.toList.length = sz := by simp [h1]
      simp only [List.map_cons, List.flatten_cons, List.length_cons, Nat.add_zero]
      rw [show k + (vs.length + 1) = k + 1 + vs.length from by omega, h2, e1]
      have e2 : (List.take (k * sz) cs.toList ++ v.cells.toList).length = k * sz + sz := by simp [h1]; omega
      rw [List.take_append_of_le_length (by omega), List.take_of_length_le (by omega), List.drop_append, e2, List.drop_of_length_le (by rw [e2]; omega), List.drop_drop, hl]
      simp only [List.append_assoc, List.nil_append]
      congr 3
      congr 1
      omega
theorem evp_of {a : Act} (ha : Holds N l a) : ∀ (parts : List (Nat × Operand)) (k : Nat) (vs : List Value), parts.mapM (fun p => ev l p.2) = some vs → parts.map (·.1) = (List.range' k parts.length) → parts.map (fun p => (p.1, a.eval p.2)) = seqParts k vs := by
  intro parts
  induction parts with
  | nil => intro k vs h _; simp at h; subst h; rfl
  | cons p ps ih =>
    intro k vs h hk
    simp only [List.mapM_cons] at h
    cases he : ev l p.2 with
    | none => simp [he] at h
    | some v =>
      cases hr : ps.mapM (fun p => ev l p.2) with
      | none => simp [he, hr] at h
      | some r =>
        simp [he, hr] at h
        subst h
        simp only [List.map_cons, List.length_cons, List.range'_succ, List.cons.injEq] at hk
        simp [ha.ev he, ih (k + 1) r hr hk.2, seqParts, hk.1]
theorem run_buildSlice {ty E : TypeId} {sz n : Nat} {z : Value} {vs es : List Value} (hu : P.underlying ty = some (.slice E)) (hs : ∀ w, (sizeOf E).run P w = .ok sz w) (hz : ∀ w, (zeroValue E).run P w = .ok z w) (hn : vs.length = n) (hsmall : n * sz ≤ 16777216)
    (hsz : ∀ v ∈ vs, v.cells.size = sz) (hes : (vs.map (·.cells.toList)).flatten = es) : (Instr.buildSlice ty n (seqParts 0 vs).toArray).run P w = .ok (.slice (some ⟨w.heap.size, 0, none⟩) n n) (w.alloc (.cells es.toArray E)) := by
  have hrun : ∀ zc : Array Value, Instr.fill (fun i => some (i * sz, sz)) ((Array.range (n * sz)).map (zc[· % zc.size]!)) (seqParts 0 vs) = some es.toArray := fun zc => by
    obtain ⟨cs', h1, h2⟩ := fill_seq sz vs 0 ((Array.range (n * sz)).map (zc[· % zc.size]!)) hsz (by simp [hn])
    rw [h1]
    congr 1
    apply Array.ext'
    rw [h2, hes]
    simp [hn]
  have hbig : ¬ (n * sz > 2 ^ 24) := by
    rw [show (2 : Nat) ^ 24 = 16777216 from rfl]
    omega
  unfold Instr.buildSlice
  simp only [Sem.run_bind, run_underlying hu, Result.andThen_ok, hs]
  rw [if_neg hbig]
  by_cases h0 : n * sz = 0
  · simp only [h0, if_true, Sem.run_bind, Sem.run_pure, Result.andThen_ok]
    have := hrun #[]
    rw [h0] at this
    simp only [this, Sem.run_bind, newRow, run_newObj, Sem.run_pure, Result.andThen_ok]
    rfl
  · simp only [h0, if_false, Sem.run_bind, hz, Sem.run_pure, Result.andThen_ok]
    simp only [hrun z.cells, Sem.run_bind, newRow, run_newObj, Sem.run_pure, Result.andThen_ok]
    rfl
theorem rw_buildSlice {ty E : TypeId} {sz n : Nat} {z : Value} {parts : List (Nat × Operand)} {vs es : List Value} {R : RT α} [GRep R] {dt : List α} (hu : P.underlying ty = some (.slice E)) (hs : ∀ w, (sizeOf E).run P w = .ok sz w) (hz : ∀ w, (zeroValue E).run P w = .ok z w) (hpos : Nat.blt 0 sz = true) (hn : vs.length = n) (hn2 : dt.length = n) (hsmall : Nat.ble (n * sz) 16777216 = true)
    (hk : parts.map (·.1) = List.range' 0 parts.length) (hv : parts.mapM (fun p => ev l p.2) = some vs) (hvs : vs.all (fun v => Nat.beq v.cells.size sz) = true) (hes : (vs.map (·.cells.toList)).flatten = es) (hr : Els sz R (Mu U0 L) w es dt) (C : Ctx U0 X0 w0 L w) :
    RunW P N l ⟨d, .buildSlice ty n parts.toArray, t, ps, af, g⟩ w (OwnNew sz E R U0 X0 w0 L w [] (fun y => y :: L) dt) := fun a ha => by
  have hp := evp_of ha parts 0 vs hv hk
  have hsz : ∀ v ∈ vs, v.cells.size = sz := fun v hv' => Nat.eq_of_beq_eq_true (List.all_eq_true.1 hvs v hv')
  have hle : n * sz ≤ 16777216 := Nat.le_of_ble_eq_true hsmall
  have hpos' : 0 < sz := by simpa [Nat.blt_eq] using hpos
  have hesl := Els.length _ _ hr
  rw [hn2] at hesl
  have hfun : (fun (x : Nat × Operand) => match x with | (i, x) => (i, a.eval x)) = fun p => (p.1, a.eval p.2) := rfl
  have hrun := run_buildSlice (P := P) (w := w) hu hs hz hn hle hsz hes
  have hT := C.alloc (.cells es.toArray E)
  have hnle : n ≤ n * sz := Nat.le_mul_of_pos_right n hpos'
  refine ⟨.slice (some ⟨w.heap.size, 0, none⟩) n n, w.alloc (.cells es.toArray E), ?_, some ⟨w.heap.size, 0, none⟩, n, by rw [hn2], ?_, hT.1, hT.2⟩
  · simp only [execOp, List.map_toArray, hp, Sem.run_bind, hrun, Result.andThen_ok]
    rfl
  · refine own_mk (.inl rfl) (heap_alloc_new w _) (by omega) (Nat.le_trans (Nat.le_trans hnle hle) (by unfold maxLen; decide)) (by simp [hesl]) ?_
    rw [hn2, List.take_of_length_le (by simp [hesl])]
    exact Els.step hT.2.h1 hT.2.mono _ _ hr

/-! ### copy -/
theorem cpy_eq {l m : List α} : (cpy l m).length = l.length := by
  simp [cpy]
  omega
theorem run_copy_z (w : World) (dT sT ty elem : TypeId) (g o dLen dCap : Nat) (a : Addr) (sLen sCap : Nat) (cur : Array Value) (t : TypeId) (fz : Nat × Nat) (hfz : Fz t fz cur.size) (cs : List Value)
    (hu : P.underlying dT = some (.slice elem)) (hs : (P.info? elem).map (·.size) = some 1)
    (hg : w.heap[g]? = some (.cells cur t fz)) (hn : cs.length = Nat.min sLen dLen)
    (hsrc : ∀ j v, cs[j]? = some v → w.cell? (a.add j) = some v) (hfit : o + cs.length ≤ cur.size) (h1 : ∀ v ∈ cs, v.oneCell' = true) :
    (Builtin.copy_ #[dT, sT] ty #[.slice (some ⟨g, o, none⟩) dLen dCap, .slice (some a) sLen sCap]).run P w =
      .ok (goInt cs.length) (w.setRow g (cur.toList.take o ++ cs ++ cur.toList.drop (o + cs.length)).toArray) := by
  have hl := run_loadCells_list (P := P) w a cs hsrc
  have hst := run_storeCells_z P g o t fz cs 0 cur w hg hfz (by simpa using hfit) h1
  cases hq : P.info? elem with
  | none => simp [hq] at hs
  | some i =>
    have hi : i.size = 1 := by simpa [hq] using hs
    simp [Builtin.copy_, run_underlying hu, Builtin.lenOf, Builtin.firstCells, sizeOf, typeInfo, hq, hi, ← hn, hl, hst]
theorem rw_copy {ty ty2 E : TypeId} {x y : Operand} {i nb cb c : Nat} {A B : Option Addr} {R : RT α} [GRep R] {dt ds : List α} (hu : P.underlying ty = some (.slice E)) (hs : (P.info? E).map (·.size) = some 1)
    (hx : ev l x = some (.slice A dt.length c)) (hy : ev l y = some (.slice B nb cb)) (hnb : nb = ds.length) (h : Own 1 E R (Mu U0 L) w A c dt) (hsrc : Src 1 R (Mu U0 L) w B ds) (hL : L[i]? = some (ob A)) (C : Ctx U0 X0 w0 L w) :
    RunW P N l ⟨d, .call { callee := .builtin .copy, args := #[x, y], argTypes := #[ty, ty2] }, t, ps, af, g⟩ w (fun v w' => v = .int .i64 (imin (len ds) (len dt)) ∧ OwnTurned 1 E R U0 X0 w0 L w A c (cpy dt ds) w') := fun a ha => by
  subst hnb
  obtain ⟨es, he, hm⟩ := hsrc
  have hel := Els.length _ _ he
  rw [Nat.mul_one] at hel
  have hmin : ∀ m n : Nat, imin (m : Int) (n : Int) = ((Nat.min m n : Nat) : Int) := fun m n => by
    rw [show Nat.min m n = min m n from rfl]
    unfold imin
    split <;> omega
  rcases own_form h with ⟨rfl, rfl, rfl⟩ | ⟨b, pre, cur, post, fz, rfl, hfz, hg, hle, hc, hsz, hed⟩
  · refine ⟨_, w, ?_, rfl, ?_, ?_, ?_⟩
    · obtain ⟨i0, hi0⟩ : ∃ i0, P.info? E = some i0 := by
        cases hq : P.info? E with
        | none => simp [hq] at hs
        | some i0 => exact ⟨i0, rfl⟩
      have hf : (Builtin.firstCells i0.size 0 (.slice B ds.length cb)).run P w = .ok #[] w := by
        cases B <;> simp [Builtin.firstCells, loadCells, loadCellsFrom]
      have h0 : imin (len ds) (len ([] : List α)) = 0 := by
        show imin (ds.length : Int) ((0 : Nat) : Int) = 0
        rw [hmin]
        simp
      rw [h0]
      simp [execOp, resolve, invoke, builtin, ha.ev hx, ha.ev hy, Builtin.copy_, run_underlying hu, Builtin.lenOf, sizeOf, typeInfo, hi0, hf, goInt]
    · have : cpy ([] : List α) ds = [] := List.eq_nil_of_length_eq_zero (by rw [cpy_eq]; rfl)
      rw [this]
      exact h
    · exact C
    · exact ⟨Nat.le_refl _, fun _ _ _ => rfl, fun b e => (by simp [ob] at e), fun _ _ hM => hM⟩
  · rw [Nat.mul_one] at hsz
    have hk : Nat.min ds.length dt.length ≤ cur.length := by rw [hsz]; exact Nat.le_trans (Nat.min_le_right _ _) hle
    have hl : (es.take (Nat.min ds.length dt.length)).length = Nat.min ds.length dt.length := by
      rw [List.length_take, hel]
      exact Nat.min_eq_left (Nat.min_le_left _ _)
    have hL' : L[i]? = some (some b) := hL
    have hput := row_put (pre := pre) (cur := cur) (post := post) (vs := es.take (Nat.min ds.length dt.length)) (k := 0) (by rw [hl]; omega)
    rw [Nat.add_zero, Nat.zero_add, hl] at hput
    have hrun : (Builtin.copy_ #[ty, ty2] t #[.slice (some ⟨b, pre.length, none⟩) dt.length c, .slice B ds.length cb]).run P w =
        .ok (goInt ((Nat.min ds.length dt.length : Nat) : Int)) (w.setRow b (pre ++ (cur.take 0 ++ es.take (Nat.min ds.length dt.length) ++ cur.drop (Nat.min ds.length dt.length)) ++ post).toArray) := by
      cases B with
      | some ad =>
        have := run_copy_z (P := P) w ty ty2 t E b pre.length dt.length c ad ds.length cb _ E fz (by simpa using hfz) (es.take (Nat.min ds.length dt.length)) hu hs hg hl (fun j u hu => by
          rw [List.getElem?_take] at hu
          split at hu
          · obtain ⟨ad', h1, h2⟩ := hm j u hu
            injection h1 with h1
            subst h1
            exact h2
          · cases hu) (by rw [hl]; simp only [List.size_toArray, List.length_append]; omega) (fun u hu => Els.one _ _ he u (List.mem_of_mem_take hu))
        rw [hl] at this
        rw [← hput]
        exact this
      | none =>
        have h0 : es = [] := by
          cases es with
          | nil => rfl
          | cons u es => obtain ⟨_, h, _⟩ := hm 0 u rfl; cases h
        subst h0
        have hd : ds = [] := List.eq_nil_of_length_eq_zero hel.symm
        subst hd
        obtain ⟨i0, hi0⟩ : ∃ i0, P.info? E = some i0 := by
          cases hq : P.info? E with
          | none => simp [hq] at hs
          | some i0 => exact ⟨i0, rfl⟩
        have hset2 : w.setRow b (pre ++ cur ++ post).toArray = w := setRow_self w b _ E fz hg
        simp [Builtin.copy_, run_underlying hu, Builtin.lenOf, Builtin.firstCells, sizeOf, typeInfo, hi0, storeCells]
        simpa using hset2.symm
    obtain ⟨k1, k2, k3⟩ := setRow_turnz C hL' hg (cs' := pre ++ (cur.take 0 ++ es.take (Nat.min ds.length dt.length) ++ cur.drop (Nat.min ds.length dt.length)) ++ post)
    refine ⟨_, _, ?_, rfl, ?_, k2, k3⟩
    · simp only [execOp, resolve, invoke, builtin, Sem.run_bind, Sem.run_pure, Result.andThen_ok, List.map_toArray, List.map_cons, List.map_nil, ha.ev hx, ha.ev hy, hrun, goInt, len, hmin]
    · have hlen : (cur.take 0 ++ es.take (Nat.min ds.length dt.length) ++ cur.drop (Nat.min ds.length dt.length)).length = cur.length := by
        rw [List.length_append, List.length_append, hl, List.length_drop]
        simp only [List.take_zero, List.length_nil]
        omega
      refine own_mk2 (by rw [row_len hlen]; exact hfz) k1 (by rw [cpy_eq]; exact hle) hc (by rw [hlen, Nat.mul_one]; exact hsz) ?_
      have e1 : (cur.take 0 ++ es.take (Nat.min ds.length dt.length) ++ cur.drop (Nat.min ds.length dt.length)).take ((cpy dt ds).length * 1) =
          es.take (dt.length * 1) ++ (cur.take (dt.length * 1)).drop (ds.length * 1) := by
        rw [cpy_eq]
        simp only [List.take_zero, List.nil_append, Nat.mul_one]
        rw [List.take_append, hl, List.drop_take]
        rcases Nat.le_total ds.length dt.length with h | h
        · have hmn : Nat.min ds.length dt.length = ds.length := Nat.min_eq_left h
          rw [hmn, List.take_of_length_le (i := ds.length) (by omega), List.take_of_length_le (i := dt.length) (by omega)]
        · have hmn : Nat.min ds.length dt.length = dt.length := Nat.min_eq_right h
          rw [hmn, Nat.sub_self, List.take_zero, Nat.sub_eq_zero_of_le h, List.take_zero, List.take_take, Nat.min_self]
      rw [e1]
      refine Els.step k3.h1 k3.mono _ _ ?_
      exact Els.append _ _ _ _ (Els.take _ _ _ he) (Els.drop _ _ _ hed)

/-! ### Slicing -/
theorem sub_some {l l' : List α} {lo hi : Int} (h : sub l lo hi = some l') : 0 ≤ lo ∧ lo ≤ hi ∧ hi ≤ l.length ∧ l' = (l.take hi.toNat).drop lo.toNat := by
  unfold sub at h
  split at h
  · rename_i h0
    simp only [Option.some.injEq] at h
    exact ⟨h0.1, h0.2.1, h0.2.2, h.symm⟩
  · cases h
theorem sl_run {ty E : TypeId} {sz : Nat} {x : Operand} {lo hi : Option Operand} {lov hiv : Option Value} {a b : Int} {A : Option Addr} {c : Nat} {dt dt' : List α} (hu : P.underlying ty = some (.slice E)) (hs : ∀ w, (sizeOf E).run P w = .ok sz w)
    (hx : ev l x = some (.slice A dt.length c)) (hlo : lo.mapM (ev l) = some lov) (hhi : hi.mapM (ev l) = some hiv) (hla : (lov = none ∧ a = 0) ∨ ∃ k, lov = some (.int k a)) (hlb : (hiv = none ∧ b = len dt) ∨ ∃ k, hiv = some (.int k b))
    (hlc : dt.length ≤ c) (_ : c ≤ maxLen) (hsub : sub dt a b = some dt') {d : Option Nat} {t : TypeId} {ps : String} {af : Array Edge} {g : Option (Nat × Bool)} {w : World} :
    RunV P N l ⟨d, .slice ty x lo hi none, t, ps, af, g⟩ w (.slice (if c = a.toNat then A else A.map (·.add (a.toNat * sz))) dt'.length (c - a.toNat)) := fun ac ha => by
  obtain ⟨h0, h1, h2, rfl⟩ := sub_some hsub
  have hlen : (List.drop a.toNat (List.take b.toNat dt)).length = b.toNat - a.toNat := by
    rw [List.length_drop, List.length_take, Nat.min_eq_left (by omega)]
  have e1 : (some <$> lo).map id = some <$> lo := by cases lo <;> rfl
  have hlo' : lo.map ac.eval = lov := by
    cases lo with
    | none => simpa using hlo
    | some o =>
      simp only [Option.mapM_some] at hlo
      cases hq : ev l o with
      | none => simp [hq] at hlo
      | some v => simp [hq] at hlo; subst hlo; simp [ha.ev hq]
  have hhi' : hi.map ac.eval = hiv := by
    cases hi with
    | none => simpa using hhi
    | some o =>
      simp only [Option.mapM_some] at hhi
      cases hq : ev l o with
      | none => simp [hq] at hhi
      | some v => simp [hq] at hhi; subst hhi; simp [ha.ev hq]
  have hb : (Instr.sliceBounds true dt.length c lov hiv none).run P w = .ok (a.toNat, b.toNat, c) w := by
    have hh : ((match hiv, (none : Option Value) with
        | some v, some _ => Instr.sliceBound v c .slice3B
        | some v, none => Instr.sliceBound v c .sliceAcap
        | none, none => pure dt.length
        | none, some _ => stuck "" : Sem Nat)).run P w = .ok b.toNat w := by
      rcases hlb with ⟨rfl, rfl⟩ | ⟨k', rfl⟩
      · simp [len]
      · exact run_sliceBound w k' b c _ (by omega) (by omega)
    have hl : ((match lov with
        | some v => Instr.sliceBound v b.toNat .sliceB
        | none => pure 0 : Sem Nat)).run P w = .ok a.toNat w := by
      rcases hla with ⟨rfl, rfl⟩ | ⟨k', rfl⟩
      · simp
      · exact run_sliceBound w k' a b.toNat _ (by omega) (by omega)
    unfold Instr.sliceBounds
    rcases hlb with ⟨rfl, rfl⟩ | ⟨k', rfl⟩ <;> rcases hla with ⟨rfl, rfl⟩ | ⟨k, rfl⟩ <;> simp [len] at hh hl ⊢ <;> simp [hh, hl]
  simp only [execOp, ha.ev hx, hlo', hhi', Option.map_none, Instr.sliceAt, Sem.run_bind, run_underlying hu, Result.andThen_ok, Instr.slice, hb, hs]
  rw [hlen]
  rfl
theorem sl_sub {ty E : TypeId} {sz : Nat} {x : Operand} {lo hi : Option Operand} {lov hiv : Option Value} {a b : Int} {R : RT α} {U : Nat → Prop} {A : Option Addr} {c : Nat} {dt dt' : List α} (hu : P.underlying ty = some (.slice E)) (hs : ∀ w, (sizeOf E).run P w = .ok sz w)
    (hx : ev l x = some (.slice A dt.length c)) (hlo : lo.mapM (ev l) = some lov) (hhi : hi.mapM (ev l) = some hiv) (hla : (lov = none ∧ a = 0) ∨ ∃ k, lov = some (.int k a)) (hlb : (hiv = none ∧ b = len dt) ∨ ∃ k, hiv = some (.int k b))
    (h : Sl sz R U w A c dt) (hsub : sub dt a b = some dt') :
    ∃ A' c', (∀ {d : Option Nat} {t : TypeId} {ps : String} {af : Array Edge} {g : Option (Nat × Bool)} {w : World}, RunV P N l ⟨d, .slice ty x lo hi none, t, ps, af, g⟩ w (.slice A' dt'.length c')) ∧ Sl sz R U w A' c' dt' := by
  have hsub0 := hsub
  obtain ⟨h0, h1, h2, rfl⟩ := sub_some hsub
  obtain ⟨hlc, hcm, es, he, hm⟩ := h
  have hlen : (List.drop a.toNat (List.take b.toNat dt)).length = b.toNat - a.toNat := by
    rw [List.length_drop, List.length_take, Nat.min_eq_left (by omega)]
  refine ⟨if c = a.toNat then A else A.map (·.add (a.toNat * sz)), c - a.toNat, fun {d t ps af g w} => sl_run hu hs hx hlo hhi hla hlb hlc hcm hsub0, by omega, by omega, _, Els.drop a.toNat _ _ (Els.take b.toNat _ _ he), fun j u hj => ?_⟩
  · rw [List.getElem?_drop, List.getElem?_take] at hj
    split at hj
    · obtain ⟨ad, rfl, hn, hc⟩ := hm _ u hj
      have hne : c ≠ a.toNat := fun e => by
        have h5 := (List.getElem?_eq_some_iff.1 hj).1
        have h6 := Els.length _ _ he
        have h7 : c * sz ≤ a.toNat * sz := by rw [e]; exact Nat.le_refl _
        have h8 : dt.length * sz ≤ c * sz := Nat.mul_le_mul_right _ hlc
        omega
      rw [if_neg hne]
      exact ⟨_, rfl, by rw [block_add]; exact hn, by rw [add_add]; exact hc⟩
    · cases hj

/-- A part of a row of the call's own, which goes on as the row. -/
theorem own_sub {E : TypeId} {sz : Nat} {R : RT α} {U : Nat → Prop} {A : Option Addr} {c : Nat} {dt dt' : List α} {a b : Int} (h : Own sz E R U w A c dt) (hsub : sub dt a b = some dt') :
    Own sz E R U w (if c = a.toNat then A else A.map (·.add (a.toNat * sz))) (c - a.toNat) dt' := by
  obtain ⟨h0, h1, h2, rfl⟩ := sub_some hsub
  rcases own_form h with ⟨rfl, rfl, rfl⟩ | ⟨g, pre, cur, post, fz, rfl, hfz, hg, hle, hm, hsz, he⟩
  · have hb : b.toNat = 0 := by simp at h2; omega
    have ha : a.toNat = 0 := by omega
    simp only [ha, if_true]
    simpa using Own.nil
  · have hlen : ((dt.take b.toNat).drop a.toNat).length = b.toNat - a.toNat := by
      rw [List.length_drop, List.length_take, Nat.min_eq_left (by omega)]
    have hab : b.toNat ≤ dt.length := by omega
    by_cases hc : c = a.toNat
    · rw [if_pos hc]
      have hd : (dt.take b.toNat).drop a.toNat = [] := List.eq_nil_of_length_eq_zero (by rw [hlen]; omega)
      rw [hd, hc, Nat.sub_self]
      refine own_mk2 (cur := []) (post := cur ++ post) (fz := fz) (by simpa using hfz) (by simpa using hg) (Nat.zero_le _) (Nat.zero_le _) (by simp) ?_
      simp [Els]
    · rw [if_neg hc]
      have hk : a.toNat * sz ≤ cur.length := by rw [hsz]; exact Nat.mul_le_mul_right _ (by omega)
      have hpl : (pre ++ cur.take (a.toNat * sz)).length = pre.length + a.toNat * sz := by
        rw [List.length_append, List.length_take, Nat.min_eq_left hk]
      have heq : pre ++ cur.take (a.toNat * sz) ++ cur.drop (a.toNat * sz) ++ post = pre ++ cur ++ post := by
        rw [List.append_assoc pre, List.take_append_drop]
      have hA : (some (⟨g, pre.length, none⟩ : Addr)).map (·.add (a.toNat * sz)) = some ⟨g, (pre ++ cur.take (a.toNat * sz)).length, none⟩ := by
        rw [hpl, Option.map_some, add_lit]
      rw [hA]
      refine own_mk2 (cur := cur.drop (a.toNat * sz)) (post := post) (fz := fz) (by rw [heq]; exact hfz) (by rw [heq]; exact hg) (by rw [hlen]; omega) (by omega) (by rw [List.length_drop, hsz, Nat.sub_mul]) ?_
      have he2 := Els.drop a.toNat _ _ (Els.take b.toNat _ _ he)
      have e1 : ((cur.take (dt.length * sz)).take (b.toNat * sz)).drop (a.toNat * sz) = (cur.drop (a.toNat * sz)).take (((dt.take b.toNat).drop a.toNat).length * sz) := by
        rw [List.take_take, Nat.min_eq_left (Nat.mul_le_mul_right _ hab), List.drop_take, hlen, Nat.sub_mul]
      rw [← e1]
      exact he2
theorem rw_subo {ty E : TypeId} {sz i : Nat} {x : Operand} {lo hi : Option Operand} {lov hiv : Option Value} {a b : Int} {R : RT α} [GRep R] {A : Option Addr} {c : Nat} {dt dt' : List α} (hu : P.underlying ty = some (.slice E)) (hs : ∀ w, (sizeOf E).run P w = .ok sz w)
    (hx : ev l x = some (.slice A dt.length c)) (hlo : lo.mapM (ev l) = some lov) (hhi : hi.mapM (ev l) = some hiv) (hla : (lov = none ∧ a = 0) ∨ ∃ k, lov = some (.int k a)) (hlb : (hiv = none ∧ b = len dt) ∨ ∃ k, hiv = some (.int k b))
    (h : Own sz E R (Mu U0 L) w A c dt) (hsub : sub dt a b = some dt') (hL : L[i]? = some (ob A)) (C : Ctx U0 X0 w0 L w) :
    RunW P N l ⟨d, .slice ty x lo hi none, t, ps, af, g⟩ w (OwnNew sz E R U0 X0 w0 L w [ob A] (L.set i) dt') := fun ac ha => by
  have hcb : dt.length ≤ c ∧ c ≤ maxLen := by
    rcases own_form h with ⟨_, rfl, rfl⟩ | ⟨_, _, _, _, _, _, _, _, h1, h2, _⟩
    · exact ⟨Nat.le_refl _, Nat.zero_le _⟩
    · exact ⟨h1, h2⟩
  have hrun := sl_run (N := N) (d := d) (t := t) (ps := ps) (af := af) (g := g) (w := w) hu hs hx hlo hhi hla hlb hcb.1 hcb.2 hsub
  have ho := own_sub h hsub
  have hob : ob (if c = a.toNat then A else A.map (·.add (a.toNat * sz))) = ob A := by
    split
    · rfl
    · cases A with
      | none => rfl
      | some ad => simp [ob, block_add]
  have hset : L.set i (ob A) = L := set_same hL
  refine ⟨_, w, hrun ac ha, _, _, rfl, ?_, ?_, ?_⟩
  · rw [hob, hset]; exact ho
  · rw [hob, hset]; exact C
  · rw [hob, hset]
    exact ⟨Nat.le_refl _, fun _ _ _ => rfl, fun b e => (by rw [List.mem_singleton] at e; rw [e]; exact List.mem_of_getElem? hL), fun _ _ h => h⟩

/-! ### Bytes to a string -/
theorem toList_push (l : List Int) : ∀ (s : ByteArray), (l.foldl (fun r n => r.push (UInt8.ofNat n.toNat)) s).toList = s.toList ++ l.map (fun n => UInt8.ofNat n.toNat) := by
  induction l with
  | nil => intro s; simp
  | cons n l ih =>
    intro s
    rw [List.foldl_cons, ih, Go.ByteArray.toList_eq, Go.ByteArray.toList_eq]
    simp [ByteArray.push, List.append_assoc]
theorem els_bytes {U : Nat → Prop} : ∀ (l : List Int) (es : List Value), Els 1 (RInt .u8) U w es l → es = l.map (Value.int .u8)
  | [], es, h => h
  | x :: xs, es, h => by
    obtain ⟨e1, e2, rfl, _, hr, ht⟩ := h
    unfold RInt at hr
    subst hr
    rw [els_bytes xs e2 ht]
    rfl
theorem els_ints {k : IntKind} {U : Nat → Prop} : ∀ (l : List Int) (es : List Value), Els 1 (RInt k) U w es l → es = l.map (Value.int k)
  | [], es, h => h
  | x :: xs, es, h => by
    obtain ⟨e1, e2, rfl, _, hr, ht⟩ := h
    unfold RInt at hr
    subst hr
    rw [els_ints xs e2 ht]
    rfl
theorem rv_b2s {src dst E : TypeId} {x : Operand} {U : Nat → Prop} {A : Option Addr} {c n : Nat} {dt : List Int} (hu : P.underlying src = some (.slice E)) (hE : P.underlying E = some (.int .u8)) (hd : P.underlying dst = some .string) (hx : ev l x = some (.slice A n c)) (hn : n = dt.length) (h : Src 1 (RInt .u8) U w A dt) :
    ∃ s, RunV P N l ⟨d, .convert src dst x, t, ps, af, g⟩ w (.string s) ∧ strOf s = str dt := by
  subst hn
  obtain ⟨es, he, hm⟩ := h
  have hes := els_bytes dt es he
  have hel := Els.length _ _ he
  rw [Nat.mul_one] at hel
  cases A with
  | none =>
    have h0 : es = [] := by
      cases es with
      | nil => rfl
      | cons u es => obtain ⟨_, h, _⟩ := hm 0 u rfl; cases h
    subst h0
    have hd0 : dt = [] := List.eq_nil_of_length_eq_zero hel.symm
    subst hd0
    refine ⟨ByteArray.empty, fun a ha => ?_, by rw [strOf, Go.ByteArray.toList_eq]; rfl⟩
    simp [execOp, ha.ev hx, convert, run_underlying hu, run_underlying hd, run_underlying hE, Conv.bytesToString]
  | some ad =>
    refine ⟨dt.foldl (fun r n => r.push (UInt8.ofNat n.toNat)) ByteArray.empty, fun a ha => ?_, ?_⟩
    · have hl : (loadCells ad es.length).run P w = .ok es.toArray w := run_loadCells_list w ad es (fun j u hu => by
        obtain ⟨ad', h1, h2⟩ := hm j u hu
        injection h1 with h1
        subst h1
        exact h2)
      rw [hel, hes] at hl
      have hb := run_bytesToString (P := P) w ad dt.length c dt hl
      simp [execOp, ha.ev hx, convert, run_underlying hu, run_underlying hd, run_underlying hE, hb]
    · unfold strOf str
      rw [toList_push]
      have : ByteArray.empty.toList = [] := by rw [Go.ByteArray.toList_eq]; rfl
      rw [this]
      simp
end
end V
end Go.Proofs.YtladkmnfmpojiaaGreatDoor
namespace Go.Proofs.YtladkmnfmpojiaaGreatDoor
namespace V

theorem if_t {α : Type} {c : Bool} {x y : Option α} {q : α} (h : (if c = true then x else y) = some q) (hc : c = true) : x = some q := by rw [if_pos hc] at h; exact h
theorem if_f {α : Type} {c : Bool} {x y : Option α} {q : α} (h : (if c = true then x else y) = some q) (hc : c = false) : y = some q := by rw [if_neg (by simp [hc])] at h; exact h
theorem some_inv {α : Type} {x q : α} (h : some x = some q) : q = x := by injection h with h; exact h.symm
theorem some_inv' {α : Type} {x q : α} (h : some x = some q) : x = q := by injection h
theorem pop_inv {β γ : Type} {K : β → Option γ} {o o' : β} {q : γ} (ho : o = o') (h : K o = some q) : K o' = some q := ho ▸ h
theorem next_inv {S O : Type} {body : S → Option (Out S O)} {n : Nat} {s : S} {q : Out S O} {o : O} (h : some (Out.next s) = some q) (hs : (∃ s', q = .next s' ∧ iter body n s' = some o) ∨ q = .done o) : iter body n s = some o := by
  injection h with h
  subst h
  rcases hs with ⟨s', h, h2⟩ | h
  · injection h with h
    subst h
    exact h2
  · cases h
theorem done_inv {S O : Type} {body : S → Option (Out S O)} {n : Nat} {q : Out S O} {o o' : O} (h : some (Out.done o' : Out S O) = some q) (hs : (∃ s', q = .next s' ∧ iter body n s' = some o) ∨ q = .done o) : o = o' := by
  injection h with h
  subst h
  rcases hs with ⟨s', h, h2⟩ | h
  · cases h
  · injection h with h; exact h.symm
theorem and_t {e x : Bool} (h : e = true) : some (Value.bool x) = some (Value.bool (e && x)) := by subst h; rfl
theorem and_f {e x : Bool} (h : e = false) : some (Value.bool false) = some (Value.bool (e && x)) := by subst h; rfl
theorem or_t {e x : Bool} (h : e = true) : some (Value.bool true) = some (Value.bool (e || x)) := by subst h; rfl
theorem or_f {e x : Bool} (h : e = false) : some (Value.bool x) = some (Value.bool (e || x)) := by subst h; rfl

section
variable {P : Program} {px : Value → World → Prop} {Kn : Act → World → Prop} {Ke : Nat → Act → World → Prop} {Kr : Act → World → Prop} {N : Nat} {l : Env} {w : World} {ops : Array Oper} {rest : List Oper}
theorem WC.exitThen {y : Code} {i : Nat} {Kn' : Act → World → Prop} {Ke' : Nat → Act → World → Prop} (he : Ke i = fun a w => wp3 P px y Kn' Ke' Kr a w) (h : WC P px y Kn' Ke' Kr N l w) : WC P px (.exit i) Kn Ke Kr N l w :=
  WC.exit fun a ha => by rw [he]; exact h a ha
theorem WC.exitJ {i : Nat} {J : Act → World → Prop} (he : Ke i = J) (h : ∀ a, Holds N l a → J a w) : WC P px (.exit i) Kn Ke Kr N l w :=
  WC.exit fun a ha => by rw [he]; exact h a ha
theorem WL.cutAt (k : Nat) (J : Act → World → Prop) (h1 : WL P px ops (rest.take k) J N l w) (h2 : ∀ a w, J a w → wpList P ops (QN px Kn) (rest.drop k) a w) : WL P px ops rest Kn N l w := by
  have := WL.cut J h1 h2
  rwa [List.take_append_drop] at this
end

section
variable {α : Type} {U0 : Nat → Prop} {X0 X : List (Option Nat)} {w0 w w' : World} {L L' L2 Lc R : List (Option Nat)}
theorem Ctx.lt (C : Ctx U0 X0 w0 L w) : ∀ b, Mu U0 L b → b < w.heap.size := fun b h => by
  rcases h with h | h
  · exact Nat.lt_of_lt_of_le (C.u0 b h) C.step.size
  · exact (C.live b h).1
/-- What a callee gets: the blocks at 'js' to turn (Lc), those at 'is' to leave alone (L'). -/
theorem Ctx.give (C : Ctx U0 X0 w0 L w) (is js : List Nat) (hn : js.Nodup) (hL : is.map (fun i => (L[i]?).join) = L') (hc : js.map (fun i => (L[i]?).join) = Lc) (hd : ∀ i ∈ js, i ∉ is) : Ctx (Mu U0 L') Lc w Lc w := by
  refine ⟨Step.refl, fun b hb => C.lt b (Mu.weaken (mem_pick is hL) b hb), fun b hb => ⟨(C.live b (mem_pick js hc b hb)).1, ?_, .inr hb⟩, (C.pick js hn hc).sep⟩
  obtain ⟨k, hk⟩ := List.getElem?_of_mem hb
  obtain ⟨i, h1, h2⟩ := pick_get js hc k b hk
  exact C.off h2 is hL (hd i (List.mem_of_getElem? h1)) b rfl
/-- Behind a call: what it hands over comes in front (R); L2: what the caller goes on owning besides. -/
theorem Ctx.join (C : Ctx U0 X0 w0 L w) (D : Ctx (Mu U0 L') Lc w R w') (is js : List Nat) (hn : is.Nodup) (hL : is.map (fun i => (L[i]?).join) = L2) (hc : js.map (fun i => (L[i]?).join) = Lc) (hd : ∀ i ∈ is, i ∉ js) : Ctx U0 X0 w0 (R ++ L2) w' ∧ TR U0 L w (R ++ L2) w' Lc := by
  have C2 := C.pick is hn hL
  have hsub := mem_pick is hL
  have hcin := mem_pick js hc
  have hnew : ∀ b, some b ∈ R → b < w'.heap.size ∧ (w.heap.size ≤ b ∨ some b ∈ Lc) := fun b hb => by
    obtain ⟨h1, _, h3⟩ := D.live b hb
    exact ⟨h1, h3⟩
  refine ⟨⟨⟨D.step.os.trans C.step.os, D.step.tape.trans C.step.tape, D.step.output.trans C.step.output, Nat.le_trans C.step.size D.step.size, fun b hb hX => ?_⟩, C.u0, fun b hb => ?_, fun i j b hij hi hj => ?_⟩, ⟨D.step.size, fun b hb hX => D.step.block b hb hX, hcin, fun b hb hM => ?_⟩⟩
  · refine (D.step.block b (Nat.lt_of_lt_of_le hb C.step.size) fun hm => ?_).trans (C.step.block b hb hX)
    rcases (C.live b (hcin b hm)).2.2 with h | h
    · omega
    · exact hX h
  · rcases List.mem_append.1 hb with hb | hb
    · obtain ⟨h1, h2⟩ := hnew b hb
      have := C.step.size
      rcases h2 with h2 | h2
      · exact ⟨h1, fun hU => by have := C.u0 b hU; omega, .inl (by omega)⟩
      · obtain ⟨_, h4, h5⟩ := C.live b (hcin b h2)
        exact ⟨h1, h4, h5⟩
    · obtain ⟨h1, h2, h3⟩ := C2.live b hb
      exact ⟨Nat.lt_of_lt_of_le h1 D.step.size, h2, h3⟩
  · have hsplit : ∀ k, (R ++ L2)[k]? = some (some b) → (k < R.length ∧ R[k]? = some (some b)) ∨ (R.length ≤ k ∧ L2[k - R.length]? = some (some b)) := fun k hk => by
      rcases Nat.lt_or_ge k R.length with h | h
      · rw [List.getElem?_append_left h] at hk; exact .inl ⟨h, hk⟩
      · rw [List.getElem?_append_right h] at hk; exact .inr ⟨h, hk⟩
    have cross : ∀ p q, R[p]? = some (some b) → L2[q]? = some (some b) → False := fun p q hp hq => by
      have h1 := hnew b (List.mem_of_getElem? hp)
      have h2 := C2.live b (List.mem_of_getElem? hq)
      rcases h1.2 with h3 | h3
      · omega
      · obtain ⟨k, h4, h5⟩ := pick_get is hL q b hq
        exact C.ne h5 js hc (hd k (List.mem_of_getElem? h4)) b rfl h3
    rcases hsplit i hi with ⟨a1, a2⟩ | ⟨a1, a2⟩ <;> rcases hsplit j hj with ⟨b1, b2⟩ | ⟨b1, b2⟩
    · exact D.sep i j b hij a2 b2
    · exact cross _ _ a2 b2
    · exact cross _ _ b2 a2
    · exact C2.sep (i - R.length) (j - R.length) b (by omega) a2 b2
  · rcases hM with hU | hm
    · exact .inl hU
    · rcases List.mem_append.1 hm with h | h
      · have := hnew b h
        rcases this.2 with h3 | h3
        · omega
        · exact .inr (hcin b h3)
      · exact .inr (hsub b h)
theorem mu_give (is js : List Nat) (hL : is.map (fun i => (L[i]?).join) = L') (hc : js.map (fun i => (L[i]?).join) = Lc) : ∀ b, Mu (Mu U0 L') Lc b → Mu U0 L b := fun b hb => by
  rcases hb with hb | hb
  · exact Mu.weaken (mem_pick is hL) b hb
  · exact .inr (mem_pick js hc b hb)
theorem mu_split {b : Nat} (h : Mu (Mu U0 L') Lc b) : Mu U0 (Lc ++ L') b := by
  rcases h with (h | h) | h
  · exact .inl h
  · exact .inr (List.mem_append.2 (.inr h))
  · exact .inr (List.mem_append.2 (.inl h))
/-- What the callee's results read as, in the caller's terms. -/
theorem mu_join (h : ∀ b, some b ∈ L2 → some b ∈ L') : ∀ b, Mu U0 (R ++ L2) b → Mu (Mu U0 L') R b := fun b hb => by
  rcases hb with hb | hb
  · exact .inl (.inl hb)
  · rcases List.mem_append.1 hb with hb | hb
    · exact .inr hb
    · exact .inl (.inr (h b hb))
theorem Sl.mu {sz : Nat} {R : RT α} [GRep R] {U U' : Nat → Prop} {A : Option Addr} {c : Nat} {d : List α} (h : Sl sz R U w A c d) (hm : ∀ b, U' b → U b) : Sl sz R U' w A c d := h.step (fun _ _ _ => rfl) (fun b _ => hm b)
theorem At.mu {U U' : Nat → Prop} {ad : Addr} {es : List Value} (h : At U w ad es) (hm : ∀ b, U' b → U b) : At U' w ad es := ⟨fun hU => h.1 (hm _ hU), h.2⟩
theorem Own.mu {sz : Nat} {E : TypeId} {R : RT α} [GRep R] {U U' : Nat → Prop} {A : Option Addr} {c : Nat} {d : List α} (h : Own sz E R U w A c d) (hm : ∀ b, U' b → U b) : Own sz E R U' w A c d := by
  obtain ⟨xs, h1, h2⟩ := h
  exact ⟨xs, h1, Els.step (fun _ _ _ => rfl) (fun b _ => hm b) _ _ h2⟩
theorem Rep.mu {R : RT α} [GRep R] {U U' : Nat → Prop} {cs : List Value} {d : α} (h : R U w cs d) (hm : ∀ b, U' b → U b) : R U' w cs d := GRep.step h (fun _ _ _ => rfl) (fun b _ => hm b)
theorem Own.ints {sz : Nat} {E : TypeId} {k : IntKind} {U U' : Nat → Prop} {A : Option Addr} {c : Nat} {d : List Int} (h : Own sz E (RInt k) U w A c d) : Own sz E (RInt k) U' w A c d := by
  obtain ⟨xs, h1, h2⟩ := h
  have key : ∀ (l : List Int) (es : List Value), Els sz (RInt k) U w es l → Els sz (RInt k) U' w es l := by
    intro l
    induction l with
    | nil => intro es h; exact h
    | cons x xs ih =>
      intro es h
      obtain ⟨e1, e2, a, b, c, d⟩ := h
      exact ⟨e1, e2, a, b, c, ih e2 d⟩
  exact ⟨xs, h1, key _ _ h2⟩
theorem mu_nil : ∀ b, Mu U0 [] b → U0 b := fun b h => h.elim id (fun h => by simp at h)
theorem mu_nil' : ∀ b, U0 b → Mu U0 [] b := fun _ h => .inl h
end
section
variable {P : Program} {px : Value → World → Prop} {Kn : Act → World → Prop} {Ke : Nat → Act → World → Prop} {Kr : Act → World → Prop} {N : Nat} {l l' : Env} {w : World}
theorem WC.prune {c : Code} (hs : Sub l l') (h : WC P px c Kn Ke Kr N l' w) : WC P px c Kn Ke Kr N l w := fun a ha => h a (ha.sub hs)
end

section
variable {P : Program} {px : Value → World → Prop} {ops : Array Oper} {rest : List Oper} {Kn : Act → World → Prop} {N : Nat} {l l' : Env} {w : World} {t : TypeId} {ps : String} {af : Array Edge}
theorem WL.prune (hs : Sub l l') (h : WL P px ops rest Kn N l' w) : WL P px ops rest Kn N l w := fun a ha => h a (ha.sub hs)
theorem WL.world0 {op : Op} {K : Value → World → Prop} (hr : RunW P N l ⟨none, op, t, ps, af, none⟩ w K)
    (h : ∀ v w', K v w' → WL P px ops rest Kn N l w') : WL P px ops (⟨none, op, t, ps, af, none⟩ :: rest) Kn N l w := fun a ha =>
  wpList_plain rfl fun K' hK => by
    obtain ⟨v, w', h1, h2⟩ := hr a ha
    unfold Oper.wp
    rw [h1]
    exact hK _ _ (h v w' h2 _ ha)
end

/-! ### Operations that bring in something new, at a list of operations -/
section
variable {P : Program} {px : Value → World → Prop} {ops : Array Oper} {rest : List Oper} {Kn : Act → World → Prop} {N : Nat} {l : Env} {w : World} {d : Nat} {t : TypeId} {ps : String} {af : Array Edge} {α : Type}
theorem WL.ixSl {ty E : TypeId} {sz : Nat} {x y : Operand} {k : IntKind} {iv : Int} {R : RT α} {U : Nat → Prop} {A : Option Addr} {c : Nat} {dt : List α} {e : α} (hu : P.underlying ty = some (.slice E)) (hs : ∀ w, (sizeOf E).run P w = .ok sz w) (hpos : Nat.blt 0 sz = true)
    (hx : ev l x = some (.slice A dt.length c)) (hy : ev l y = some (.int k iv)) (h : Sl sz R U w A c dt) (hi : idx dt iv = some e) (hd : Nat.blt d N = true)
    (hn : ∀ ad es, At U w ad es → es.length = sz → R U w es e → WL P px ops rest Kn N ((d, .pointer (some ad)) :: l) w) : WL P px ops (⟨some d, .indexAddr ty x y, t, ps, af, none⟩ :: rest) Kn N l w := by
  obtain ⟨ad, es, hrv, hat, hl, hr⟩ := ix_sl (P := P) (N := N) hu hs hpos hx hy h hi
  exact WL.val hrv hd (hn ad es hat hl hr)
theorem WL.ixOwn {ty E : TypeId} {sz : Nat} {x y : Operand} {k : IntKind} {iv : Int} {R : RT α} {U : Nat → Prop} {A : Option Addr} {c : Nat} {dt : List α} {e : α} (hu : P.underlying ty = some (.slice E)) (hs : ∀ w, (sizeOf E).run P w = .ok sz w)
    (hx : ev l x = some (.slice A dt.length c)) (hy : ev l y = some (.int k iv)) (h : Own sz E R U w A c dt) (hi : idx dt iv = some e) (hd : Nat.blt d N = true)
    (hn : ∀ ad es, At (fun _ => False) w ad es → es.length = sz → R U w es e → WL P px ops rest Kn N ((d, .pointer (some ad)) :: l) w) : WL P px ops (⟨some d, .indexAddr ty x y, t, ps, af, none⟩ :: rest) Kn N l w := by
  obtain ⟨b, o, es, _, hrv, hat, hl, hr⟩ := ix_own (P := P) (N := N) hu hs hx hy h hi
  exact WL.val hrv hd (hn _ es hat hl hr)
theorem WL.ixUpd {ty E : TypeId} {sz : Nat} {x y : Operand} {k : IntKind} {iv : Int} {R : RT α} {U : Nat → Prop} {A : Option Addr} {c : Nat} {dt dt' : List α} {e : α} (hu : P.underlying ty = some (.slice E)) (hs : ∀ w, (sizeOf E).run P w = .ok sz w)
    (hx : ev l x = some (.slice A dt.length c)) (hy : ev l y = some (.int k iv)) (h : Own sz E R U w A c dt) (hi : upd dt iv e = some dt') (hd : Nat.blt d N = true)
    (hn : ∀ b o, A = some ⟨b, o, none⟩ → WL P px ops rest Kn N ((d, .pointer (some ⟨b, o + iv.toNat * sz, none⟩)) :: l) w) : WL P px ops (⟨some d, .indexAddr ty x y, t, ps, af, none⟩ :: rest) Kn N l w := by
  obtain ⟨b, o, hA, hrv⟩ := ix_upd (P := P) (N := N) hu hs hx hy h hi
  exact WL.val hrv hd (hn b o hA)
theorem WL.subSl {ty E : TypeId} {sz : Nat} {x : Operand} {lo hi : Option Operand} {lov hiv : Option Value} {a b : Int} {R : RT α} {U : Nat → Prop} {A : Option Addr} {c : Nat} {dt dt' : List α} (hu : P.underlying ty = some (.slice E)) (hs : ∀ w, (sizeOf E).run P w = .ok sz w)
    (hx : ev l x = some (.slice A dt.length c)) (hlo : lo.mapM (ev l) = some lov) (hhi : hi.mapM (ev l) = some hiv) (hla : (lov = none ∧ a = 0) ∨ ∃ k, lov = some (.int k a)) (hlb : (hiv = none ∧ b = len dt) ∨ ∃ k, hiv = some (.int k b))
    (h : Sl sz R U w A c dt) (hsub : sub dt a b = some dt') (hd : Nat.blt d N = true)
    (hn : ∀ A' c', Sl sz R U w A' c' dt' → WL P px ops rest Kn N ((d, .slice A' dt'.length c') :: l) w) : WL P px ops (⟨some d, .slice ty x lo hi none, t, ps, af, none⟩ :: rest) Kn N l w := by
  obtain ⟨A', c', hrv, hs'⟩ := sl_sub (P := P) (N := N) hu hs hx hlo hhi hla hlb h hsub
  exact WL.val hrv hd (hn A' c' hs')
theorem WL.b2s {src dst E : TypeId} {x : Operand} {U : Nat → Prop} {A : Option Addr} {c n : Nat} {dt : List Int} (hu : P.underlying src = some (.slice E)) (hE : P.underlying E = some (.int .u8)) (hds : P.underlying dst = some .string) (hx : ev l x = some (.slice A n c)) (hn : n = dt.length) (h : Src 1 (RInt .u8) U w A dt) (hd : Nat.blt d N = true)
    (hk : ∀ s, strOf s = str dt → WL P px ops rest Kn N ((d, .string s) :: l) w) : WL P px ops (⟨some d, .convert src dst x, t, ps, af, none⟩ :: rest) Kn N l w := by
  obtain ⟨s, hrv, hs⟩ := rv_b2s (P := P) (N := N) (d := some d) (t := t) (ps := ps) (af := af) (g := none) hu hE hds hx hn h
  exact WL.val hrv hd (hk s hs)
theorem rv_eqlss' {ty ty2 : TypeId} {x y : Operand} {s u : ByteArray} {a b : List Int} {g : Option (Nat × Bool)} {o : Option Nat} (ha : strOf s = a) (hb : strOf u = b) (hx : ev l x = some (.string s)) (hy : ev l y = some (.string u)) : RunV P N l ⟨o, .binOp .eql ty x y ty2, t, ps, af, g⟩ w (.bool (a == b)) := by
  subst ha; subst hb
  exact rv_eqls hx hy
theorem rv_neqss' {ty ty2 : TypeId} {x y : Operand} {s u : ByteArray} {a b : List Int} {g : Option (Nat × Bool)} {o : Option Nat} (ha : strOf s = a) (hb : strOf u = b) (hx : ev l x = some (.string s)) (hy : ev l y = some (.string u)) : RunV P N l ⟨o, .binOp .neq ty x y ty2, t, ps, af, g⟩ w (.bool (a != b)) := by
  subst ha; subst hb
  exact rv_neqs hx hy
theorem idx_map {k : IntKind} {l : List Int} {i x : Int} (h : idx l i = some x) : idx (l.map (Value.int k)) i = some (.int k x) := by
  unfold idx at h ⊢
  split at h
  · rename_i h0
    rw [if_pos h0, List.getElem?_map, h]
    rfl
  · cases h
theorem strOf_mk (l : List UInt8) (e : List Int) (h : l.map (fun b => (b.toNat : Int)) = e) : strOf ⟨l.toArray⟩ = e := by
  subst h
  simp [strOf]
/-- A guarded operation behind one that was passed over. -/
theorem WL.noU {op : Op} {j : Nat} {b : Bool} {s : Nat} (hj : (ops[j]?).bind (·.dst) = some s) (hs : lk s l = some undef) (hd : Nat.blt d N = true)
    (h : WL P px ops rest Kn N ((d, undef) :: l) w) : WL P px ops (⟨some d, op, t, ps, af, some (j, b)⟩ :: rest) Kn N l w := fun a ha => by
  have hy : yielded ops a.tmps j = none := by
    unfold yielded
    rw [hj]
    simp [ha.get s _ hs, undef]
  unfold wpList
  rw [if_neg (by simp [Region.wanted, hy])]
  exact h _ (ha.put hd)
end
end V
end Go.Proofs.YtladkmnfmpojiaaGreatDoor
namespace Go.Proofs.YtladkmnfmpojiaaGreatDoor
namespace V
section
variable {α : Type} {P : Program}
def Ents (k : IntKind) (R : RT α) (U : Nat → Prop) (w : World) : List MapEntry → List (Int × α) → Prop
  | es, [] => es = []
  | es, x :: xs => ∃ e es', es = e :: es' ∧ e.key = .int k x.1 ∧ R U w [e.val] x.2 ∧ Ents k R U w es' xs
def MapB (k : IntKind) (R : RT α) (U : Nat → Prop) (w : World) (b : Nat) (l : List (Int × α)) : Prop := ∃ es clock, w.heap[b]? = some (.map es clock) ∧ Ents k R U w es.toList l
theorem Ents.step {k : IntKind} {R : RT α} [GRep R] {U U' : Nat → Prop} {w w' : World} (h1 : ∀ b, b < w.heap.size → ¬ U b → w'.heap[b]? = w.heap[b]?) (h2 : ∀ b, b < w.heap.size → U' b → U b) :
    ∀ (l : List (Int × α)) (es : List MapEntry), Ents k R U w es l → Ents k R U' w' es l
  | [], _, h => h
  | _ :: xs, _, h => by
    obtain ⟨e, es', rfl, hk, hr, ht⟩ := h
    exact ⟨e, es', rfl, hk, GRep.step hr h1 h2, Ents.step h1 h2 xs es' ht⟩
theorem MapB.step {k : IntKind} {R : RT α} [GRep R] {U U' : Nat → Prop} {w w' : World} {b : Nat} {l : List (Int × α)} (h : MapB k R U w b l) (hb : w'.heap[b]? = w.heap[b]?) (h1 : ∀ b, b < w.heap.size → ¬ U b → w'.heap[b]? = w.heap[b]?) (h2 : ∀ b, b < w.heap.size → U' b → U b) : MapB k R U' w' b l := by
  obtain ⟨es, c, hh, he⟩ := h
  exact ⟨es, c, hb.trans hh, Ents.step h1 h2 _ _ he⟩
theorem MapB.lt {k : IntKind} {R : RT α} {U : Nat → Prop} {w : World} {b : Nat} {l : List (Int × α)} (h : MapB k R U w b l) : b < w.heap.size := by
  obtain ⟨es, c, hh, _⟩ := h
  exact (Array.getElem?_eq_some_iff.1 hh).1
theorem Ents.no {k : IntKind} {R : RT α} {U : Nat → Prop} {w : World} {x : Int} : ∀ (l : List (Int × α)) (es : List MapEntry) (n : Nat), Ents k R U w es l → mget l x = none → Instr.findNow (.int k) (.int k x) es n = some none
  | [], es, n, h, _ => by
    simp only [Ents] at h
    subst h
    rfl
  | (j, y) :: xs, es, n, h, hg => by
    obtain ⟨e, es', rfl, hk, hr, ht⟩ := h
    unfold mget at hg
    by_cases hx : (x == j) = true
    · rw [if_pos hx] at hg
      cases hg
    · rw [if_neg hx] at hg
      have ih := Ents.no xs es' (n + 1) ht hg
      simp only [Instr.findNow, hk, Instr.sameNow, if_true]
      rw [(Bool.not_eq_true _).mp hx]
      exact ih
theorem Ents.at_ {k : IntKind} {R : RT α} {U : Nat → Prop} {w : World} {x : Int} {y : α} : ∀ (l : List (Int × α)) (es : List MapEntry) (n : Nat), Ents k R U w es l → mget l x = some y →
    ∃ j e, Instr.findNow (.int k) (.int k x) es n = some (some (n + j, e.val)) ∧ es[j]? = some e ∧ e.key = .int k x ∧ R U w [e.val] y ∧ ∀ (z : α) (v : Value), R U w [v] z → Ents k R U w (es.set j { e with val := v }) (mput l x z)
  | [], es, n, _, hg => by cases hg
  | (i, y0) :: xs, es, n, h, hg => by
    obtain ⟨e, es', rfl, hk, hr, ht⟩ := h
    unfold mget at hg
    by_cases hx : (x == i) = true
    · rw [if_pos hx] at hg
      have hxi : x = i := by simpa using hx
      subst hxi
      have hy := Option.some.inj hg
      subst hy
      refine ⟨0, e, ?_, rfl, hk, hr, fun z v hz => ?_⟩
      · simp only [Instr.findNow, hk, Instr.sameNow, if_true]
        rw [hx]
        rfl
      · unfold mput
        rw [if_pos hx]
        exact ⟨_, es', rfl, hk, hz, ht⟩
    · rw [if_neg hx] at hg
      obtain ⟨j, e1, h1, h2, h3, h4, h5⟩ := Ents.at_ xs es' (n + 1) ht hg
      refine ⟨j + 1, e1, ?_, h2, h3, h4, fun z v hz => ?_⟩
      · simp only [Instr.findNow, hk, Instr.sameNow, if_true]
        rw [(Bool.not_eq_true _).mp hx]
        show Instr.findNow (.int k) (.int k x) es' (n + 1) = _
        rw [h1, show n + 1 + j = n + (j + 1) from by omega]
      · unfold mput
        rw [if_neg hx]
        exact ⟨e, _, rfl, hk, hr, h5 z v hz⟩
theorem Ents.push {k : IntKind} {R : RT α} {U : Nat → Prop} {w : World} {x : Int} {z : α} {e : MapEntry} (hk : e.key = .int k x) (hz : R U w [e.val] z) : ∀ (l : List (Int × α)) (es : List MapEntry), Ents k R U w es l → mget l x = none → Ents k R U w (es ++ [e]) (mput l x z)
  | [], es, h, _ => by
    simp only [Ents] at h
    subst h
    exact ⟨e, [], rfl, hk, hz, rfl⟩
  | (i, y0) :: xs, es, h, hg => by
    obtain ⟨e0, es', rfl, hk0, hr, ht⟩ := h
    unfold mget at hg
    by_cases hx : (x == i) = true
    · rw [if_pos hx] at hg
      cases hg
    · rw [if_neg hx] at hg
      unfold mput
      rw [if_neg hx]
      exact ⟨e0, es' ++ [e], rfl, hk0, hr, Ents.push hk hz xs es' ht hg⟩
/-- 'm[k]'. -/
theorem run_mget {k : IntKind} {R : RT α} {U : Nat → Prop} {w : World} {b : Nat} {l : List (Int × α)} {t kt e : TypeId} {x : Int} {z : Value} {z0 : α} (h : MapB k R U w b l) (ht : P.underlying t = some (.map kt e)) (hk : P.underlying kt = some (.int k)) (hz : (zeroValue e).run P w = .ok z w) (hz0 : R U w [z] z0) :
    ∃ v, (Instr.lookup t (.map (some b)) (.int k x) false).run P w = .ok v w ∧ R U w [v] (mval z0 l x) := by
  obtain ⟨es, c, hh, he⟩ := h
  have hI : MapKept.IsKey (.int k) (.int k x) := rfl
  unfold mval
  cases hg : mget l x with
  | none =>
    have h1 := Ents.no l es.toList 0 he hg
    exact ⟨z, by simp [Instr.lookup, run_underlying ht, MapKept.run_getObj_map hh, MapKept.run_checkKey hk hI, MapKept.run_findKey hk h1, hz, Result.andThen], hz0⟩
  | some y =>
    obtain ⟨j, e1, h1, h2, h3, h4, _⟩ := Ents.at_ l es.toList 0 he hg
    exact ⟨e1.val, by simp [Instr.lookup, run_underlying ht, MapKept.run_getObj_map hh, MapKept.run_checkKey hk hI, MapKept.run_findKey hk h1, Result.andThen], h4⟩
theorem run_mget_nil {k : IntKind} {w : World} {t kt e : TypeId} {x : Int} {z : Value} (ht : P.underlying t = some (.map kt e)) (hk : P.underlying kt = some (.int k)) (hz : (zeroValue e).run P w = .ok z w) : (Instr.lookup t (.map none) (.int k x) false).run P w = .ok z w := by
  have hI : MapKept.IsKey (.int k) (.int k x) := rfl
  have h1 : Instr.findNow (.int k) (.int k x) [] 0 = some none := rfl
  simp [Instr.lookup, run_underlying ht, MapKept.run_checkKey hk hI, MapKept.run_findKey hk h1, hz, Result.andThen]
/-- 'm[k] = v'. -/
theorem run_mput {k : IntKind} {R : RT α} {U : Nat → Prop} {w : World} {b : Nat} {l : List (Int × α)} {t kt e : TypeId} {x : Int} {v : Value} {z : α} (h : MapB k R U w b l) (ht : P.underlying t = some (.map kt e)) (hk : P.underlying kt = some (.int k)) (hv : R U w [v] z) :
    ∃ es' c', (Instr.mapUpdate t (.map (some b)) (.int k x) v).run P w = .ok () { w with heap := w.heap.setIfInBounds b (.map es' c') } ∧ Ents k R U w es'.toList (mput l x z) := by
  obtain ⟨es, c, hh, he⟩ := h
  have hI : MapKept.IsKey (.int k) (.int k x) := rfl
  cases hg : mget l x with
  | none =>
    have h1 := Ents.no l es.toList 0 he hg
    refine ⟨es.push ⟨.int k x, v, c⟩, c + 1, ?_, ?_⟩
    · simp [Instr.mapUpdate, run_underlying ht, MapKept.run_getObj_map hh, MapKept.run_checkKey hk hI, MapKept.run_findKey hk h1, MapKept.run_setObj_map _ hh, Result.andThen]
    · rw [Array.toList_push]
      exact Ents.push rfl hv l _ he hg
  | some y =>
    obtain ⟨j, e1, h1, h2, h3, h4, h5⟩ := Ents.at_ l es.toList 0 he hg
    have hj : j < es.size := by
      have := (List.getElem?_eq_some_iff.1 h2).1
      simpa using this
    have he1 : es[j]? = some e1 := by simpa using h2
    refine ⟨es.modify j fun e => { e with key := .int k x, val := v }, c, ?_, ?_⟩
    · simp [Instr.mapUpdate, run_underlying ht, MapKept.run_getObj_map hh, MapKept.run_checkKey hk hI, MapKept.run_findKey hk h1, MapKept.run_setObj_map _ hh, Result.andThen, he1, h3, MapKept.run_keyThatStays hI]
    · have := h5 z v hv
      have e2 : (es.modify j fun e => { e with key := .int k x, val := v }).toList = es.toList.set j { e1 with val := v } := by
        rw [Array.toList_modify]
        have : es.toList[j]? = some e1 := h2
        rw [List.modify_eq_set, this]
        simp [← h3]
      rw [e2]
      exact this
end
end V
end Go.Proofs.YtladkmnfmpojiaaGreatDoor
