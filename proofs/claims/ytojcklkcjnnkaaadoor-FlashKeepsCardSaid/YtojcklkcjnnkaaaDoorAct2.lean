/-
  More operations on memory: slice literals, copying, slicing, bytes to a string.
-/
import Derived.Test.YtojcklkcjnnkaaaDoorAct
import Derived.Laws.BytesString
import Derived.Laws.Slices
namespace Go.Proofs.YtojcklkcjnnkaaaDoor
namespace V

section
variable {P : Program} {px : Value → World → Prop} {N : Nat} {l : Env} {d : Option Nat} {t : TypeId} {ps : String} {af : Array Edge} {g : Option (Nat × Bool)}
variable {α : Type} {U0 : Nat → Prop} {X0 : List (Option Nat)} {w0 w : World} {L : List (Option Nat)}

/-- A slice literal, its elements all given. -/
def seqParts (k : Nat) : List Value → List (Nat × Value)
  | [] => []
  | v :: vs => (k, v) :: seqParts (k + 1) vs
theorem put_cells (v : List Value) : ∀ (j off : Nat) (cs : Array Value), off + j + v.length ≤ cs.size →
    (((v.zipIdx j).foldl (fun cs (x : Value × Nat) => cs.setIfInBounds (off + x.2) x.1) cs)).toList = cs.toList.take (off + j) ++ v ++ cs.toList.drop (off + j + v.length) := by
  induction v with
  | nil => intro j off cs h; simp
  | cons u v ih =>
    intro j off cs h
    simp only [List.length_cons] at h
    simp only [List.zipIdx_cons, List.foldl_cons]
    rw [ih (j + 1) off _ (by simp; omega)]
    simp only [Array.toList_setIfInBounds]
    have h1 : off + j < cs.toList.length := by simp; omega
    rw [show off + (j + 1) = off + j + 1 from by omega, List.take_add_one, List.take_set_of_le (by omega), List.getElem?_set_self h1, List.drop_set_of_lt (by omega)]
    simp only [Option.toList_some, List.append_assoc, List.cons_append, List.nil_append, List.length_cons]
    rw [show off + j + 1 + v.length = off + j + (v.length + 1) from by omega]
theorem fill_seq (sz : Nat) : ∀ (vs : List Value) (k : Nat) (cs : Array Value), (∀ v ∈ vs, v.cells.size = sz) → (k + vs.length) * sz ≤ cs.size →
    ∃ cs', Instr.fill (fun i => some (i * sz, sz)) cs (seqParts k vs) = some cs' ∧ cs'.toList = cs.toList.take (k * sz) ++ (vs.map (·.cells.toList)).flatten ++ cs.toList.drop ((k + vs.length) * sz)
  | [], k, cs, _, _ => ⟨cs, rfl, by simp⟩
  | v :: vs, k, cs, hv, hle => by
    have h1 := hv v (by simp)
    simp only [List.length_cons] at hle
    have hle2 : k * sz + sz ≤ cs.size := by
      refine Nat.le_trans ?_ hle
      rw [← Nat.succ_mul]
      exact Nat.mul_le_mul_right _ (by omega)
    have hp := put_cells v.cells.toList 0 (k * sz) cs (by simp; omega)
    have hzi : v.cells.zipIdx.foldl (fun cs (c, j) => cs.setIfInBounds (k * sz + j) c) cs = (v.cells.toList.zipIdx 0).foldl (fun cs (x : Value × Nat) => cs.setIfInBounds (k * sz + x.2) x.1) cs := by
      rw [← Array.foldl_toList, Array.toList_zipIdx]
    obtain ⟨cs', hf, ht⟩ := fill_seq sz vs (k + 1) (v.cells.zipIdx.foldl (fun cs (c, j) => cs.setIfInBounds (k * sz + j) c) cs) (fun u hu => hv u (by simp [hu])) (by
      rw [← Array.length_toList, hzi, hp]
      simp only [List.length_append, List.length_take, List.length_drop, Array.length_toList]
      rw [show k + 1 + vs.length = k + (vs.length + 1) from by omega]
      omega)
    refine ⟨cs', ?_, ?_⟩
    · simp only [seqParts, Instr.fill]
      rw [if_neg (by simp [h1]; omega)]
      exact hf
    · rw [ht, hzi, hp]
      have h2 : (k + 1) * sz = k * sz + sz := Nat.succ_mul k sz
      have e1 : (k + 1 + vs.length) * sz = k * sz + sz + vs.length * sz := by rw [Nat.add_mul, h2]
      have hl : v.cells.toList.length = sz := by simp [h1]
      simp only [List.map_cons, List.flatten_cons, List.length_cons, Nat.add_zero]
      rw [show k + (vs.length + 1) = k + 1 + vs.length from by omega, h2, e1]
      have e2 : (List.take (k * sz) cs.toList ++ v.cells.toList).length = k * sz + sz := by simp [h1]; omega
      rw [List.take_append_of_le_length (by omega), List.take_of_length_le (by omega), List.drop_append, e2, List.drop_of_length_le (by rw [e2]; omega), List.drop_drop, hl]
      simp only [List.append_assoc, List.nil_append]
      congr 3
      congr 1
      omega
theorem evp_of {a : Act} (ha : Holds N l a) : ∀ (parts : List (Nat × Operand)) (k : Nat) (vs : List Value), parts.mapM (fun p => ev l p.2) = some vs → parts.map (·.1) = (List.range' k parts.length) → parts.map (fun p => (p.1, a.eval p.2)) = seqParts k vs := by
  intro parts
  induction parts with
  | nil => intro k vs h _; simp at h; subst h; rfl
  | cons p ps ih =>
    intro k vs h hk
    simp only [List.mapM_cons] at h
    cases he : ev l p.2 with
    | none => simp [he] at h
    | some v =>
      cases hr : ps.mapM (fun p => ev l p.2) with
      | none => simp [he, hr] at h
      | some r =>
        simp [he, hr] at h
        subst h
        simp only [List.map_cons, List.length_cons, List.range'_succ, List.cons.injEq] at hk
        simp [ha.ev he, ih (k + 1) r hr hk.2, seqParts, hk.1]
theorem run_buildSlice {ty E : TypeId} {sz n : Nat} {z : Value} {vs es : List Value} (hu : P.underlying ty = some (.slice E)) (hs : ∀ w, (sizeOf E).run P w = .ok sz w) (hz : ∀ w, (zeroValue E).run P w = .ok z w) (hn : vs.length = n) (hsmall : n * sz ≤ 16777216)
    (hsz : ∀ v ∈ vs, v.cells.size = sz) (hes : (vs.map (·.cells.toList)).flatten = es) : (Instr.buildSlice ty n (seqParts 0 vs).toArray).run P w = .ok (.slice (some ⟨w.heap.size, 0, none⟩) n n) (w.alloc (.cells es.toArray E)) := by
  have hrun : ∀ zc : Array Value, Instr.fill (fun i => some (i * sz, sz)) ((Array.range (n * sz)).map (zc[· % zc.size]!)) (seqParts 0 vs) = some es.toArray := fun zc => by
    obtain ⟨cs', h1, h2⟩ := fill_seq sz vs 0 ((Array.range (n * sz)).map (zc[· % zc.size]!)) hsz (by simp [hn])
    rw [h1]
    congr 1
    apply Array.ext'
    rw [h2, hes]
    simp [hn]
  have hbig : ¬ (n * sz > 2 ^ 24) := by
    rw [show (2 : Nat) ^ 24 = 16777216 from rfl]
    omega
  unfold Instr.buildSlice
  simp only [Sem.run_bind, run_underlying hu, Result.andThen_ok, hs]
  rw [if_neg hbig]
  by_cases h0 : n * sz = 0
  · simp only [h0, if_true, Sem.run_bind, Sem.run_pure, Result.andThen_ok]
    have := hrun #[]
    rw [h0] at this
    simp only [this, Sem.run_bind, newRow, run_newObj, Sem.run_pure, Result.andThen_ok]
    rfl
  · simp only [h0, if_false, Sem.run_bind, hz, Sem.run_pure, Result.andThen_ok]
    simp only [hrun z.cells, Sem.run_bind, newRow, run_newObj, Sem.run_pure, Result.andThen_ok]
    rfl
theorem rw_buildSlice {ty E : TypeId} {sz n : Nat} {z : Value} {parts : List (Nat × Operand)} {vs es : List Value} {R : RT α} [GRep R] {dt : List α} (hu : P.underlying ty = some (.slice E)) (hs : ∀ w, (sizeOf E).run P w = .ok sz w) (hz : ∀ w, (zeroValue E).run P w = .ok z w) (hpos : Nat.blt 0 sz = true) (hn : vs.length = n) (hn2 : dt.length = n) (hsmall : Nat.ble (n * sz) 16777216 = true)
    (hk : parts.map (·.1) = List.range' 0 parts.length) (hv : parts.mapM (fun p => ev l p.2) = some vs) (hvs : vs.all (fun v => Nat.beq v.cells.size sz) = true) (hes : (vs.map (·.cells.toList)).flatten = es) (hr : Els sz R (Mu U0 L) w es dt) (C : Ctx U0 X0 w0 L w) :
    RunW P N l ⟨d, .buildSlice ty n parts.toArray, t, ps, af, g⟩ w (OwnNew sz E R U0 X0 w0 L w [] (fun y => y :: L) dt) := fun a ha => by
  have hp := evp_of ha parts 0 vs hv hk
  have hsz : ∀ v ∈ vs, v.cells.size = sz := fun v hv' => Nat.eq_of_beq_eq_true (List.all_eq_true.1 hvs v hv')
  have hle : n * sz ≤ 16777216 := Nat.le_of_ble_eq_true hsmall
  have hpos' : 0 < sz := by simpa [Nat.blt_eq] using hpos
  have hesl := Els.length _ _ hr
  rw [hn2] at hesl
  have hfun : (fun (x : Nat × Operand) => match x with | (i, x) => (i, a.eval x)) = fun p => (p.1, a.eval p.2) := rfl
  have hrun := run_buildSlice (P := P) (w := w) hu hs hz hn hle hsz hes
  have hT := C.alloc (.cells es.toArray E)
  have hnle : n ≤ n * sz := Nat.le_mul_of_pos_right n hpos'
  refine ⟨.slice (some ⟨w.heap.size, 0, none⟩) n n, w.alloc (.cells es.toArray E), ?_, some ⟨w.heap.size, 0, none⟩, n, by rw [hn2], ?_, hT.1, hT.2⟩
  · simp only [execOp, List.map_toArray, hp, Sem.run_bind, hrun, Result.andThen_ok]
    rfl
  · refine own_mk (.inl rfl) (heap_alloc_new w _) (by omega) (Nat.le_trans (Nat.le_trans hnle hle) (by unfold maxLen; decide)) (by simp [hesl]) ?_
    rw [hn2, List.take_of_length_le (by simp [hesl])]
    exact Els.step hT.2.h1 hT.2.mono _ _ hr

/-! ### copy -/
theorem cpy_eq {l m : List α} : (cpy l m).length = l.length := by
  simp [cpy]
  omega
theorem run_copy_z (w : World) (dT sT ty elem : TypeId) (g o dLen dCap : Nat) (a : Addr) (sLen sCap : Nat) (cur : Array Value) (t : TypeId) (fz : Nat × Nat) (hfz : Fz t fz cur.size) (cs : List Value)
    (hu : P.underlying dT = some (.slice elem)) (hs : (P.info? elem).map (·.size) = some 1)
    (hg : w.heap[g]? = some (.cells cur t fz)) (hn : cs.length = Nat.min sLen dLen)
    (hsrc : ∀ j v, cs[j]? = some v → w.cell? (a.add j) = some v) (hfit : o + cs.length ≤ cur.size) (h1 : ∀ v ∈ cs, v.oneCell' = true) :
    (Builtin.copy_ #[dT, sT] ty #[.slice (some ⟨g, o, none⟩) dLen dCap, .slice (some a) sLen sCap]).run P w =
      .ok (goInt cs.length) (w.setRow g (cur.toList.take o ++ cs ++ cur.toList.drop (o + cs.length)).toArray) := by
  have hl := run_loadCells_list (P := P) w a cs hsrc
  have hst := run_storeCells_z P g o t fz cs 0 cur w hg hfz (by simpa using hfit) h1
  cases hq : P.info? elem with
  | none => simp [hq] at hs
  | some i =>
    have hi : i.size = 1 := by simpa [hq] using hs
    simp [Builtin.copy_, run_underlying hu, Builtin.lenOf, Builtin.firstCells, sizeOf, typeInfo, hq, hi, ← hn, hl, hst]
theorem rw_copy {ty ty2 E : TypeId} {x y : Operand} {i nb cb c : Nat} {A B : Option Addr} {R : RT α} [GRep R] {dt ds : List α} (hu : P.underlying ty = some (.slice E)) (hs : (P.info? E).map (·.size) = some 1)
    (hx : ev l x = some (.slice A dt.length c)) (hy : ev l y = some (.slice B nb cb)) (hnb : nb = ds.length) (h : Own 1 E R (Mu U0 L) w A c dt) (hsrc : Src 1 R (Mu U0 L) w B ds) (hL : L[i]? = some (ob A)) (C : Ctx U0 X0 w0 L w) :
    RunW P N l ⟨d, .call { callee := .builtin .copy, args := #[x, y], argTypes := #[ty, ty2] }, t, ps, af, g⟩ w (fun v w' => v = .int .i64 (imin (len ds) (len dt)) ∧ OwnTurned 1 E R U0 X0 w0 L w A c (cpy dt ds) w') := fun a ha => by
  subst hnb
  obtain ⟨es, he, hm⟩ := hsrc
  have hel := Els.length _ _ he
  rw [Nat.mul_one] at hel
  have hmin : ∀ m n : Nat, imin (m : Int) (n : Int) = ((Nat.min m n : Nat) : Int) := fun m n => by
    rw [show Nat.min m n = min m n from rfl]
    unfold imin
    split <;> omega
  rcases own_form h with ⟨rfl, rfl, rfl⟩ | ⟨b, pre, cur, post, fz, rfl, hfz, hg, hle, hc, hsz, hed⟩
  · refine ⟨_, w, ?_, rfl, ?_, ?_, ?_⟩
    · obtain ⟨i0, hi0⟩ : ∃ i0, P.info? E = some i0 := by
        cases hq : P.info? E with
        | none => simp [hq] at hs
        | some i0 => exact ⟨i0, rfl⟩
      have hf : (Builtin.firstCells i0.size 0 (.slice B ds.length cb)).run P w = .ok #[] w := by
        cases B <;> simp [Builtin.firstCells, loadCells, loadCellsFrom]
      have h0 : imin (len ds) (len ([] : List α)) = 0 := by
        show imin (ds.length : Int) ((0 : Nat) : Int) = 0
        rw [hmin]
        simp
      rw [h0]
      simp [execOp, resolve, invoke, builtin, ha.ev hx, ha.ev hy, Builtin.copy_, run_underlying hu, Builtin.lenOf, sizeOf, typeInfo, hi0, hf, goInt]
    · have : cpy ([] : List α) ds = [] := List.eq_nil_of_length_eq_zero (by rw [cpy_eq]; rfl)
      rw [this]
      exact h
    · exact C
    · exact ⟨Nat.le_refl _, fun _ _ _ => rfl, fun b e => (by simp [ob] at e), fun _ _ hM => hM⟩
  · rw [Nat.mul_one] at hsz
    have hk : Nat.min ds.length dt.length ≤ cur.length := by rw [hsz]; exact Nat.le_trans (Nat.min_le_right _ _) hle
    have hl : (es.take (Nat.min ds.length dt.length)).length = Nat.min ds.length dt.length := by
      rw [List.length_take, hel]
      exact Nat.min_eq_left (Nat.min_le_left _ _)
    have hL' : L[i]? = some (some b) := hL
    have hput := row_put (pre := pre) (cur := cur) (post := post) (vs := es.take (Nat.min ds.length dt.length)) (k := 0) (by rw [hl]; omega)
    rw [Nat.add_zero, Nat.zero_add, hl] at hput
    have hrun : (Builtin.copy_ #[ty, ty2] t #[.slice (some ⟨b, pre.length, none⟩) dt.length c, .slice B ds.length cb]).run P w =
        .ok (goInt ((Nat.min ds.length dt.length : Nat) : Int)) (w.setRow b (pre ++ (cur.take 0 ++ es.take (Nat.min ds.length dt.length) ++ cur.drop (Nat.min ds.length dt.length)) ++ post).toArray) := by
      cases B with
      | some ad =>
        have := run_copy_z (P := P) w ty ty2 t E b pre.length dt.length c ad ds.length cb _ E fz (by simpa using hfz) (es.take (Nat.min ds.length dt.length)) hu hs hg hl (fun j u hu => by
          rw [List.getElem?_take] at hu
          split at hu
          · obtain ⟨ad', h1, h2⟩ := hm j u hu
            injection h1 with h1
            subst h1
            exact h2
          · cases hu) (by rw [hl]; simp only [List.size_toArray, List.length_append]; omega) (fun u hu => Els.one _ _ he u (List.mem_of_mem_take hu))
        rw [hl] at this
        rw [← hput]
        exact this
      | none =>
        have h0 : es = [] := by
          cases es with
          | nil => rfl
          | cons u es => obtain ⟨_, h, _⟩ := hm 0 u rfl; cases h
        subst h0
        have hd : ds = [] := List.eq_nil_of_length_eq_zero hel.symm
        subst hd
        obtain ⟨i0, hi0⟩ : ∃ i0, P.info? E = some i0 := by
          cases hq : P.info? E with
          | none => simp [hq] at hs
          | some i0 => exact ⟨i0, rfl⟩
        have hset2 : w.setRow b (pre ++ cur ++ post).toArray = w := setRow_self w b _ E fz hg
        simp [Builtin.copy_, run_underlying hu, Builtin.lenOf, Builtin.firstCells, sizeOf, typeInfo, hi0, storeCells]
        simpa using hset2.symm
    obtain ⟨k1, k2, k3⟩ := setRow_turnz C hL' hg (cs' := pre ++ (cur.take 0 ++ es.take (Nat.min ds.length dt.length) ++ cur.drop (Nat.min ds.length dt.length)) ++ post)
    refine ⟨_, _, ?_, rfl, ?_, k2, k3⟩
    · simp only [execOp, resolve, invoke, builtin, Sem.run_bind, Sem.run_pure, Result.andThen_ok, List.map_toArray, List.map_cons, List.map_nil, ha.ev hx, ha.ev hy, hrun, goInt, len, hmin]
    · have hlen : (cur.take 0 ++ es.take (Nat.min ds.length dt.length) ++ cur.drop (Nat.min ds.length dt.length)).length = cur.length := by
        rw [List.length_append, List.length_append, hl, List.length_drop]
        simp only [List.take_zero, List.length_nil]
        omega
      refine own_mk2 (by rw [row_len hlen]; exact hfz) k1 (by rw [cpy_eq]; exact hle) hc (by rw [hlen, Nat.mul_one]; exact hsz) ?_
      have e1 : (cur.take 0 ++ es.take (Nat.min ds.length dt.length) ++ cur.drop (Nat.min ds.length dt.length)).take ((cpy dt ds).length * 1) =
          es.take (dt.length * 1) ++ (cur.take (dt.length * 1)).drop (ds.length * 1) := by
        rw [cpy_eq]
        simp only [List.take_zero, List.nil_append, Nat.mul_one]
        rw [List.take_append, hl, List.drop_take]
        rcases Nat.le_total ds.length dt.length with h | h
        · have hmn : Nat.min ds.length dt.length = ds.length := Nat.min_eq_left h
          rw [hmn, List.take_of_length_le (i := ds.length) (by omega), List.take_of_length_le (i := dt.length) (by omega)]
        · have hmn : Nat.min ds.length dt.length = dt.length := Nat.min_eq_right h
          rw [hmn, Nat.sub_self, List.take_zero, Nat.sub_eq_zero_of_le h, List.take_zero, List.take_take, Nat.min_self]
      rw [e1]
      refine Els.step k3.h1 k3.mono _ _ ?_
      exact Els.append _ _ _ _ (Els.take _ _ _ he) (Els.drop _ _ _ hed)

/-! ### Slicing -/
theorem sub_some {l l' : List α} {lo hi : Int} (h : sub l lo hi = some l') : 0 ≤ lo ∧ lo ≤ hi ∧ hi ≤ l.length ∧ l' = (l.take hi.toNat).drop lo.toNat := by
  unfold sub at h
  split at h
  · rename_i h0
    simp only [Option.some.injEq] at h
    exact ⟨h0.1, h0.2.1, h0.2.2, h.symm⟩
  · cases h
theorem sl_run {ty E : TypeId} {sz : Nat} {x : Operand} {lo hi : Option Operand} {lov hiv : Option Value} {a b : Int} {A : Option Addr} {c : Nat} {dt dt' : List α} (hu : P.underlying ty = some (.slice E)) (hs : ∀ w, (sizeOf E).run P w = .ok sz w)
    (hx : ev l x = some (.slice A dt.length c)) (hlo : lo.mapM (ev l) = some lov) (hhi : hi.mapM (ev l) = some hiv) (hla : (lov = none ∧ a = 0) ∨ ∃ k, lov = some (.int k a)) (hlb : (hiv = none ∧ b = len dt) ∨ ∃ k, hiv = some (.int k b))
    (hlc : dt.length ≤ c) (hcm : c ≤ maxLen) (hsub : sub dt a b = some dt') {d : Option Nat} {t : TypeId} {ps : String} {af : Array Edge} {g : Option (Nat × Bool)} {w : World} :
    RunV P N l ⟨d, .slice ty x lo hi none, t, ps, af, g⟩ w (.slice (if c = a.toNat then A else A.map (·.add (a.toNat * sz))) dt'.length (c - a.toNat)) := fun ac ha => by
  obtain ⟨h0, h1, h2, rfl⟩ := sub_some hsub
  have hlen : (List.drop a.toNat (List.take b.toNat dt)).length = b.toNat - a.toNat := by
    rw [List.length_drop, List.length_take, Nat.min_eq_left (by omega)]
  have e1 : (some <$> lo).map id = some <$> lo := by cases lo <;> rfl
  have hlo' : lo.map ac.eval = lov := by
    cases lo with
    | none => simpa using hlo
    | some o =>
      simp only [Option.mapM_some] at hlo
      cases hq : ev l o with
      | none => simp [hq] at hlo
      | some v => simp [hq] at hlo; subst hlo; simp [ha.ev hq]
  have hhi' : hi.map ac.eval = hiv := by
    cases hi with
    | none => simpa using hhi
    | some o =>
      simp only [Option.mapM_some] at hhi
      cases hq : ev l o with
      | none => simp [hq] at hhi
      | some v => simp [hq] at hhi; subst hhi; simp [ha.ev hq]
  have hb : (Instr.sliceBounds true dt.length c lov hiv none).run P w = .ok (a.toNat, b.toNat, c) w := by
    have hh : ((match hiv, (none : Option Value) with
        | some v, some _ => Instr.sliceBound v c .slice3B
        | some v, none => Instr.sliceBound v c .sliceAcap
        | none, none => pure dt.length
        | none, some _ => stuck "" : Sem Nat)).run P w = .ok b.toNat w := by
      rcases hlb with ⟨rfl, rfl⟩ | ⟨k', rfl⟩
      · simp [len]
      · exact run_sliceBound w k' b c _ (by omega) (by omega)
    have hl : ((match lov with
        | some v => Instr.sliceBound v b.toNat .sliceB
        | none => pure 0 : Sem Nat)).run P w = .ok a.toNat w := by
      rcases hla with ⟨rfl, rfl⟩ | ⟨k', rfl⟩
      · simp
      · exact run_sliceBound w k' a b.toNat _ (by omega) (by omega)
    unfold Instr.sliceBounds
    rcases hlb with ⟨rfl, rfl⟩ | ⟨k', rfl⟩ <;> rcases hla with ⟨rfl, rfl⟩ | ⟨k, rfl⟩ <;> simp [len] at hh hl ⊢ <;> simp [hh, hl]
  simp only [execOp, ha.ev hx, hlo', hhi', Option.map_none, Instr.sliceAt, Sem.run_bind, run_underlying hu, Result.andThen_ok, Instr.slice, hb, hs]
  rw [hlen]
  rfl
theorem sl_sub {ty E : TypeId} {sz : Nat} {x : Operand} {lo hi : Option Operand} {lov hiv : Option Value} {a b : Int} {R : RT α} {U : Nat → Prop} {A : Option Addr} {c : Nat} {dt dt' : List α} (hu : P.underlying ty = some (.slice E)) (hs : ∀ w, (sizeOf E).run P w = .ok sz w)
    (hx : ev l x = some (.slice A dt.length c)) (hlo : lo.mapM (ev l) = some lov) (hhi : hi.mapM (ev l) = some hiv) (hla : (lov = none ∧ a = 0) ∨ ∃ k, lov = some (.int k a)) (hlb : (hiv = none ∧ b = len dt) ∨ ∃ k, hiv = some (.int k b))
    (h : Sl sz R U w A c dt) (hsub : sub dt a b = some dt') :
    ∃ A' c', (∀ {d : Option Nat} {t : TypeId} {ps : String} {af : Array Edge} {g : Option (Nat × Bool)} {w : World}, RunV P N l ⟨d, .slice ty x lo hi none, t, ps, af, g⟩ w (.slice A' dt'.length c')) ∧ Sl sz R U w A' c' dt' := by
  have hsub0 := hsub
  obtain ⟨h0, h1, h2, rfl⟩ := sub_some hsub
  obtain ⟨hlc, hcm, es, he, hm⟩ := h
  have hlen : (List.drop a.toNat (List.take b.toNat dt)).length = b.toNat - a.toNat := by
    rw [List.length_drop, List.length_take, Nat.min_eq_left (by omega)]
  refine ⟨if c = a.toNat then A else A.map (·.add (a.toNat * sz)), c - a.toNat, fun {d t ps af g w} => sl_run hu hs hx hlo hhi hla hlb hlc hcm hsub0, by omega, by omega, _, Els.drop a.toNat _ _ (Els.take b.toNat _ _ he), fun j u hj => ?_⟩
  · rw [List.getElem?_drop, List.getElem?_take] at hj
    split at hj
    · obtain ⟨ad, rfl, hn, hc⟩ := hm _ u hj
      have hne : c ≠ a.toNat := fun e => by
        have h5 := (List.getElem?_eq_some_iff.1 hj).1
        have h6 := Els.length _ _ he
        have h7 : c * sz ≤ a.toNat * sz := by rw [e]; exact Nat.le_refl _
        have h8 : dt.length * sz ≤ c * sz := Nat.mul_le_mul_right _ hlc
        omega
      rw [if_neg hne]
      exact ⟨_, rfl, by rw [block_add]; exact hn, by rw [add_add]; exact hc⟩
    · cases hj

/-- A part of a row of the call's own, which goes on as the row. -/
theorem own_sub {E : TypeId} {sz : Nat} {R : RT α} {U : Nat → Prop} {A : Option Addr} {c : Nat} {dt dt' : List α} {a b : Int} (h : Own sz E R U w A c dt) (hsub : sub dt a b = some dt') :
    Own sz E R U w (if c = a.toNat then A else A.map (·.add (a.toNat * sz))) (c - a.toNat) dt' := by
  obtain ⟨h0, h1, h2, rfl⟩ := sub_some hsub
  rcases own_form h with ⟨rfl, rfl, rfl⟩ | ⟨g, pre, cur, post, fz, rfl, hfz, hg, hle, hm, hsz, he⟩
  · have hb : b.toNat = 0 := by simp at h2; omega
    have ha : a.toNat = 0 := by omega
    simp only [ha, if_true]
    simpa using Own.nil
  · have hlen : ((dt.take b.toNat).drop a.toNat).length = b.toNat - a.toNat := by
      rw [List.length_drop, List.length_take, Nat.min_eq_left (by omega)]
    have hab : b.toNat ≤ dt.length := by omega
    by_cases hc : c = a.toNat
    · rw [if_pos hc]
      have hd : (dt.take b.toNat).drop a.toNat = [] := List.eq_nil_of_length_eq_zero (by rw [hlen]; omega)
      rw [hd, hc, Nat.sub_self]
      refine own_mk2 (cur := []) (post := cur ++ post) (fz := fz) (by simpa using hfz) (by simpa using hg) (Nat.zero_le _) (Nat.zero_le _) (by simp) ?_
      simp [Els]
    · rw [if_neg hc]
      have hk : a.toNat * sz ≤ cur.length := by rw [hsz]; exact Nat.mul_le_mul_right _ (by omega)
      have hpl : (pre ++ cur.take (a.toNat * sz)).length = pre.length + a.toNat * sz := by
        rw [List.length_append, List.length_take, Nat.min_eq_left hk]
      have heq : pre ++ cur.take (a.toNat * sz) ++ cur.drop (a.toNat * sz) ++ post = pre ++ cur ++ post := by
        rw [List.append_assoc pre, List.take_append_drop]
      have hA : (some (⟨g, pre.length, none⟩ : Addr)).map (·.add (a.toNat * sz)) = some ⟨g, (pre ++ cur.take (a.toNat * sz)).length, none⟩ := by
        rw [hpl, Option.map_some, add_lit]
      rw [hA]
      refine own_mk2 (cur := cur.drop (a.toNat * sz)) (post := post) (fz := fz) (by rw [heq]; exact hfz) (by rw [heq]; exact hg) (by rw [hlen]; omega) (by omega) (by rw [List.length_drop, hsz, Nat.sub_mul]) ?_
      have he2 := Els.drop a.toNat _ _ (Els.take b.toNat _ _ he)
      have e1 : ((cur.take (dt.length * sz)).take (b.toNat * sz)).drop (a.toNat * sz) = (cur.drop (a.toNat * sz)).take (((dt.take b.toNat).drop a.toNat).length * sz) := by
        rw [List.take_take, Nat.min_eq_left (Nat.mul_le_mul_right _ hab), List.drop_take, hlen, Nat.sub_mul]
      rw [← e1]
      exact he2
theorem rw_subo {ty E : TypeId} {sz i : Nat} {x : Operand} {lo hi : Option Operand} {lov hiv : Option Value} {a b : Int} {R : RT α} [GRep R] {A : Option Addr} {c : Nat} {dt dt' : List α} (hu : P.underlying ty = some (.slice E)) (hs : ∀ w, (sizeOf E).run P w = .ok sz w)
    (hx : ev l x = some (.slice A dt.length c)) (hlo : lo.mapM (ev l) = some lov) (hhi : hi.mapM (ev l) = some hiv) (hla : (lov = none ∧ a = 0) ∨ ∃ k, lov = some (.int k a)) (hlb : (hiv = none ∧ b = len dt) ∨ ∃ k, hiv = some (.int k b))
    (h : Own sz E R (Mu U0 L) w A c dt) (hsub : sub dt a b = some dt') (hL : L[i]? = some (ob A)) (C : Ctx U0 X0 w0 L w) :
    RunW P N l ⟨d, .slice ty x lo hi none, t, ps, af, g⟩ w (OwnNew sz E R U0 X0 w0 L w [ob A] (L.set i) dt') := fun ac ha => by
  have hcb : dt.length ≤ c ∧ c ≤ maxLen := by
    rcases own_form h with ⟨_, rfl, rfl⟩ | ⟨_, _, _, _, _, _, _, _, h1, h2, _⟩
    · exact ⟨Nat.le_refl _, Nat.zero_le _⟩
    · exact ⟨h1, h2⟩
  have hrun := sl_run (N := N) (d := d) (t := t) (ps := ps) (af := af) (g := g) (w := w) hu hs hx hlo hhi hla hlb hcb.1 hcb.2 hsub
  have ho := own_sub h hsub
  have hob : ob (if c = a.toNat then A else A.map (·.add (a.toNat * sz))) = ob A := by
    split
    · rfl
    · cases A with
      | none => rfl
      | some ad => simp [ob, block_add]
  have hset : L.set i (ob A) = L := set_same hL
  refine ⟨_, w, hrun ac ha, _, _, rfl, ?_, ?_, ?_⟩
  · rw [hob, hset]; exact ho
  · rw [hob, hset]; exact C
  · rw [hob, hset]
    exact ⟨Nat.le_refl _, fun _ _ _ => rfl, fun b e => (by rw [List.mem_singleton] at e; rw [e]; exact List.mem_of_getElem? hL), fun _ _ h => h⟩

/-! ### Bytes to a string -/
theorem toList_push (l : List Int) : ∀ (s : ByteArray), (l.foldl (fun r n => r.push (UInt8.ofNat n.toNat)) s).toList = s.toList ++ l.map (fun n => UInt8.ofNat n.toNat) := by
  induction l with
  | nil => intro s; simp
  | cons n l ih =>
    intro s
    rw [List.foldl_cons, ih, Go.ByteArray.toList_eq, Go.ByteArray.toList_eq]
    simp [ByteArray.push, List.append_assoc]
theorem els_bytes {U : Nat → Prop} : ∀ (l : List Int) (es : List Value), Els 1 (RInt .u8) U w es l → es = l.map (Value.int .u8)
  | [], es, h => h
  | x :: xs, es, h => by
    obtain ⟨e1, e2, rfl, _, hr, ht⟩ := h
    unfold RInt at hr
    subst hr
    rw [els_bytes xs e2 ht]
    rfl
theorem els_ints {k : IntKind} {U : Nat → Prop} : ∀ (l : List Int) (es : List Value), Els 1 (RInt k) U w es l → es = l.map (Value.int k)
  | [], es, h => h
  | x :: xs, es, h => by
    obtain ⟨e1, e2, rfl, _, hr, ht⟩ := h
    unfold RInt at hr
    subst hr
    rw [els_ints xs e2 ht]
    rfl
theorem rv_b2s {src dst E : TypeId} {x : Operand} {U : Nat → Prop} {A : Option Addr} {c n : Nat} {dt : List Int} (hu : P.underlying src = some (.slice E)) (hE : P.underlying E = some (.int .u8)) (hd : P.underlying dst = some .string) (hx : ev l x = some (.slice A n c)) (hn : n = dt.length) (h : Src 1 (RInt .u8) U w A dt) :
    ∃ s, RunV P N l ⟨d, .convert src dst x, t, ps, af, g⟩ w (.string s) ∧ strOf s = str dt := by
  subst hn
  obtain ⟨es, he, hm⟩ := h
  have hes := els_bytes dt es he
  have hel := Els.length _ _ he
  rw [Nat.mul_one] at hel
  cases A with
  | none =>
    have h0 : es = [] := by
      cases es with
      | nil => rfl
      | cons u es => obtain ⟨_, h, _⟩ := hm 0 u rfl; cases h
    subst h0
    have hd0 : dt = [] := List.eq_nil_of_length_eq_zero hel.symm
    subst hd0
    refine ⟨ByteArray.empty, fun a ha => ?_, by rw [strOf, Go.ByteArray.toList_eq]; rfl⟩
    simp [execOp, ha.ev hx, convert, run_underlying hu, run_underlying hd, run_underlying hE, Conv.bytesToString]
  | some ad =>
    refine ⟨dt.foldl (fun r n => r.push (UInt8.ofNat n.toNat)) ByteArray.empty, fun a ha => ?_, ?_⟩
    · have hl : (loadCells ad es.length).run P w = .ok es.toArray w := run_loadCells_list w ad es (fun j u hu => by
        obtain ⟨ad', h1, h2⟩ := hm j u hu
        injection h1 with h1
        subst h1
        exact h2)
      rw [hel, hes] at hl
      have hb := run_bytesToString (P := P) w ad dt.length c dt hl
      simp [execOp, ha.ev hx, convert, run_underlying hu, run_underlying hd, run_underlying hE, hb]
    · unfold strOf str
      rw [toList_push]
      have : ByteArray.empty.toList = [] := by rw [Go.ByteArray.toList_eq]; rfl
      rw [this]
      simp
end
end V
end Go.Proofs.YtojcklkcjnnkaaaDoor
