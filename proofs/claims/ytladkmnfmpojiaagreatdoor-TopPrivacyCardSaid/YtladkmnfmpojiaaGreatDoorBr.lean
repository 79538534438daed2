/-
  From the row to a call, and back.
-/
import Derived.Test.YtladkmnfmpojiaaGreatDoorRep
import Derived.Test.YtladkmnfmpojiaaGreatDoorRows
import Derived.ProofKit
import Derived.SizedLaws
import Derived.Below
import Derived.ChangeSame
import Derived.Deep.Slices
import Derived.OpenShut
import Derived.Test.YtladkmnfmpojiaaGreatDoorLc
import Derived.LaidLaws
import Derived.Lib.LaidTab
namespace Go.Proofs.YtladkmnfmpojiaaGreatDoor
namespace V
open Go.ChangeShapes Go.WideShapes Go.ChangeAt Go.RowKit Go.Deep

abbrev U00 : Nat → Prop := Mu (fun _ => False) []
theorem not_U00 (b : Nat) : ¬ U00 b := by simp [Mu]
/-- What is read as a datum of type t is, in cells, what R reads; G: the bounds. -/
def Opens {α : Type} (P : Program) (t : TypeId) (sz : Nat) (R : RT α) (G : α → Prop) : Prop :=
  ∀ {H : Type} {enc : TypeId × Value → H} {w : World} {fuel : Nat} {cs : List Value} {x : DataW H × List MemPlace}, DataW.trod enc P w 0 (fun _ => true) true fuel t cs = some x →
    (∀ n ∈ x.1.weights P t, n ≤ reachBytes) → cs.length = sz ∧ ∃ d, R U00 w cs d ∧ G d
def GInt (k : IntKind) (n : Int) : Prop := k.min ≤ n ∧ n ≤ k.max
def GAll {α : Type} (G : α → Prop) (l : List α) : Prop := l.length ≤ reachBytes ∧ ∀ x ∈ l, G x
def GTop {α : Type} (_ : α) : Prop := True
theorem opens_int {P : Program} {t : TypeId} {k : IntKind} (ht : P.underlying t = some (.int k)) : Opens P t 1 (RInt k) (GInt k) := fun h _ => by
  obtain ⟨n, rfl, _, hw⟩ := DataW.trod_int ht h
  refine ⟨rfl, n, rfl, ?_⟩
  simpa [Lit.wf, GInt] using hw
theorem one1 {l m : List Value} (i : Nat) (h : l = m) : l.getD i undef = m.getD i undef := by rw [h]
def GStr (s : List Int) : Prop := s.length ≤ reachBytes ∧ ∀ x ∈ s, 0 ≤ x ∧ x ≤ 255
theorem opens_str {P : Program} {t : TypeId} (ht : P.underlying t = some .string) : Opens P t 1 RStr GStr := fun {H enc w fuel cs x} h hw => by
  obtain ⟨b, rfl, hx, _⟩ := DataW.trod_string ht h
  subst hx
  refine ⟨rfl, strOf b, ⟨b, rfl, rfl⟩, ?_, fun x hx => ?_⟩
  · have := hw b.data.toList.length (by simp [DataW.weights])
    simpa [strOf, ByteArray.toList_eq] using this
  · unfold strOf at hx
    obtain ⟨y, _, rfl⟩ := List.mem_map.1 hx
    have := y.toNat_lt
    omega
theorem opens_bool {P : Program} {t : TypeId} (ht : P.underlying t = some .bool) : Opens P t 1 RBool GTop := fun h _ => by
  obtain ⟨n, rfl, _⟩ := DataW.trod_bool ht h
  exact ⟨rfl, n, rfl, trivial⟩
theorem flat_at {c : Nat → List Value} {sz : Nat} : ∀ (n : Nat), (∀ i, i < n → (c i).length = sz) → ((List.range n).flatMap c).length = n * sz ∧ ∀ j u, ((List.range n).flatMap c)[j]? = some u → ∃ i r, i < n ∧ j = i * sz + r ∧ (c i)[r]? = some u
  | 0, _ => ⟨by simp, fun j u h => by simp at h⟩
  | n + 1, hc => by
    obtain ⟨h1, h2⟩ := flat_at n fun i hi => hc i (by omega)
    have e : (List.range (n + 1)).flatMap c = (List.range n).flatMap c ++ c n := by simp [List.range_succ]
    rw [e]
    refine ⟨by rw [List.length_append, h1, hc n (by omega), Nat.succ_mul], fun j u hu => ?_⟩
    by_cases hj : j < ((List.range n).flatMap c).length
    · rw [List.getElem?_append_left hj] at hu
      obtain ⟨i, r, a, b, d⟩ := h2 j u hu
      exact ⟨i, r, by omega, b, d⟩
    · rw [List.getElem?_append_right (by omega)] at hu
      refine ⟨n, j - n * sz, by omega, by omega, ?_⟩
      rw [h1] at hu
      exact hu
theorem els_of {α : Type} {sz : Nat} {R : RT α} {w : World} {c : Nat → List Value} {d : Nat → α} : ∀ (is : List Nat), (∀ i ∈ is, (c i).length = sz ∧ R U00 w (c i) (d i)) → Els sz R U00 w (is.flatMap c) (is.map d)
  | [], _ => rfl
  | i :: is, h => ⟨c i, is.flatMap c, by simp, (h i (by simp)).1, (h i (by simp)).2, els_of is fun j hj => h j (by simp [hj])⟩
theorem weightsAll_mem {H : Type} {P : Program} {e : TypeId} {n : Nat} : ∀ {ds : List (DataW H)} {d : DataW H}, d ∈ ds → n ∈ d.weights P e → n ∈ DataW.weightsAll P e ds
  | [], _, h, _ => by simp at h
  | x :: ds, d, h, hn => by
    rw [DataW.weightsAll, List.mem_append]
    rcases List.mem_cons.1 h with rfl | h
    · exact .inl hn
    · exact .inr (weightsAll_mem h hn)
theorem opens_slice {α : Type} [Inhabited α] {P : Program} {t e : TypeId} {sz : Nat} {R : RT α} {G : α → Prop} (ht : P.underlying t = some (.slice e)) (hc : P.cellsOf e = sz) (hb : Nat.blt 0 (P.bytesOf e) = true) (ho : Opens P e sz R G) : Opens P t 1 (RSl sz R) (GAll G) := fun {H enc w fuel cs x} h hw => by
  rcases open_slice ht h with ⟨rfl, rfl⟩ | ⟨a, len, cap, m, n, D, Pl, rfl, _, hl, hm, hmm, rfl, hx⟩
  · exact ⟨rfl, [], ⟨none, 0, rfl, Sl.nil0⟩, by simp, fun x hx => by simp at hx⟩
  have hmm : m = cap := hmm
  subst hmm
  have hw1 : ∀ k ∈ ((List.range len).map D ++ (List.range (m - len)).map fun j => D (len + j)).length * P.bytesOf e :: DataW.weightsAll P e ((List.range len).map D) ++ DataW.weightsAll P e ((List.range (m - len)).map fun j => D (len + j)), k ≤ reachBytes := fun k hk => hw k (by
    simp only [DataW.weights, ht]
    simpa using hk)
  obtain ⟨c, hcx⟩ := choose_lt (n := m) (α := List Value) (p := fun i cs => w.cells? 0 (a.add (i * P.cellsOf e)) (P.cellsOf e) = some cs ∧ DataW.trod enc P w 0 (fun _ => true) true n e cs = some (D i, Pl i)) hx
  obtain ⟨d, hd⟩ := choose_lt (n := len) (α := α) (p := fun i d => (c i).length = sz ∧ R U00 w (c i) d ∧ G d) fun i hi => by
    obtain ⟨h1, d, h2, h3⟩ := ho (hcx i (by omega)).2 (fun k hk => hw1 k (by
      simp only [List.cons_append, List.mem_cons, List.mem_append]
      exact .inr (.inl (weightsAll_mem (List.mem_map.2 ⟨i, List.mem_range.2 hi, rfl⟩) hk))))
    exact ⟨d, h1, h2, h3⟩
  have hlen : len ≤ reachBytes := by
    have := hw1 _ (by simp; exact .inl rfl)
    have hb' : 0 < P.bytesOf e := by simpa [Nat.blt_eq] using hb
    have h3 : ((List.range len).map D ++ (List.range (m - len)).map fun j => D (len + j)).length = m := by simp; omega
    have h4 : m * 1 ≤ m * P.bytesOf e := Nat.mul_le_mul_left _ hb'
    simp only [List.length_append, List.length_map, List.length_range] at h3 this
    rw [h3] at this
    omega
  refine ⟨rfl, (List.range len).map d, ⟨some a, m, by simp, by simpa using hl, hm, (List.range len).flatMap c, els_of _ fun i hi => ⟨(hd i (List.mem_range.1 hi)).1, (hd i (List.mem_range.1 hi)).2.1⟩, ?_⟩, by simpa using hlen, fun x hx => ?_⟩
  · intro j u hu
    obtain ⟨i, r, hi, rfl, hr⟩ := (flat_at len fun i hi => (hd i hi).1).2 j u hu
    obtain ⟨_, hl2, hcell⟩ := World.cells?_some (hcx i (by omega)).1
    refine ⟨a, rfl, not_U00 _, ?_⟩
    have hr' : r < P.cellsOf e := by
      have := (List.getElem?_eq_some_iff.1 hr).1
      omega
    have := hcell r hr'
    rw [hr, add_add, hc] at this
    exact this
  · obtain ⟨i, hi, rfl⟩ := List.mem_map.1 hx
    exact (hd i (List.mem_range.1 hi)).2.2
theorem struct_at {H : Type} {enc : TypeId × Value → H} {P : Program} {w : World} {fuel : Nat} {t : TypeId} {cs : List Value} {x : DataW H × List MemPlace} {fs : Array Field} (ht : P.underlying t = some (.struct fs)) (h : DataW.trod enc P w 0 (fun _ => true) true fuel t cs = some x) (hw : ∀ n ∈ x.1.weights P t, n ≤ reachBytes) :
    cs.length = P.cellsOf t ∧ ∀ (i : Nat) (f : Field), fs[i]? = some f → ∃ (n : Nat) (y : DataW H × List MemPlace), DataW.trod enc P w 0 (fun _ => true) true n f.type ((cs.drop f.offset).take (P.cellsOf f.type)) = some y ∧ ∀ k ∈ y.1.weights P f.type, k ≤ reachBytes := by
  obtain ⟨xs, n, rfl, rfl, hl, hxs, hf⟩ := DataW.trod_struct ht h
  refine ⟨hl, fun i f hi => ?_⟩
  have h1 := hf i f hi
  have hlt : i < xs.length := by
    rw [hxs]
    exact (Array.getElem?_eq_some_iff.1 hi).1
  rw [List.getElem?_eq_getElem hlt] at h1
  refine ⟨n, _, h1, fun k hk => hw k ?_⟩
  simp only [DataW.weights, ht]
  refine DataW.weights_mem_each (j := i) (t := f.type) ?_ (by simp [List.getElem?_eq_getElem hlt]) k hk
  simp [hi]
theorem struct_field {α : Type} {P : Program} {u : TypeId} {sz : Nat} {R : RT α} {G : α → Prop} (ho : Opens P u sz R G) {H : Type} {enc : TypeId × Value → H} {w : World} {cs : List Value} {fs : Array Field}
    (h : ∀ (i : Nat) (f : Field), fs[i]? = some f → ∃ (n : Nat) (y : DataW H × List MemPlace), DataW.trod enc P w 0 (fun _ => true) true n f.type ((cs.drop f.offset).take (P.cellsOf f.type)) = some y ∧ ∀ k ∈ y.1.weights P f.type, k ≤ reachBytes)
    (i off n : Nat) (hf : (fs[i]?).map (fun f => (f.type, f.offset)) = some (u, off)) (hn : P.cellsOf u = n) : ∃ d, R U00 w ((cs.drop off).take n) d ∧ G d := by
  cases hi : fs[i]? with
  | none => simp [hi] at hf
  | some f =>
    rw [hi] at hf
    simp only [Option.map_some, Option.some.injEq, Prod.mk.injEq] at hf
    obtain ⟨rfl, rfl⟩ := hf
    obtain ⟨m, y, h1, h2⟩ := h i f hi
    rw [hn] at h1
    obtain ⟨_, d, hd, hg⟩ := ho h1 h2
    exact ⟨d, hd, hg⟩
theorem one_cell {v u : Value} (hne : ∀ cs, v ≠ .agg cs) (h : v.cells.toList = [u]) : v = u := by
  cases v <;> simp_all [Value.cells]

/-! ### Arguments -/
section
variable {H : Type} {enc : TypeId × Value → H} {P : Program} {W : World} {b0 : Nat} {r : Reach} {t : TypeId} {v : Value} {d : DataW H} {p : List MemPlace}
theorem arg_one {α : Type} {R : RT α} {G : α → Prop} (ho : Opens P t 1 R G) (hne : ∀ cs, v ≠ .agg cs) (h : DataW.Trod enc P W 0 (fun _ => true) true t v d p) (hw : ∀ n ∈ d.weights P t, n ≤ reachBytes) : ∃ x, R U00 W [v] x ∧ G x := by
  obtain ⟨fuel, hf⟩ := h
  obtain ⟨hl, x, hx, hg⟩ := ho hf hw
  refine ⟨x, ?_, hg⟩
  have : v.cells.toList = [v] := by cases v <;> simp_all [Value.cells]
  rwa [this] at hx
theorem arg_int {k : IntKind} (ht : P.underlying t = some (.int k)) (hok : Value.okWide P W r b0 t v) (h : DataW.Trod enc P W 0 (fun _ => true) true t v d p) (hw : ∀ n ∈ d.weights P t, n ≤ reachBytes) : ∃ n, v = .int k n ∧ GInt k n := by
  obtain ⟨n, rfl⟩ := okWide_int ht hok
  obtain ⟨x, hx, hg⟩ := arg_one (opens_int ht) (fun cs h => by cases h) h hw
  have hx : [Value.int k n] = [.int k x] := hx
  injection hx with hx
  exact ⟨x, hx, hg⟩
theorem arg_bool (ht : P.underlying t = some .bool) (hok : Value.okWide P W r b0 t v) : ∃ n, v = .bool n := okWide_bool ht hok
theorem arg_slice {α : Type} [Inhabited α] {e : TypeId} {sz : Nat} {R : RT α} {G : α → Prop} (ht : P.underlying t = some (.slice e)) (ho : Opens P t 1 (RSl sz R) (GAll G)) (hok : Value.okWide P W r b0 t v) (h : DataW.Trod enc P W 0 (fun _ => true) true t v d p) (hw : ∀ n ∈ d.weights P t, n ≤ reachBytes) :
    ∃ A k l, v = .slice A (List.length l) k ∧ Sl sz R U00 W A k l ∧ GAll G l := by
  obtain ⟨a, len, cap, rfl⟩ := okWide_slice ht hok
  obtain ⟨x, ⟨A, c, hx, hs⟩, hg⟩ := arg_one ho (fun cs h => by cases h) h hw
  injection hx with hx
  exact ⟨A, c, x, hx, hs, hg⟩
theorem arg_struct {α : Type} {sz : Nat} {R : RT α} {G : α → Prop} {fs : Array Field} (ht : P.underlying t = some (.struct fs)) (ho : Opens P t sz R G) (hok : Value.okWide P W r b0 t v) (h : DataW.Trod enc P W 0 (fun _ => true) true t v d p) (hw : ∀ n ∈ d.weights P t, n ≤ reachBytes) :
    ∃ cs x, v = .agg (List.toArray cs) ∧ R U00 W cs x ∧ G x := by
  obtain ⟨cs, rfl, _⟩ := okWide_struct ht hok
  obtain ⟨fuel, hf⟩ := h
  obtain ⟨hl, x, hx, hg⟩ := ho hf hw
  exact ⟨cs.toList, x, by simp, hx, hg⟩
theorem weights_arg {ts : List TypeId} {ds : List (DataW H)} (h : (DataW.weightsEach P ts ds).all (· ≤ reachBytes) = true) (j : Nat) (ht : ts[j]? = some t) (hd : ds[j]? = some d) : ∀ n ∈ d.weights P t, n ≤ reachBytes := fun n hn => by
  have := List.all_eq_true.1 h _ (DataW.weights_mem_each ht hd n hn)
  simpa using this
end

/-! ### The row's last step -/
section
variable {H : Type} {enc : TypeId × Value → H} {P : Program}
theorem all_stays (hl : laidOutB P = true) {W W' : World} (hB : Below W.heap.size W W') {sp : Nat → Bool} : ∀ {ts : List TypeId} {vs : List Value} {ds : List (DataW H)} {p : List MemPlace}, (∀ t ∈ ts, P.readableRec t = true ∧ t < P.types.size) →
    DataW.TrodAll enc P W 0 (fun _ => true) true ts vs ds p → (∀ x ∈ p, x.block < W.heap.size) → (∀ x ∈ p, sp x.block = true) → DataW.TrodAll enc P W' 0 sp true ts vs ds p
  | [], [], [], _, _, h, _, _ => h
  | t :: ts, v :: vs, d :: ds, _, hr, h, h1, h2 => by
    obtain ⟨p, q, ha, hb, rfl⟩ := h
    refine ⟨p, q, WideElems.Trod_stays hl (hr t (by simp)).1 (hr t (by simp)).2 ha (fun x hx => hB.same (h1 x (by simp [hx]))) (fun x hx => h2 x (by simp [hx])), ?_, rfl⟩
    exact all_stays hl hB (fun t ht => hr t (by simp [ht])) hb (fun x hx => h1 x (by simp [hx])) (fun x hx => h2 x (by simp [hx]))
  | [], [], _ :: _, _, _, h, _, _ => h.elim
  | [], _ :: _, _, _, _, h, _, _ => by cases h
  | _ :: _, [], _, _, _, h, _, _ => by cases h
  | _ :: _, _ :: _, [], _, _, h, _, _ => by cases h
theorem post_true {f : Func} {s : ChangeSpec} {apart fresh handsOn again : Bool} {W W' : World} {args : Array Value} {ds gs : List (DataW H)} {before : List MemPlace} {tb : TypeId}
    (hW : DataW.Whole enc P f.params.toList s.vars apart W args.toList ds gs before) (hv : s.vars = []) (hs : s.fn H (ds ++ gs) = { results := [.lit (.bool true)], args := ds }) (hr : f.resultTypes = #[tb]) (hb : P.underlying tb = some .bool)
    (hl : laidOutB P = true) (hrec : ∀ t ∈ f.params.toList, P.readableRec t = true ∧ t < P.types.size) (hB : Below W.heap.size W W') : s.post enc P f apart fresh handsOn again W args (.bool true) W' := by
  have hlt : ∀ p ∈ before, p.block < W.heap.size := fun p hp => hW.lt p hp
  obtain ⟨p, q, hA, hV, rfl, hz, hn⟩ := id hW
  rw [hv] at hV
  obtain ⟨rfl, rfl⟩ := trodVars_none hV
  simp only [List.append_nil] at hlt hz hn hs hW
  have hargs : ∀ sp : Nat → Bool, (∀ x ∈ p, sp x.block = true) → DataW.TrodAll enc P W' 0 sp true f.params.toList args.toList ds p := fun sp hsp => all_stays hl hB hrec hA hlt hsp
  have hres : ∀ (b : Nat) (sp : Nat → Bool) (hd : Bool), DataW.TrodAll enc P W' b sp hd f.resultTypes.toList ((Value.bool true).resultList f.resultTypes.size) [.lit (.bool true)] [] := fun b sp hd => by
    rw [hr]
    exact trodAll_mk1 ⟨1, by simp [DataW.trod, hb, Value.cells]⟩
  have hok : ∀ (j : Nat) (t : TypeId) (r : Value), f.resultTypes[j]? = some t → ((Value.bool true).resultList f.resultTypes.size)[j]? = some r → Value.okWide P W' .any 0 t r := ok_one hr rfl (okWide_bool_mk hb true)
  refine ⟨ds, [], p, [], p, [], hW, ?_, ?_, ?_, hB.frame _, fun _ => ⟨hok, [.lit (.bool true)] ++ ds, [], p, ⟨p, [], ?_, ?_, by simp, ?_, ?_⟩, fun x hx _ => hx⟩⟩
  · rw [List.append_nil, hs]; exact hres _ _ _
  · rw [List.append_nil, hs]; exact hargs _ fun x hx => by simpa using hlt x hx
  · rw [List.append_nil, hs, hv]; rfl
  · have := trodAll_append (hargs (fun _ => true) fun _ _ => rfl) (hres 0 (fun _ => true) true)
    simpa using this
  · rw [hv]; rfl
  · intro b off hp
    rw [hB.frozen (hlt _ hp)]
    exact hz b off hp
  · exact hn
theorem below_of {W W' : World} (C : Ctx (fun _ => False) [] W [] W') : Below W.heap.size W W' := ⟨C.step.os, C.step.tape, C.step.output, C.step.size, fun k hk => C.step.block k hk (by simp)⟩
/-- What the walk gives, and what the row asks. -/
theorem shut {f : FuncId} {fn : Func} {s : ChangeSpec} {apart fresh handsOn again : Bool} {W : World} {args : Array Value} {ds gs : List (DataW H)} {before : List MemPlace} {tb : TypeId}
    (hc : Calls P f args W fun e w => ∃ v, e = .returned v ∧ v = .bool true ∧ Ctx (fun _ => False) [] W [] w)
    (hW : DataW.Whole enc P fn.params.toList s.vars apart W args.toList ds gs before) (hv : s.vars = []) (hs : s.fn H (ds ++ gs) = { results := [.lit (.bool true)], args := ds }) (hr : fn.resultTypes = #[tb]) (hb : P.underlying tb = some .bool)
    (hl : laidOutB P = true) (hrec : (fn.params.toList.all fun t => P.readableRec t && decide (t < P.types.size)) = true) : Calls P f args W fun e W' => ∃ v, e = .returned v ∧ s.post enc P fn apart fresh handsOn again W args v W' := by
  refine hc.mono fun e w ⟨v, he, hv', C⟩ => ⟨v, he, ?_⟩
  subst hv'
  refine post_true hW hv hs hr hb hl (fun t ht => ?_) (below_of C)
  have := List.all_eq_true.1 hrec t ht
  simpa using this
/-! ### From a walk -/
def OKs (κ : List Conc) (U : Nat → Prop) (w : World) : List Item → List Conc → Prop
  | [], [] => True
  | it :: its, c :: cs => OK κ U w it c ∧ OKs κ U w its cs
  | _, _ => False
theorem OKs.get {κ : List Conc} {U : Nat → Prop} {w : World} : ∀ {its : List Item} {cs : List Conc}, OKs κ U w its cs → ∀ (i : Nat) it c, its[i]? = some it → cs[i]? = some c → OK κ U w it c
  | [], [], _, i, it, c, h, _ => by simp at h
  | x :: its, y :: cs, h, 0, it, c, h1, h2 => by simp at h1 h2; subst h1; subst h2; exact h.1
  | x :: its, y :: cs, h, i + 1, it, c, h1, h2 => by simp at h1 h2; exact h.2.get i it c h1 h2
  | [], _ :: _, h, _, _, _, _, _ => h.elim
  | _ :: _, [], h, _, _, _, _, _ => h.elim
def look1 : Item → Bool
  | @Item.rd _ _ _ _ _ => true
  | .str _ => true
  | _ => false
theorem from_spec {f : FuncId} {av : List SV} {its its' : List Item} {W : World} {args : Array Value} (spec : Spec P f av its (vb true) its') (κ : List Conc) (hl : κ.length = its.length) (hn : (its.all look1 && (scE its.length (enumS 0 av) && scI its.length its)) = true) (gl : Globs (fun _ => False) [] W) (hok : OKs κ U00 W its κ) (ha : (av.map (SV.den κ)).toArray = args) :
    Calls P f args W fun e w => ∃ v, e = .returned v ∧ v = .bool true ∧ Ctx (fun _ => False) [] W [] w := by
  subst ha
  simp only [Bool.and_eq_true] at hn
  obtain ⟨h1, h2, h3⟩ := hn
  rw [List.all_eq_true] at h1
  have hnone : ∀ x ∈ Lof its κ, x = none := by
    intro x hx
    cases x with
    | none => rfl
    | some b =>
      obtain ⟨i, it, c, h4, h5, h6⟩ := Lof_mem.1 hx
      have := h1 it (List.mem_of_getElem? h4)
      cases it with
      | rd sz R l => cases c <;> cases h6
      | str s => cases c <;> cases h6
      | _ => cases this
  have hmem : ∀ b, some b ∉ Lof its κ := fun b hb => by have := hnone _ hb; cases this
  have C0 : Ctx (fun _ => False) (Lof its κ) W (Lof its κ) W := ⟨Step.refl, fun b h => h.elim, fun b hb => absurd hb (hmem b), fun i j b _ h => absurd (List.mem_of_getElem? h) (hmem b)⟩
  have gl0 : Globs (fun _ => False) (Lof its κ) W := fun p hp => ⟨(gl p hp).1, fun h => h, hmem p.1, (gl p hp).2.2.2⟩
  have S : St its.length ⟨fun _ => False, Lof its κ, W, κ, gl0, fun _ _ => False⟩ (enumS 0 av) its κ W := by
    refine ⟨hl, by rw [← hl]; exact List.take_length, by rw [hl]; exact Nat.le_refl _, h2, h3, C0, fun i it c h4 h5 => ?_⟩
    have h6 := hok.get i it c h4 h5
    have hlt : it.lt κ.length = true := by
      unfold scI at h3
      rw [List.all_eq_true] at h3
      rw [hl]
      exact h3 _ (List.mem_of_getElem? h4)
    have h7 := OK.ext (κx := []) hlt (U' := Mu (fun _ => False) (Lof its κ)) (fun b hb => hb.elim (fun h => h.elim) fun h => absurd h (hmem b)) h6
    rwa [List.append_nil] at h7
  refine (spec _ κ W gl0 S).mono ?_
  rintro e w ⟨κx, rfl, S'⟩
  refine ⟨_, rfl, rfl, ⟨⟨S'.ctx.step.os, S'.ctx.step.tape, S'.ctx.step.output, S'.ctx.step.size, fun b hb _ => S'.ctx.step.block b hb (hmem b)⟩, S'.ctx.u0, fun b hb => by simp at hb, fun i j b _ h => by simp at h⟩⟩
end
end V
end Go.Proofs.YtladkmnfmpojiaaGreatDoor
namespace Go.Proofs.YtladkmnfmpojiaaGreatDoor
namespace V
theorem array_at {H : Type} {enc : TypeId × Value → H} {P : Program} {w : World} {fuel : Nat} {t e : TypeId} {n : Nat} {cs : List Value} {x : DataW H × List MemPlace} (ht : P.underlying t = some (.array n e)) (h : DataW.trod enc P w 0 (fun _ => true) true fuel t cs = some x) (hw : ∀ n ∈ x.1.weights P t, n ≤ reachBytes) :
    cs.length = P.cellsOf t ∧ ∀ (i : Nat), i < n → ∃ (m : Nat) (y : DataW H × List MemPlace), DataW.trod enc P w 0 (fun _ => true) true m e ((cs.drop (i * P.cellsOf e)).take (P.cellsOf e)) = some y ∧ ∀ k ∈ y.1.weights P e, k ≤ reachBytes := by
  obtain ⟨xs, m, rfl, rfl, hl, hxs, hf⟩ := DataW.trod_array ht h
  refine ⟨hl, fun i hi => ?_⟩
  have h1 := hf i hi
  have hlt : i < xs.length := by omega
  rw [List.getElem?_eq_getElem hlt] at h1
  refine ⟨m, _, h1, fun k hk => hw k ?_⟩
  simp only [DataW.weights, ht]
  exact weightsAll_mem (List.mem_map.2 ⟨xs[i], List.getElem_mem hlt, rfl⟩) hk
theorem array_elem {α : Type} {P : Program} {u : TypeId} {sz : Nat} {R : RT α} {G : α → Prop} (ho : Opens P u sz R G) {H : Type} {enc : TypeId × Value → H} {w : World} {cs : List Value} {n : Nat}
    (h : ∀ (i : Nat), i < n → ∃ (m : Nat) (y : DataW H × List MemPlace), DataW.trod enc P w 0 (fun _ => true) true m u ((cs.drop (i * P.cellsOf u)).take (P.cellsOf u)) = some y ∧ ∀ k ∈ y.1.weights P u, k ≤ reachBytes)
    (i off k : Nat) (hi : i < n) (hn : P.cellsOf u = k) (hoff : i * k = off) : ∃ d, R U00 w ((cs.drop off).take k) d ∧ G d := by
  obtain ⟨m, y, h1, h2⟩ := h i hi
  rw [hn, hoff] at h1
  obtain ⟨_, d, hd, hg⟩ := ho h1 h2
  exact ⟨d, hd, hg⟩
/-- A law's argument of array type. -/
theorem arg_array {H : Type} {enc : TypeId × Value → H} {P : Program} {W : World} {r : Reach} {b0 : Nat} {t : TypeId} {v : Value} {d : DataW H} {p : List MemPlace} {α : Type} {sz n : Nat} {e : TypeId} {R : RT α} {G : α → Prop} (ht : P.underlying t = some (.array n e)) (ho : Opens P t sz R G) (hok : Value.okWide P W r b0 t v) (h : DataW.Trod enc P W 0 (fun _ => true) true t v d p) (hw : ∀ n ∈ d.weights P t, n ≤ reachBytes) :
    ∃ cs x, v = .agg (List.toArray cs) ∧ R U00 W cs x ∧ G x := by
  have hv : ∃ cs, v = .agg cs := by
    simp only [Value.okWide, ht] at hok
    obtain ⟨cs, h1, _⟩ := hok
    exact ⟨cs, h1⟩
  obtain ⟨cs, rfl⟩ := hv
  obtain ⟨fuel, hf⟩ := h
  obtain ⟨_, x, hx, hg⟩ := ho hf hw
  exact ⟨cs.toList, x, by simp, hx, hg⟩
open Go.ChangeShapes in
theorem trod4 {H : Type} {enc : TypeId × Value → H} {P : Program} {w : World} {base : Nat} {spare : Nat → Bool} {held : Bool} {t0 t1 t2 t3 : TypeId} {args : Array Value} {ds : List (DataW H)} {ps : List MemPlace} (h : DataW.TrodAll enc P w base spare held [t0, t1, t2, t3] args.toList ds ps) :
    ∃ v0 v1 v2 v3 d0 d1 d2 d3 p0 p1 p2 p3, args = #[v0, v1, v2, v3] ∧ ds = [d0, d1, d2, d3] ∧ ps = p0 ++ p1 ++ p2 ++ p3 ∧ DataW.Trod enc P w base spare held t0 v0 d0 p0 ∧ DataW.Trod enc P w base spare held t1 v1 d1 p1 ∧ DataW.Trod enc P w base spare held t2 v2 d2 p2 ∧ DataW.Trod enc P w base spare held t3 v3 d3 p3 := by
  obtain ⟨v0, vs, d0, ds', p0, q, hargs, rfl, rfl, h0, r0⟩ := trodAll_cons h
  obtain ⟨v1, vs1, d1, ds1, p1, q1, rfl, rfl, rfl, h1, r1⟩ := trodAll_cons r0
  obtain ⟨v2, vs2, d2, ds2, p2, q2, rfl, rfl, rfl, h2, r2⟩ := trodAll_cons r1
  obtain ⟨v3, vs3, d3, ds3, p3, q3, rfl, rfl, rfl, h3, r3⟩ := trodAll_cons r2
  obtain ⟨rfl, rfl, rfl⟩ := trodAll_nil r3
  exact ⟨v0, v1, v2, v3, d0, d1, d2, d3, p0, p1, p2, p3, by cases args; simp_all, rfl, by simp, h0, h1, h2, h3⟩
open Go.ChangeShapes in
theorem trod5 {H : Type} {enc : TypeId × Value → H} {P : Program} {w : World} {base : Nat} {spare : Nat → Bool} {held : Bool} {t0 t1 t2 t3 t4 : TypeId} {args : Array Value} {ds : List (DataW H)} {ps : List MemPlace} (h : DataW.TrodAll enc P w base spare held [t0, t1, t2, t3, t4] args.toList ds ps) :
    ∃ v0 v1 v2 v3 v4 d0 d1 d2 d3 d4 p0 p1 p2 p3 p4, args = #[v0, v1, v2, v3, v4] ∧ ds = [d0, d1, d2, d3, d4] ∧ ps = p0 ++ p1 ++ p2 ++ p3 ++ p4 ∧ DataW.Trod enc P w base spare held t0 v0 d0 p0 ∧ DataW.Trod enc P w base spare held t1 v1 d1 p1 ∧ DataW.Trod enc P w base spare held t2 v2 d2 p2 ∧ DataW.Trod enc P w base spare held t3 v3 d3 p3 ∧ DataW.Trod enc P w base spare held t4 v4 d4 p4 := by
  obtain ⟨v0, vs, d0, ds', p0, q, hargs, rfl, rfl, h0, r0⟩ := trodAll_cons h
  obtain ⟨v1, vs1, d1, ds1, p1, q1, rfl, rfl, rfl, h1, r1⟩ := trodAll_cons r0
  obtain ⟨v2, vs2, d2, ds2, p2, q2, rfl, rfl, rfl, h2, r2⟩ := trodAll_cons r1
  obtain ⟨v3, vs3, d3, ds3, p3, q3, rfl, rfl, rfl, h3, r3⟩ := trodAll_cons r2
  obtain ⟨v4, vs4, d4, ds4, p4, q4, rfl, rfl, rfl, h4, r4⟩ := trodAll_cons r3
  obtain ⟨rfl, rfl, rfl⟩ := trodAll_nil r4
  exact ⟨v0, v1, v2, v3, v4, d0, d1, d2, d3, d4, p0, p1, p2, p3, p4, by cases args; simp_all, rfl, by simp, h0, h1, h2, h3, h4⟩
end V
end Go.Proofs.YtladkmnfmpojiaaGreatDoor
namespace Go.Proofs.YtladkmnfmpojiaaGreatDoor
namespace V
open Go.ChangeShapes Go.WideShapes Go.ChangeAt Go.RowKit Go.Deep
theorem own : ownKnob Tryz.prog.godebug = none := by kernel_rfl

end V
end Go.Proofs.YtladkmnfmpojiaaGreatDoor
namespace Go.Proofs.YtladkmnfmpojiaaGreatDoor
namespace V
theorem chunks {k : IntKind} {m : Nat} : ∀ (zss : List (List Int)) (cs : List Value), cs.length = zss.length * m → (∀ (i : Nat) z, zss[i]? = some z → (cs.drop (i * m)).take m = z.map fun z => Value.int k z) → cs = zss.flatten.map fun z => Value.int k z
  | [], cs, hl, _ => by
    have : cs.length = 0 := by rw [hl]; exact Nat.zero_mul m
    rw [List.length_eq_zero_iff.1 this]
    rfl
  | z :: zss, cs, hl, h => by
    have h0 := h 0 z rfl
    rw [Nat.zero_mul, List.drop_zero] at h0
    have h1 := chunks (k := k) (m := m) zss (cs.drop m) (by rw [List.length_drop, hl, List.length_cons, Nat.succ_mul]; omega) (fun i z hz => by
      have := h (i + 1) z (by simpa using hz)
      rw [List.drop_drop, Nat.add_comm m, ← Nat.succ_mul]
      exact this)
    rw [List.flatten_cons, List.map_append, ← h0, ← h1, List.take_append_drop]
theorem cells_of_tab2 {H : Type} {enc : TypeId × Value → H} {P : Program} {w : World} {base : Nat} {sp : Nat → Bool} {held : Bool} {fuel : Nat} {t e1 e : TypeId} {n m : Nat} {k : IntKind} {cs : List Value} {zss : List (List Int)} {p : List MemPlace}
    (ht : P.underlying t = some (.array n e1)) (ht1 : P.underlying e1 = some (.array m e)) (he : P.underlying e = some (.int k)) (hce : P.cellsOf e = 1) (hce1 : P.cellsOf e1 = m) (hct : P.cellsOf t = n * m)
    (h : DataW.trod enc P w base sp held fuel t cs = some (.agg (zss.map (Lib.tabData k)), p)) : cs = zss.flatten.map fun z => Value.int k z := by
  obtain ⟨xs, f, _, hx, hl, hxs, hf⟩ := DataW.trod_array ht h
  have hx2 : xs.map (·.1) = zss.map (Lib.tabData (H := H) k) := by
    have := congrArg Prod.fst hx
    simp only [DataW.agg.injEq] at this
    exact this.symm
  have hz : zss.length = n := by
    have := congrArg List.length hx2
    simpa [hxs] using this.symm
  refine chunks zss cs (by rw [hl, hct, hz]) fun i z hzi => ?_
  have hi : i < n := by rw [← hz]; exact (List.getElem?_eq_some_iff.1 hzi).1
  have h1 := hf i hi
  rw [hce1] at h1
  have h2 : (xs.map (·.1))[i]? = some (Lib.tabData (H := H) k z) := by rw [hx2, List.getElem?_map, hzi]; rfl
  rw [List.getElem?_map] at h2
  cases e3 : xs[i]? with
  | none => rw [e3] at h2; cases h2
  | some y =>
    rw [e3] at h1 h2
    injection h2 with h2
    obtain ⟨y1, y2⟩ := y
    simp only at h2
    subst h2
    exact Lib.cells_of_tab ht1 he hce hce1 h1
theorem tab2_of_head {P : Program} {W : World} {name : String} {k : IntKind} {zss : List (List Int)} {rest : List (String × DataW Unit)} {g : Nat} {t e1 e : TypeId} {n m : Nat}
    (hg : P.globalNamed name = some g) (hty : (P.globals[g]?).map (·.type) = some t) (ht : P.underlying t = some (.array n e1)) (ht1 : P.underlying e1 = some (.array m e)) (he : P.underlying e = some (.int k)) (hce : P.cellsOf e = 1) (hce1 : P.cellsOf e1 = m) (hct : P.cellsOf t = n * m)
    (h : laidMet P ((name, .agg (zss.map (Lib.tabData k))) :: rest) W) : Lib.TabIs P W name k zss.flatten := by
  obtain ⟨ps, ⟨g', t', cs, fuel, p, q, hg', ht', hvar, hd, _, _⟩, _⟩ := h
  obtain rfl := Option.some.inj (hg.symm.trans hg')
  obtain rfl := Option.some.inj (hty.symm.trans ht')
  unfold Lib.TabIs
  rw [hvar, ← cells_of_tab2 ht ht1 he hce hce1 hct hd]
end V
end Go.Proofs.YtladkmnfmpojiaaGreatDoor
