/-
  What is looked at beforehand, by reckoning; a whole call.
-/
import Derived.Test.YtladkmnfmpojiaaGreatDoorMe
import Derived.DeepKeys
import Derived.Test.YtladkmnfmpojiaaGreatDoorRep
namespace Go.Proofs.YtladkmnfmpojiaaGreatDoor
namespace I
def bnd (e : Edge) : Bool := Region.binds .any e
theorem bind1_eq (e : Edge) : bind1 e.ground = Region.binds .any e := by
  obtain ⟨on, g⟩ := e
  cases g <;> rfl
/-- The mask of an operation, from those ahead of it. -/
noncomputable def mask (acc : List Nat) (l : List Edge) : Nat := List.rec (motive := fun _ => Nat) 0 (fun e _ s => ite' (bind1 e.ground) (Nat.lor s (Nat.lor (Nat.shiftLeft 1 e.on) (Option.rec (motive := fun _ => Nat) 0 (fun x => x) (nth acc.reverse e.on)))) s) l
theorem mask_ok {acc : List Nat} {p : Nat} : ∀ (l : List Edge), (mask acc l).testBit p = true → ∃ e ∈ l, Region.binds .any e = true ∧ (e.on = p ∨ ∃ m, acc.reverse[e.on]? = some m ∧ m.testBit p = true)
  | [], h => by simp [mask] at h
  | e :: l, h => by
    have h' : (ite' (bind1 e.ground) (Nat.lor (mask acc l) (Nat.lor (Nat.shiftLeft 1 e.on) (Option.rec (motive := fun _ => Nat) 0 (fun x => x) (nth acc.reverse e.on)))) (mask acc l)).testBit p = true := h
    cases hb : bind1 e.ground with
    | false =>
      rw [hb] at h'
      obtain ⟨x, h1, h2⟩ := mask_ok l h'
      exact ⟨x, List.mem_cons_of_mem _ h1, h2⟩
    | true =>
      rw [hb] at h'
      have h2 : ((mask acc l) ||| ((1 <<< e.on) ||| (Option.rec (motive := fun _ => Nat) 0 (fun x => x) (nth acc.reverse e.on)))).testBit p = true := h'
      rw [Nat.testBit_or, Nat.testBit_or, Bool.or_eq_true, Bool.or_eq_true] at h2
      rcases h2 with h2 | h2 | h2
      · obtain ⟨x, h1, h2⟩ := mask_ok l h2
        exact ⟨x, List.mem_cons_of_mem _ h1, h2⟩
      · refine ⟨e, List.mem_cons_self .., by rw [← bind1_eq]; exact hb, .inl ?_⟩
        rw [Nat.testBit_shiftLeft] at h2
        simp only [Bool.and_eq_true, decide_eq_true_eq] at h2
        have h3 := Nat.testBit_one_eq_true_iff_self_eq_zero.1 h2.2
        omega
      · refine ⟨e, List.mem_cons_self .., by rw [← bind1_eq]; exact hb, .inr ?_⟩
        rw [nth_eq] at h2
        cases e2 : acc.reverse[e.on]? with
        | none => rw [e2] at h2; simp at h2
        | some m => rw [e2] at h2; exact ⟨m, rfl, h2⟩
theorem befs_go {ops : Array Oper} : ∀ (l : List Oper) (acc : List Nat), l = ops.toList.drop acc.length → (∀ (i m p : Nat), acc.reverse[i]? = some m → m.testBit p = true → Bf ops i p) →
    ∀ (i m p : Nat), ((List.rec (motive := fun _ => List Nat → List Nat) (fun acc => acc.reverse) (fun o _ go acc => go (mask acc o.after.toList :: acc)) l : List Nat → List Nat) acc)[i]? = some m → m.testBit p = true → Bf ops i p
  | [], acc, _, h => h
  | o :: l, acc, hl, h => by
    have ho : ops[acc.length]? = some o := by
      have : (ops.toList.drop acc.length)[0]? = some o := by rw [← hl]; rfl
      simpa using this
    refine befs_go l (mask acc o.after.toList :: acc) (by rw [List.length_cons, ← List.drop_drop, ← hl]; rfl) fun i m p hi hm => ?_
    rw [List.reverse_cons, List.getElem?_append] at hi
    split at hi
    · exact h i m p hi hm
    · rename_i hlt
      have hi2 : i = acc.length ∧ m = mask acc o.after.toList := by
        simp only [List.length_reverse, Nat.not_lt] at hlt hi
        cases e : i - acc.length with
        | zero => rw [e] at hi; injection hi with hi; exact ⟨by omega, hi.symm⟩
        | succ q => rw [e] at hi; simp at hi
      obtain ⟨rfl, rfl⟩ := hi2
      obtain ⟨e, h1, h2, h3⟩ := mask_ok _ hm
      have hb : Bd o e.on := ⟨e, by simpa using h1, h2, rfl⟩
      rcases h3 with rfl | ⟨m, h4, h5⟩
      · exact .one ho hb
      · exact .more ho hb (h _ m p h4 h5)
theorem bfr_ok {ops : Array Oper} {i j : Nat} (h : (bfr ops.toList i).testBit j = true) : Bf ops i j := by
  have h' : (Option.rec (motive := fun _ => Nat) 0 (fun x => x) (nth (befs ops.toList) i) : Nat).testBit j = true := h
  rw [nth_eq] at h'
  cases e : (befs ops.toList)[i]? with
  | none => rw [e] at h'; simp at h'
  | some m =>
    rw [e] at h'
    exact befs_go ops.toList [] rfl (fun i m p h => by simp at h) i m j e h'
noncomputable section
/-- One operation and the mask of what comes ahead. -/
def tst (m i : Nat) : Bool := Nat.testBit m i
def okE (S : Nat) (o : Oper) : Bool := o.after.toList.all fun e => !bnd e || tst S e.on
def tmpsOf (l : List Operand) : List Nat := l.filterMap fun | .tmp t => some t | _ => none
def lks (ops : Array Oper) (o : Oper) : List Nat := o.looksAt ops
def memN (t : Nat) (l : List Nat) : Bool := l.any fun x => Nat.beq x t
def dstIs (o : Oper) (t : Nat) : Bool := match o.dst with
  | some d => Nat.beq d t
  | none => false
/-- Two operations, the first ahead of the second. -/
def ok2 (x y : Oper) (ly : List Nat) (lx : List Nat) (bx by' : Nat) (i j : Nat) : Bool :=
  (match x.dst with
    | some d => !dstIs y d && (!memN d ly || tst by' i || tst bx j)
    | none => true) &&
  (match y.dst with
    | some d => !memN d lx || tst bx j || tst by' i
    | none => true)
structure El where
  i : Nat
  o : Oper
  l : List Nat
  b : Nat
def els (ops : Array Oper) (bs : List Nat) : List Oper → Nat → List El
  | [], _ => []
  | o :: l, i => ⟨i, o, lks ops o, (nth bs i).getD 0⟩ :: els ops bs l (i + 1)
def okEl (x y : El) : Bool := ok2 x.o y.o y.l x.l x.b y.b x.i y.i
def okPairs : List El → Bool
  | [] => true
  | x :: l => l.all (okEl x) && okPairs l
def okLt (x : El) : Bool := x.o.after.toList.all fun e => !bnd e || Nat.ble (Nat.succ e.on) x.i
def okP (tb : Tb) (ops : Array Oper) (es : List El) : Nat → List Stp → Bool
  | S, [] => es.all fun x => tst S x.i
  | S, .fl i :: l => (match ops[i]? with
    | some o => !tst S i && okE S o && flk tb.tt o
    | none => false) && okP tb ops es (Nat.lor S (Nat.shiftLeft 1 i)) l
  | S, .ef i :: l => (match ops[i]? with
    | some o => !tst S i && okE S o && es.all fun x => tst S x.i || Nat.beq x.i i || tst x.b i
    | none => false) && okP tb ops es (Nat.lor S (Nat.shiftLeft 1 i)) l
def okD (tb : Tb) (_ : Nat) (ops : Array Oper) : Bool := (fun bs => (fun es => es.all okLt && okPairs es && okP tb ops es 0 (plan ops.toList)) (els ops bs ops.toList 0)) (befs ops.toList)
def okC (tb : Tb) (N : Nat) : Code → Bool
  | .region _ ops d => ops.toList.all (okO N) && (!d || okD tb N ops)
  | .seq a b => okC tb N a && okC tb N b
  | .cond _ a b => okC tb N a && okC tb N b
  | .block _ a => okC tb N a
  | .loop a => okC tb N a
  | .scope a => okC tb N a
  | _ => true
end
section
variable {tb : Tb} {N : Nat} {ops : Array Oper}
theorem els_get {bs : List Nat} : ∀ (l : List Oper) (k j : Nat) (o : Oper), l[j]? = some o → (⟨k + j, o, lks ops o, (nth bs (k + j)).getD 0⟩ : El) ∈ els ops bs l k
  | [], _, _, _, h => by simp at h
  | x :: l, k, 0, o, h => by
    simp at h
    subst h
    exact List.mem_cons_self ..
  | x :: l, k, j + 1, o, h => by
    have := els_get (bs := bs) l (k + 1) j o (by simpa using h)
    rw [show k + (j + 1) = k + 1 + j by omega]
    exact List.mem_cons_of_mem _ this
theorem els_ge {bs : List Nat} : ∀ (l : List Oper) (k : Nat) (x : El), x ∈ els ops bs l k → k ≤ x.i
  | [], _, _, h => by cases h
  | o :: l, k, x, h => by
    rcases List.mem_cons.1 h with rfl | h
    · exact Nat.le_refl _
    · exact Nat.le_trans (Nat.le_succ _) (els_ge l (k + 1) x h)
theorem pairs_ok {bs : List Nat} : ∀ (l : List Oper) (k : Nat), okPairs (els ops bs l k) = true → ∀ x y, x ∈ els ops bs l k → y ∈ els ops bs l k → x.i < y.i → okEl x y = true
  | [], _, _, x, _, h, _, _ => by cases h
  | o :: l, k, h, x, y, hx, hy, hlt => by
    simp only [els, okPairs, Bool.and_eq_true, List.all_eq_true] at h
    rcases List.mem_cons.1 hx with rfl | hx
    · rcases List.mem_cons.1 hy with rfl | hy
      · omega
      · exact h.1 y hy
    · rcases List.mem_cons.1 hy with rfl | hy
      · have := els_ge l (k + 1) x hx
        simp only at hlt
        omega
      · exact pairs_ok l (k + 1) h.2 x y hx hy hlt
theorem memN_of {t : Nat} {l : List Nat} (h : t ∈ l) : memN t l = true := List.any_eq_true.2 ⟨t, h, Nat.beq_refl t⟩
theorem el_of (ops : Array Oper) {j : Nat} {o : Oper} (ho : ops[j]? = some o) : (⟨j, o, lks ops o, (nth (befs ops.toList) j).getD 0⟩ : El) ∈ els ops (befs ops.toList) ops.toList 0 := by
  have h := els_get (ops := ops) (bs := befs ops.toList) ops.toList 0 j o (by rw [Array.getElem?_toList]; exact ho)
  rw [Nat.zero_add] at h
  exact h
theorem tst_bf {i j : Nat} (h : tst ((nth (befs ops.toList) i).getD 0) j = true) : Bf ops i j := by
  refine bfr_ok ?_
  have : bfr ops.toList i = (nth (befs ops.toList) i).getD 0 := by
    show (Option.rec (motive := fun _ => Nat) 0 (fun x => x) (nth (befs ops.toList) i) : Nat) = _
    cases nth (befs ops.toList) i <;> rfl
  rw [this]
  exact h
theorem okPairs_one (h : okPairs (els ops (befs ops.toList) ops.toList 0) = true) {i j : Nat} {oi oj : Oper} (hij : i < j) (hi : ops[i]? = some oi) (hj : ops[j]? = some oj) : ok2 oi oj (lks ops oj) (lks ops oi) ((nth (befs ops.toList) i).getD 0) ((nth (befs ops.toList) j).getD 0) i j = true :=
  pairs_ok _ _ h _ _ (el_of ops hi) (el_of ops hj) hij
theorem okP_ok : ∀ (l : List Stp) (m : Nat) (S : Nat → Prop), (∀ j, S j ↔ tst m j = true) → okP tb ops (els ops (befs ops.toList) ops.toList 0) m l = true → Pl tb ops S l := by
  have hset : ∀ (m i : Nat) (S : Nat → Prop), (∀ j, S j ↔ tst m j = true) → ∀ j, (S j ∨ j = i) ↔ tst (Nat.lor m (Nat.shiftLeft 1 i)) j = true := fun m i S hS j => by
    rw [hS j]
    show _ ↔ (m ||| (1 <<< i)).testBit j = true
    rw [Nat.testBit_or, Bool.or_eq_true, Nat.testBit_shiftLeft]
    refine or_congr Iff.rfl ?_
    simp only [Bool.and_eq_true, decide_eq_true_eq, Nat.testBit_one_eq_true_iff_self_eq_zero]
    omega
  have hE : ∀ (m : Nat) (S : Nat → Prop) (o : Oper), (∀ j, S j ↔ tst m j = true) → okE m o = true → ∀ p, Bd o p → S p := fun m S o hS h p ⟨e, h1, h2, h3⟩ => by
    simp only [okE, List.all_eq_true] at h
    have := h e (by simpa using h1)
    rw [hS, ← h3]
    simpa [bnd, h2] using this
  have hN : ∀ (m i : Nat) (S : Nat → Prop), (∀ j, S j ↔ tst m j = true) → tst m i = false → ¬ S i := fun m i S hS h e => by
    rw [(hS i).1 e] at h; cases h
  intro l
  induction l with
  | nil =>
    intro m S hS h j hj
    have ho : ops[j]? = some ops[j] := Array.getElem?_eq_getElem hj
    exact (hS j).2 (List.all_eq_true.1 h _ (el_of ops ho))
  | cons s l ih =>
    intro m S hS h
    cases s with
    | fl i =>
      simp only [okP, Bool.and_eq_true] at h
      obtain ⟨h1, h2⟩ := h
      cases ho : ops[i]? with
      | none => rw [ho] at h1; cases h1
      | some o =>
        rw [ho] at h1
        simp only [Bool.and_eq_true, Bool.not_eq_true'] at h1
        exact ⟨⟨o, ho, hN m i S hS h1.1.1, hE m S o hS h1.1.2, h1.2⟩, ih _ _ (hset m i S hS) h2⟩
    | ef i =>
      simp only [okP, Bool.and_eq_true] at h
      obtain ⟨h1, h2⟩ := h
      cases ho : ops[i]? with
      | none => rw [ho] at h1; cases h1
      | some o =>
        rw [ho] at h1
        simp only [Bool.and_eq_true, Bool.not_eq_true', List.all_eq_true] at h1
        refine ⟨⟨o, ho, hN m i S hS h1.1.1, hE m S o hS h1.1.2, fun j hj hs hne => ?_, fun j hj => bfr_ok hj⟩, ih _ _ (hset m i S hS) h2⟩
        have hoj : ops[j]? = some ops[j] := Array.getElem?_eq_getElem hj
        have h3 := h1.2 _ (el_of ops hoj)
        simp only [Bool.or_eq_true] at h3
        rcases h3 with (h3 | h3) | h3
        · exact absurd ((hS j).2 h3) hs
        · exact absurd (Nat.eq_of_beq_eq_true h3) hne
        · exact tst_bf h3
theorem okD_ok (hok : ∀ (i : Nat) (o : Oper), ops[i]? = some o → okO N o = true) (h : okD tb N ops = true) : DOk N ops ∧ Pl tb ops (fun _ => False) (plan ops.toList) := by
  have h' : ((els ops (befs ops.toList) ops.toList 0).all okLt && okPairs (els ops (befs ops.toList) ops.toList 0) && okP tb ops (els ops (befs ops.toList) ops.toList 0) 0 (plan ops.toList)) = true := h
  simp only [Bool.and_eq_true, List.all_eq_true] at h'
  obtain ⟨⟨h1, h2⟩, h3⟩ := h'
  have hdst : ∀ {i j : Nat} {oi oj : Oper} {t : Nat}, i < j → ops[i]? = some oi → ops[j]? = some oj → oi.dst = some t → oj.dst = some t → False := fun {i j oi oj t} hij hi hj d1 d2 => by
    have := okPairs_one h2 hij hi hj
    simp [ok2, d1, d2, dstIs] at this
  refine ⟨⟨hok, fun i o p ho ⟨e, q1, q2, q3⟩ => ?_, fun i j oi oj t hi hj d1 d2 => ?_, fun i j oi oj t hne hi hj d1 d2 => ?_⟩, okP_ok _ 0 _ (fun j => by simp [tst]) h3⟩
  · have := h1 _ (el_of ops ho)
    simp only [okLt, List.all_eq_true] at this
    have := this e (by simpa using q1)
    simp only [bnd, q2, Bool.not_true, Bool.false_or] at this
    have := Nat.le_of_ble_eq_true this
    rw [← q3]; exact this
  · rcases Nat.lt_trichotomy i j with hij | hij | hij
    · exact (hdst hij hi hj d1 d2).elim
    · exact hij
    · exact (hdst hij hj hi d2 d1).elim
  · rcases Nat.lt_trichotomy i j with hij | hij | hij
    · have := okPairs_one h2 hij hi hj
      simp only [ok2, d1, Bool.and_eq_true, Bool.or_eq_true, show memN t (lks ops oj) = true from memN_of d2] at this
      rcases this.1.2 with (h | h) | h
      · cases h
      · exact .inl (tst_bf h)
      · exact .inr (tst_bf h)
    · exact absurd hij hne
    · have := okPairs_one h2 hij hj hi
      simp only [ok2, d1, Bool.and_eq_true, Bool.or_eq_true, show memN t (lks ops oj) = true from memN_of d2] at this
      rcases this.2 with (h | h) | h
      · cases h
      · exact .inl (tst_bf h)
      · exact .inr (tst_bf h)
theorem okC_ok : ∀ {c : Code}, okC tb N c = true → OkC tb N c
  | .region _ ops d, h => by
    simp only [okC, Bool.and_eq_true, List.all_eq_true] at h
    have hok : ∀ (i : Nat) (o : Oper), ops[i]? = some o → okO N o = true := fun i o ho => h.1 o (by
      rw [← Array.getElem?_toList] at ho
      exact List.mem_of_getElem? ho)
    refine ⟨hok, fun hd => okD_ok hok ?_⟩
    have := h.2
    rw [hd] at this
    simpa using this
  | .seq a b, h => by simp only [okC, Bool.and_eq_true] at h; exact ⟨okC_ok h.1, okC_ok h.2⟩
  | .cond _ a b, h => by simp only [okC, Bool.and_eq_true] at h; exact ⟨okC_ok h.1, okC_ok h.2⟩
  | .block _ a, h => okC_ok (c := a) h
  | .loop a, h => okC_ok (c := a) h
  | .scope a, h => okC_ok (c := a) h
  | .skip, _ | .rangeFunc .., _ | .exit _, _ | .label _, _ | .goto _, _ | .ret, _ | .refuse _, _ => trivial

/-! ### Tables -/
def AllT {α : Type} (Q : P4 → α → Prop) : T α → Prop
  | .l => True
  | .n v a b c d => (∀ x, v = some x → Q .h x) ∧ AllT (fun p => Q (.a p)) a ∧ AllT (fun p => Q (.b p)) b ∧ AllT (fun p => Q (.c p)) c ∧ AllT (fun p => Q (.d p)) d
theorem AllT.get {α : Type} : ∀ {p : P4} {Q : P4 → α → Prop} {t : T α} {x : α}, AllT Q t → T.get p t = some x → Q p x
  | p, Q, .l, x, _, h => by rw [get_l] at h; cases h
  | .h, Q, .n v a b c d, x, ha, h => ha.1 x h
  | .a p, Q, .n v a b c d, x, ha, h => ha.2.1.get (p := p) h
  | .b p, Q, .n v a b c d, x, ha, h => ha.2.2.1.get (p := p) h
  | .c p, Q, .n v a b c d, x, ha, h => ha.2.2.2.1.get (p := p) h
  | .d p, Q, .n v a b c d, x, ha, h => ha.2.2.2.2.get (p := p) h
end
end I
end Go.Proofs.YtladkmnfmpojiaaGreatDoor
namespace Go.Proofs.YtladkmnfmpojiaaGreatDoor
namespace I
/-- A cell's zero. -/
noncomputable def zB : A → Value → Bool
  | .i k n, .int k2 x => Nat.beq n 0 && Nat.beq (ikd k) (ikd k2) && (match x with | .ofNat m => Nat.beq m 0 | _ => false)
  | .b a, .bool b => !a && !b
  | .s l, .string s => l.isEmpty && Nat.beq s.data.toList.length 0
  | .p0, .pointer none => true
  | .q0, .slice none n c => Nat.beq n 0 && Nat.beq c 0
  | .m0, .map none => true
  | .f0, .nilFunc => true
  | .n0, .nilIface => true
  | _, _ => false
noncomputable def zL : List A → List Value → Bool
  | [], [] => true
  | a :: l, v :: m => zB a v && zL l m
  | _, _ => false
/-- The cells of a row that is well built. -/
def R.len? : R → Option Nat
  | .e => some 0
  | .c _ => some 1
  | .n ls sz l r => match l.len?, r.len? with
    | some a, some b => if Nat.beq a ls && Nat.beq (a + b) sz then some (a + b) else none
    | _, _ => none
theorem rlen_ok : ∀ {r : R} {n : Nat}, r.len? = some n → r.ok ∧ r.l.length = n
  | .e, n, h => by injection h with h; subst h; exact ⟨trivial, rfl⟩
  | .c _, n, h => by injection h with h; subst h; exact ⟨trivial, rfl⟩
  | .n ls sz l r, n, h => by
    unfold R.len? at h
    split at h
    · rename_i a b e1 e2
      split at h
      · rename_i hc
        simp only [Bool.and_eq_true] at hc
        injection h with h
        obtain ⟨h1, h2⟩ := rlen_ok e1
        obtain ⟨h3, h4⟩ := rlen_ok e2
        have q1 := Nat.eq_of_beq_eq_true hc.1
        have q2 := Nat.eq_of_beq_eq_true hc.2
        subst q1; subst q2; subst h
        exact ⟨⟨h1, h3, h2.symm, by rw [h2, h4]⟩, by show (l.l ++ r.l).length = _; simp [h2, h4]⟩
      · cases h
    · cases h
theorem zB_ok : ∀ {a : A} {v : Value}, zB a v = true → AR noP a v := by
  intro a v h
  unfold zB at h
  split at h
  · rename_i k n k2 x
    simp only [Bool.and_eq_true] at h
    obtain ⟨⟨h1, h2⟩, h3⟩ := h
    have h1 := Nat.eq_of_beq_eq_true h1
    have h2 := ikd_inj h2
    subst h1; subst h2
    split at h3
    · have h3 := Nat.eq_of_beq_eq_true h3
      subst h3
      exact ⟨by cases k <;> decide, by cases k <;> rfl⟩
    · cases h3
  · rename_i a b
    cases a <;> cases b <;> first | rfl | cases h
  · rename_i l s
    simp only [Bool.and_eq_true] at h
    have h2 := Nat.eq_of_beq_eq_true h.2
    cases l with
    | nil => exact ⟨s, rfl, by rw [List.length_eq_zero_iff.1 h2]; rfl⟩
    | cons _ _ => cases h.1
  · rfl
  · simp only [Bool.and_eq_true] at h
    have h1 := Nat.eq_of_beq_eq_true h.1
    have h2 := Nat.eq_of_beq_eq_true h.2
    subst h1; subst h2
    rfl
  · rfl
  · rfl
  · rfl
  · cases h
theorem zL_ok : ∀ {l : List A} {m : List Value}, zL l m = true → All2 (AR noP) l m
  | [], [], _ => .nil
  | a :: l, v :: m, h => by
    simp only [zL, Bool.and_eq_true] at h
    exact .cons (zB_ok h.1) (zL_ok h.2)
  | [], _ :: _, h => by cases h
  | _ :: _, [], h => by cases h
def offs : List (Nat × Nat) → List Field → Bool
  | [], [] => true
  | p :: l, f :: fs => Nat.beq p.1 f.offset && Nat.beq p.2 f.type && offs l fs
  | _, _ => false
theorem offs_ok : ∀ {l : List (Nat × Nat)} {fs : List Field}, offs l fs = true → l = fs.map fun f => (f.offset, f.type)
  | [], [], _ => rfl
  | (a, b) :: l, f :: fs, h => by
    simp only [offs, Bool.and_eq_true] at h
    rw [Nat.eq_of_beq_eq_true h.1.1, Nat.eq_of_beq_eq_true h.1.2, offs_ok h.2]
    rfl
  | [], _ :: _, h => by cases h
  | _ :: _, [], h => by cases h
def aggB : TypeDesc → Bool
  | .struct _ | .array _ _ => true
  | _ => false
noncomputable def kdB (P : Program) : Kd → TypeDesc → Bool
  | .st l, .struct fs => offs l fs.toList && (V.PlOf P fs.toList).isSome
  | .ar n e, .array m e2 => Nat.beq n m && Nat.beq e e2
  | .sl e, .slice e2 => Nat.beq e e2
  | .nt k, .int k2 => Nat.beq (ikd k) (ikd k2)
  | .sg, .string => true
  | .pt, .pointer _ => true
  | .ot, _ => true
  | _, _ => false
noncomputable def tiB (P : Program) (t : TypeId) (ag : Bool) (sz : Nat) (z : R) (k : Kd) : Bool :=
  (match P.info? t with
    | some i => Nat.beq i.size sz && Nat.ble i.bytes 65536 && (match i.zero with
      | some zv => zL z.l zv.cells.toList
      | none => false)
    | none => false) && (match P.underlying t with
    | some d => eqB (aggB d) ag && kdB P k d
    | none => false) && (match z.len? with
    | some n => Nat.beq n sz
    | none => false) && Nat.ble sz 10000
theorem kdB_ok {P : Program} {t : TypeId} {k : Kd} {d : TypeDesc} (hu : P.underlying t = some d) (h : kdB P k d = true) : KdS P t k := by
  unfold kdB at h
  split at h
  · rename_i l fs
    simp only [Bool.and_eq_true] at h
    refine ⟨fs, hu, offs_ok h.1, ?_⟩
    cases e : V.PlOf P fs.toList with
    | none => rw [e] at h; cases h.2
    | some pl => exact ⟨pl, rfl⟩
  · simp only [Bool.and_eq_true] at h
    have h1 := Nat.eq_of_beq_eq_true h.1
    have h2 := Nat.eq_of_beq_eq_true h.2
    subst h1; subst h2
    exact hu
  · have h := Nat.eq_of_beq_eq_true h
    subst h
    exact hu
  · have h := ikd_inj h
    subst h
    exact hu
  · exact hu
  · exact ⟨_, hu⟩
  · trivial
  · cases h
theorem tiB_ok {P : Program} {t : TypeId} {ag : Bool} {sz : Nat} {z : R} {k : Kd} {c : List (Option IntKind)} (h : tiB P t ag sz z k = true)
    (he : c ≠ [] → ∀ (w : World) (φ : Ph) (xs ys : List A) (vs us : List Value) (b : Bool), All2 (AR φ) xs vs → All2 (AR φ) ys us → xs.length = c.length → ys.length = c.length → eqK c xs ys = some b → (Op.equalIn Op.maxDepth t (.agg vs.toArray) (.agg us.toArray)).run P w = .ok b w ∧ P.eqGuardType P.depth t = false) :
    TiS P t ag sz z k c := by
  simp only [tiB, Bool.and_eq_true] at h
  obtain ⟨⟨⟨h1, h2⟩, h3⟩, h4⟩ := h
  cases e1 : P.info? t with
  | none => rw [e1] at h1; cases h1
  | some i =>
    rw [e1] at h1
    simp only [Bool.and_eq_true] at h1
    obtain ⟨⟨h5, h6⟩, h7⟩ := h1
    cases e2 : i.zero with
    | none => rw [e2] at h7; cases h7
    | some zv =>
      rw [e2] at h7
      cases e3 : P.underlying t with
      | none => rw [e3] at h2; cases h2
      | some d =>
        rw [e3] at h2
        simp only [Bool.and_eq_true] at h2
        cases e4 : z.len? with
        | none => rw [e4] at h3; cases h3
        | some n =>
          rw [e4] at h3
          have h3 := Nat.eq_of_beq_eq_true h3
          subst h3
          obtain ⟨q1, q2⟩ := rlen_ok e4
          refine ⟨⟨i, zv, e1, Nat.eq_of_beq_eq_true h5, Nat.le_of_ble_eq_true h6, e2, ⟨q1, zL_ok h7⟩, q2⟩, fun w => ?_, kdB_ok e3 h2.2, ⟨d, e3⟩, Nat.le_of_ble_eq_true h4, he⟩
          have := eqB_eq h2.1
          subst this
          simp only [isAgg, Sem.run_bind, run_underlying e3, Result.andThen_ok]
          cases d <;> rfl
end I
end Go.Proofs.YtladkmnfmpojiaaGreatDoor
namespace Go.Proofs.YtladkmnfmpojiaaGreatDoor
namespace I
def KM : List (Option IntKind) → List A → Prop
  | [], [] => True
  | none :: c, .b _ :: l => KM c l
  | some k :: c, .i j _ :: l => j = k ∧ KM c l
  | _, _ => False
theorem eqK_inv : ∀ {c : List (Option IntKind)} {xs ys : List A} {b : Bool}, eqK c xs ys = some b → xs.length = c.length → ys.length = c.length → KM c xs ∧ KM c ys ∧ (b = true ↔ xs = ys)
  | [], xs, ys, b, h, h1, h2 => by
    cases List.length_eq_zero_iff.1 h1
    cases List.length_eq_zero_iff.1 h2
    cases h
    exact ⟨trivial, trivial, by simp⟩
  | k :: c, xs, ys, b, h, h1, h2 => by
    cases xs with
    | nil => cases h1
    | cons x xs =>
      cases ys with
      | nil => cases h2
      | cons y ys =>
        have fin : ∀ e, (e = true ↔ x = y) → ite' e (eqK c xs ys) (ob (eqK c xs ys) fun _ => some false) = some b → ∃ b', eqK c xs ys = some b' ∧ (b = true ↔ x = y ∧ b' = true) := fun e he h => by
          cases e with
          | true => exact ⟨b, h, by simp [he.1 rfl]⟩
          | false =>
            obtain ⟨b', h3, h4⟩ := ob_inv h
            cases h4
            exact ⟨b', h3, by simp; intro e2; exact absurd (he.2 e2) (by simp)⟩
        cases k with
        | none =>
          obtain ⟨a, rfl, h3⟩ := nB_inv (show x.nB (fun a => y.nB (fun b => ite' (eqB a b) (eqK c xs ys) (ob (eqK c xs ys) fun _ => some false)) none) none = some b from h)
          obtain ⟨a2, rfl, h4⟩ := nB_inv h3
          obtain ⟨b', h5, h6⟩ := fin (eqB a a2) ⟨fun e => by rw [eqB_eq e], fun e => by injection e with e; subst e; cases a <;> rfl⟩ h4
          obtain ⟨q1, q2, q3⟩ := eqK_inv h5 (by simpa using h1) (by simpa using h2)
          exact ⟨q1, q2, by rw [h6, q3]; simp⟩
        | some k =>
          obtain ⟨k1, n, rfl, h3⟩ := nI_inv (show x.nI (fun k1 n => y.nI (fun k2 m => ite' (Nat.beq (ikd k1) (ikd k)) (ite' (Nat.beq (ikd k2) (ikd k)) (ite' (Nat.beq n m) (eqK c xs ys) (ob (eqK c xs ys) fun _ => some false)) none) none) none) none = some b from h)
          obtain ⟨k2, m, rfl, h4⟩ := nI_inv h3
          obtain ⟨e1, h5⟩ := ite_inv h4
          obtain ⟨e2, h6⟩ := ite_inv h5
          have e1 := ikd_inj e1
          have e2 := ikd_inj e2
          subst e1; subst e2
          obtain ⟨b', h5, h6⟩ := fin (Nat.beq n m) ⟨fun e => by rw [Nat.eq_of_beq_eq_true e], fun e => by injection e with _ e; subst e; exact Nat.beq_refl _⟩ h6
          obtain ⟨q1, q2, q3⟩ := eqK_inv h5 (by simpa using h1) (by simpa using h2)
          exact ⟨⟨rfl, q1⟩, ⟨rfl, q2⟩, by rw [h6, q3]; simp⟩

theorem KM.len : ∀ {c : List (Option IntKind)} {xs : List A}, KM c xs → xs.length = c.length
  | [], [], _ => rfl
  | none :: c, .b _ :: l, h => by simp only [List.length_cons]; rw [KM.len (c := c) (xs := l) h]
  | some k :: c, .i j _ :: l, h => by simp only [List.length_cons]; rw [KM.len (c := c) (xs := l) h.2]
  | [], _ :: _, h => h.elim
  | _ :: _, [], h => by rename_i k _; cases k <;> exact h.elim
  | none :: _, .i _ _ :: _, h | none :: _, .s _ :: _, h | none :: _, .p0 :: _, h | none :: _, .p _ _ :: _, h | none :: _, .q0 :: _, h | none :: _, .q _ _ _ _ _ :: _, h | none :: _, .f0 :: _, h | none :: _, .f _ _ _ :: _, h | none :: _, .m0 :: _, h | none :: _, .n0 :: _, h => h.elim
  | some _ :: _, .b _ :: _, h | some _ :: _, .s _ :: _, h | some _ :: _, .p0 :: _, h | some _ :: _, .p _ _ :: _, h | some _ :: _, .q0 :: _, h | some _ :: _, .q _ _ _ _ _ :: _, h | some _ :: _, .f0 :: _, h | some _ :: _, .f _ _ _ :: _, h | some _ :: _, .m0 :: _, h | some _ :: _, .n0 :: _, h => h.elim
theorem KM.app : ∀ {c d : List (Option IntKind)} {xs : List A}, KM (c ++ d) xs → KM c (xs.take c.length) ∧ KM d (xs.drop c.length)
  | [], d, xs, h => ⟨trivial, h⟩
  | k :: c, d, [], h => by cases k <;> exact h.elim
  | k :: c, d, x :: xs, h => by
    cases k with
    | none =>
      cases x <;> first | exact h.elim | skip
      exact KM.app (c := c) (d := d) (xs := xs) h
    | some k =>
      cases x <;> first | exact h.elim | skip
      obtain ⟨h1, h2⟩ := h
      obtain ⟨h3, h4⟩ := KM.app (c := c) (d := d) (xs := xs) h2
      exact ⟨⟨h1, h3⟩, h4⟩
/-- A cell as a literal. -/
noncomputable def lit : A → Lit
  | .b x => .bool x
  | .i k n => .int k (toI k n)
  | _ => .nil
theorem toI_wf {k : IntKind} {n : Nat} (h : n < md k) : (Lit.int k (toI k n)).wf = true := by
  have h2 := hf2 k
  simp only [Lit.wf, Bool.and_eq_true, decide_eq_true_iff]
  unfold toI IntKind.min IntKind.max
  cases hs : k.signed with
  | false =>
    simp only [Bool.false_eq_true, false_and, if_false, bits_eq]
    omega
  | true =>
    simp only [true_and, if_true, half_eq]
    split <;> omega
theorem lit_one {P : Program} {φ : Ph} {d : Nat} {t : TypeId} {k : Option IntKind} {xs : List A} {vs : List Value} (hx : All2 (AR φ) xs vs) (hk : KM [k] xs) (hu : P.underlying t = some (match k with | none => .bool | some k => .int k)) : P.keyLits (d + 1) t vs = some (xs.map lit) := by
  cases xs with
  | nil => cases k <;> exact hk.elim
  | cons x xs =>
    cases hx with
    | cons h1 h2 =>
      cases k with
      | none =>
        cases x <;> first | exact hk.elim | skip
        cases xs with
        | nil =>
          cases h2
          have h1 : _ = Value.bool _ := h1
          subst h1
          simp [Program.keyLits, hu, lit]
        | cons _ _ => exact hk.elim
      | some k =>
        cases x <;> first | exact hk.elim | skip
        obtain ⟨rfl, hk⟩ := hk
        cases xs with
        | nil =>
          cases h2
          obtain ⟨h3, h4⟩ := h1
          subst h4
          simp [Program.keyLits, hu, lit, toI_wf h3]
        | cons _ _ => exact hk.elim
/-- The kinds of a row of fields that lie without gaps. -/
def flF (P : Program) (K : TypeId → Option (List (Option IntKind))) (n : Nat) : Nat → List Field → Option (List (Option IntKind))
  | off, [] => if Nat.beq off n then some [] else none
  | off, f :: fs => match K f.type with
    | some c => if Nat.beq f.offset off && Nat.beq c.length (P.cellsOf f.type) && (f.name != "_") then (match flF P K n (off + c.length) fs with | some d => some (c ++ d) | none => none) else none
    | none => none
def repL {α : Type} (c : List α) : Nat → List α
  | 0 => []
  | n + 1 => c ++ repL c n
def flK (P : Program) : Nat → TypeId → Option (List (Option IntKind))
  | 0, _ => none
  | d + 1, t => match P.underlying t with
    | some .bool => some [none]
    | some (.int k) => some [some k]
    | some (.array n e) => match flK P d e with
      | some c => if Nat.beq c.length (P.cellsOf e) && Nat.beq (n * P.cellsOf e) (P.cellsOf t) then some (repL c n) else none
      | none => none
    | some (.struct fs) => flF P (flK P d) (P.cellsOf t) 0 fs.toList
    | _ => none
theorem flat_cons {α : Type} {x : α} {l : List α} : (x :: l) = [x] ++ l := rfl
theorem flF_ok {P : Program} {φ : Ph} {d n : Nat} {K : TypeId → Option (List (Option IntKind))} (ih : ∀ t c xs vs, K t = some c → All2 (AR φ) xs vs → KM c xs → P.keyLits d t vs = some (xs.map lit)) :
    ∀ (fs : List Field) (off : Nat) (c : List (Option IntKind)), flF P K n off fs = some c → ∀ (xs : List A) (vs : List Value), All2 (AR φ) xs vs → off ≤ xs.length → KM c (xs.drop off) →
      (∀ f ∈ fs, f.name ≠ "_") ∧ xs.length = n ∧ ∃ ls, (fs.mapM fun f => P.keyLits d f.type ((vs.drop f.offset).take (P.cellsOf f.type))) = some ls ∧ ls.flatten = (xs.drop off).map lit
  | [], off, c, h, xs, vs, hx, ho, hk => by
    unfold flF at h
    split at h
    · rename_i hn
      have hn := Nat.eq_of_beq_eq_true hn
      cases h
      have h1 := hk.len
      simp only [List.length_drop, List.length_nil] at h1
      refine ⟨fun f hf => (by cases hf), by omega, [], rfl, ?_⟩
      rw [List.drop_eq_nil_of_le (by omega)]
      rfl
    · cases h
  | f :: fs, off, c, h, xs, vs, hx, ho, hk => by
    unfold flF at h
    split at h
    · rename_i c1 e1
      split at h
      · rename_i hc
        simp only [Bool.and_eq_true, bne_iff_ne] at hc
        obtain ⟨⟨h1, h2⟩, h3⟩ := hc
        have h1 := Nat.eq_of_beq_eq_true h1
        have h2 := Nat.eq_of_beq_eq_true h2
        split at h
        · rename_i d1 e2
          cases h
          obtain ⟨k1, k2⟩ := hk.app
          have hlen := hk.len
          simp only [List.length_drop, List.length_append] at hlen
          rw [List.drop_drop] at k2
          obtain ⟨q1, q2, ls, q3, q4⟩ := flF_ok ih fs (off + c1.length) d1 e2 xs vs hx (by omega) k2
          have q5 := ih f.type c1 _ _ e1 ((hx.drop off).take c1.length) k1
          refine ⟨fun g hg => ?_, q2, ((xs.drop off).take c1.length).map lit :: ls, ?_, ?_⟩
          · rcases List.mem_cons.1 hg with rfl | hg
            · exact h3
            · exact q1 g hg
          · rw [List.mapM_cons, h1, ← h2, q5, q3]
            rfl
          · rw [List.flatten_cons, q4, ← List.map_append, ← List.drop_drop, List.take_append_drop]
        · cases h
      · cases h
    · cases h
theorem flR_ok {P : Program} {φ : Ph} {d : Nat} {e : TypeId} {c : List (Option IntKind)} (ih : ∀ xs vs, All2 (AR φ) xs vs → KM c xs → P.keyLits d e vs = some (xs.map lit)) (hc : c.length = P.cellsOf e) :
    ∀ (n s : Nat) (xs : List A) (vs : List Value), All2 (AR φ) xs vs → s * c.length ≤ xs.length → KM (repL c n) (xs.drop (s * c.length)) →
      ∃ ls, ((List.range' s n).mapM fun i => P.keyLits d e ((vs.drop (i * P.cellsOf e)).take (P.cellsOf e))) = some ls ∧ ls.flatten = (xs.drop (s * c.length)).map lit
  | 0, s, xs, vs, hx, ho, hk => by
    have h1 := KM.len hk
    simp only [repL, List.length_drop, List.length_nil] at h1
    refine ⟨[], rfl, ?_⟩
    rw [List.drop_eq_nil_of_le (by omega)]
    rfl
  | n + 1, s, xs, vs, hx, ho, hk => by
    have hk : KM (c ++ repL c n) (xs.drop (s * c.length)) := hk
    obtain ⟨k1, k2⟩ := hk.app
    have hlen := hk.len
    simp only [List.length_drop, List.length_append] at hlen
    rw [List.drop_drop, ← Nat.succ_mul] at k2
    obtain ⟨ls, q3, q4⟩ := flR_ok ih hc n (s + 1) xs vs hx (by rw [Nat.succ_mul]; omega) k2
    have q5 := ih _ _ ((hx.drop (s * c.length)).take c.length) k1
    refine ⟨((xs.drop (s * c.length)).take c.length).map lit :: ls, ?_, ?_⟩
    · rw [List.range'_succ, List.mapM_cons, ← hc, q5]
      rw [← hc] at q3
      rw [q3]
      rfl
    · rw [List.flatten_cons, q4, ← List.map_append, Nat.succ_mul, ← List.drop_drop, List.take_append_drop]
theorem repL_len {α : Type} (c : List α) : ∀ n, (repL c n).length = n * c.length
  | 0 => by simp [repL]
  | n + 1 => by simp only [repL, List.length_append, repL_len c n, Nat.succ_mul]; omega
theorem flK_ok {P : Program} {φ : Ph} : ∀ (d : Nat) (t : TypeId) (c : List (Option IntKind)) (xs : List A) (vs : List Value), flK P d t = some c → All2 (AR φ) xs vs → KM c xs → P.keyLits d t vs = some (xs.map lit)
  | 0, _, _, _, _, h, _, _ => by cases h
  | d + 1, t, c, xs, vs, h, hx, hk => by
    unfold flK at h
    split at h
    · rename_i hu
      cases h
      exact lit_one hx hk hu
    · rename_i k hu
      cases h
      exact lit_one hx hk hu
    · rename_i n e hu
      split at h
      · rename_i c1 e1
        split at h
        · rename_i hc
          simp only [Bool.and_eq_true] at hc
          have h1 := Nat.eq_of_beq_eq_true hc.1
          have h2 := Nat.eq_of_beq_eq_true hc.2
          cases h
          obtain ⟨ls, q1, q2⟩ := flR_ok (fun xs vs => flK_ok d e c1 xs vs e1) h1 n 0 xs vs hx (by omega) (by rw [Nat.zero_mul]; exact hk)
          have hl := hk.len
          rw [repL_len] at hl
          have hv : vs.length = P.cellsOf t := by rw [← hx.len, hl, h1, h2]
          rw [Nat.zero_mul] at q2
          have q1' : ((List.range n).mapM fun i => P.keyLits d e ((vs.drop (i * P.cellsOf e)).take (P.cellsOf e))) = some ls := by rw [List.range_eq_range']; exact q1
          simp only [Program.keyLits, hu]
          rw [if_pos hv, q1']
          simp [q2]
        · cases h
      · cases h
    · rename_i fs hu
      obtain ⟨q0, q1, ls, q2, q3⟩ := flF_ok (fun t c xs vs => flK_ok d t c xs vs) fs.toList 0 c h xs vs hx (Nat.zero_le _) hk
      have hv : vs.length = P.cellsOf t := by rw [← hx.len, q1]
      simp only [Program.keyLits, hu]
      rw [if_pos ⟨hv, by rw [← Array.all_toList, List.all_eq_true]; exact fun f hf => by simpa using q0 f hf⟩, q2]
      simp [q3]
    · cases h
theorem lit_inj {φ : Ph} : ∀ {c : List (Option IntKind)} {xs ys : List A} {vs us : List Value}, KM c xs → KM c ys → All2 (AR φ) xs vs → All2 (AR φ) ys us → xs.map lit = ys.map lit → xs = ys
  | [], [], [], _, _, _, _, _, _, _ => rfl
  | [], _ :: _, _, _, _, h, _, _, _, _ => h.elim
  | [], [], _ :: _, _, _, _, h, _, _, _ => h.elim
  | k :: c, [], _, _, _, h, _, _, _, _ => by cases k <;> exact h.elim
  | k :: c, _ :: _, [], _, _, _, h, _, _, _ => by cases k <;> exact h.elim
  | k :: c, x :: xs, y :: ys, _, _, h1, h2, .cons g1 g2, .cons g3 g4, h => by
    simp only [List.map_cons, List.cons.injEq] at h
    obtain ⟨h5, h6⟩ := h
    cases k with
    | none =>
      cases x <;> first | exact h1.elim | skip
      cases y <;> first | exact h2.elim | skip
      rw [lit_inj (c := c) h1 h2 g2 g4 h6]
      injection h5 with h5
      rw [h5]
    | some k =>
      cases x <;> first | exact h1.elim | skip
      cases y <;> first | exact h2.elim | skip
      obtain ⟨rfl, h1⟩ := h1
      obtain ⟨rfl, h2⟩ := h2
      rw [lit_inj (c := c) h1 h2 g2 g4 h6]
      injection h5 with _ h5
      rw [(toI_inj g1.1 g3.1).1 h5]
/-- What the table of types asks of a type that is compared cell by cell. -/
theorem eq_ok {P : Program} {t : TypeId} {c : List (Option IntKind)} {D : Nat} (h1 : flK P D t = some c) (h2 : P.keyTypeAt 10 t = true) (h3 : P.eqGuardType P.depth t = false) (h4 : ∃ d, P.underlying t = some d ∧ aggB d = true) (h5 : P.cellsOf t = c.length) :
    c ≠ [] → ∀ (w : World) (φ : Ph) (xs ys : List A) (vs us : List Value) (b : Bool), All2 (AR φ) xs vs → All2 (AR φ) ys us → xs.length = c.length → ys.length = c.length → eqK c xs ys = some b → (Op.equalIn Op.maxDepth t (.agg vs.toArray) (.agg us.toArray)).run P w = .ok b w ∧ P.eqGuardType P.depth t = false := fun _ w φ xs ys vs us b hx hy l1 l2 he => by
  refine ⟨?_, h3⟩
  obtain ⟨k1, k2, k3⟩ := eqK_inv he l1 l2
  have f : ∀ {xs : List A} {vs : List Value}, All2 (AR φ) xs vs → xs.length = c.length → (Value.agg vs.toArray).formed P t = true := fun {xs vs} hx l => by
    obtain ⟨d, e1, e2⟩ := h4
    have : vs.toArray.size = P.cellsOf t := by rw [List.size_toArray, ← hx.len, l, h5]
    cases d <;> first | cases e2 | skip
    all_goals simp only [Value.formed, e1, this, beq_self_eq_true]
  obtain ⟨r, r1, r2⟩ := run_equalIn_deep 9990 10 t h2 w D D (.agg vs.toArray) (.agg us.toArray) (xs.map lit) (ys.map lit) (f hx l1) (f hy l2) (flK_ok D t c xs vs h1 hx k1) (flK_ok D t c ys us h1 hy k2)
  have : r = b := by
    rw [Bool.eq_iff_iff, r2, k3]
    exact ⟨fun h => lit_inj k1 k2 hx hy h, fun h => by rw [h]⟩
  subst this
  exact r1
end I
end Go.Proofs.YtladkmnfmpojiaaGreatDoor
namespace Go.Proofs.YtladkmnfmpojiaaGreatDoor
namespace I
section
variable {P : Program} {tb : Tb} {φ : Ph} {w0 w : World} {W : I.W}
/-- What a variable of the program holds. -/
def Gd (w : World) (g : Nat) (z : R) : Prop := z.ok ∧ ∃ vs : List Value, vs ≠ [] ∧ All2 (AR noP) z.l vs ∧ ∀ j v, vs[j]? = some v → w.cell? ⟨g, j, none⟩ = some v
theorem Gd.row {g : Nat} {z : R} (h : Gd w g z) : ∃ c E fz, w.heap[g]? = some (.cells c E fz) ∧ z.l.length ≤ c.size := by
  obtain ⟨_, vs, h1, h2, h3⟩ := h
  cases e : w.heap[g]? with
  | none =>
    obtain ⟨v, hv⟩ : ∃ v, vs[0]? = some v := by cases vs with | nil => exact absurd rfl h1 | cons v _ => exact ⟨v, rfl⟩
    have := h3 0 v hv
    simp [World.cell?, e] at this
  | some b =>
    obtain ⟨v, hv⟩ : ∃ v, vs[0]? = some v := by cases vs with | nil => exact absurd rfl h1 | cons v _ => exact ⟨v, rfl⟩
    have h0 := h3 0 v hv
    cases b with
    | cells c E fz =>
      refine ⟨c, E, fz, rfl, ?_⟩
      rw [h2.len]
      refine Nat.le_of_not_lt fun hlt => ?_
      have hg := h3 c.size _ (List.getElem?_eq_getElem hlt)
      rw [cell_fz e] at hg
      simp at hg
    | _ => simp [World.cell?, e] at h0
theorem gtr_inv {z0 z1 z2 : R} {x : Blk} : ∀ {b : P4}, T.get b (gtr z0 z1 z2) = some x → (b = pth 0 ∧ x = .mk z0 false true) ∨ (b = pth 1 ∧ x = .mk z1 false true) ∨ (b = pth 2 ∧ x = .mk z2 false true)
  | .h, h => by injection h with h; exact .inl ⟨rfl, h.symm⟩
  | .a .h, h => by injection h with h; exact .inr (.inl ⟨rfl, h.symm⟩)
  | .b .h, h => by injection h with h; exact .inr (.inr ⟨rfl, h.symm⟩)
  | .c p, h | .d p, h => by have h : T.get p (T.l : T Blk) = some x := h; rw [get_l] at h; cases h
  | .a (.a p), h | .b (.a p), h => by have h : T.get p (T.l : T Blk) = some x := h; rw [get_l] at h; cases h
  | .a (.b p), h | .b (.b p), h => by have h : T.get p (T.l : T Blk) = some x := h; rw [get_l] at h; cases h
  | .a (.c p), h | .b (.c p), h => by have h : T.get p (T.l : T Blk) = some x := h; rw [get_l] at h; cases h
  | .a (.d p), h | .b (.d p), h => by have h : T.get p (T.l : T Blk) = some x := h; rw [get_l] at h; cases h
open Classical in
theorem start_hr {z0 z1 z2 : R} (h0 : Gd w 0 z0) (h1 : Gd w 1 z1) (h2 : Gd w 2 z2) : ∃ φ, HR φ w (.mk (gtr z0 z1 z2) (pth 3)) w := by
  obtain ⟨c0, E0, f0, a0, b0⟩ := h0.row
  obtain ⟨c1, E1, f1, a1, b1⟩ := h1.row
  obtain ⟨c2, E2, f2, a2, b2⟩ := h2.row
  have n1 : pth 1 ≠ pth 0 := fun e => by have := pth_inj e; omega
  have n2 : pth 2 ≠ pth 0 := fun e => by have := pth_inj e; omega
  have n3 : pth 2 ≠ pth 1 := fun e => by have := pth_inj e; omega
  let φ : Ph := fun b => if b = pth 0 then some (0, 0, c0.size) else if b = pth 1 then some (1, 0, c1.size) else if b = pth 2 then some (2, 0, c2.size) else none
  have p0 : φ (pth 0) = some (0, 0, c0.size) := if_pos rfl
  have p1 : φ (pth 1) = some (1, 0, c1.size) := by show (if _ then _ else _) = _; rw [if_neg n1, if_pos rfl]
  have p2 : φ (pth 2) = some (2, 0, c2.size) := by show (if _ then _ else _) = _; rw [if_neg n2, if_neg n3, if_pos rfl]
  have inv : ∀ {b x}, φ b = some x → (b = pth 0 ∧ x = (0, 0, c0.size)) ∨ (b = pth 1 ∧ x = (1, 0, c1.size)) ∨ (b = pth 2 ∧ x = (2, 0, c2.size)) := fun {b x} h => by
    have h : (if b = pth 0 then some (0, 0, c0.size) else if b = pth 1 then some (1, 0, c1.size) else if b = pth 2 then some (2, 0, c2.size) else none) = some x := h
    split at h
    · injection h with h; exact .inl ⟨‹_›, h.symm⟩
    · split at h
      · injection h with h; exact .inr (.inl ⟨‹_›, h.symm⟩)
      · split at h
        · injection h with h; exact .inr (.inr ⟨‹_›, h.symm⟩)
        · cases h
  have cel : ∀ {g : Nat} {z : R} {c : Array Value} {E : TypeId} {fz : Nat × Nat}, Gd w g z → w.heap[g]? = some (.cells c E fz) → z.l.length ≤ c.size → z.ok ∧ 0 + z.l.length ≤ c.size ∧ ∀ (i : Nat) a, z.l[i]? = some a → ∃ v, w.cell? ⟨g, 0 + i, none⟩ = some v ∧ AR φ a v := fun {g z c E fz} hz hg hle => by
    obtain ⟨k1, vs, k2, k3, k4⟩ := hz
    refine ⟨k1, by omega, fun i a ha => ?_⟩
    obtain ⟨v, k5, k6⟩ := k3.get i a ha
    exact ⟨v, by rw [Nat.zero_add]; exact k4 i v k5, k6.mono (noP_le φ)⟩
  have no : ∀ {b r tok}, T.get b (gtr z0 z1 z2) = some (.mk r tok false) → False := fun {b r tok} h => by
    rcases gtr_inv h with ⟨_, h⟩ | ⟨_, h⟩ | ⟨_, h⟩ <;> (injection h with _ _ h; cases h)
  refine ⟨φ, ⟨V.Step.refl, ⟨_, 3, rfl, fun b hb => ?_, fun b hb => ?_⟩, fun g hg => ?_, fun b g o t hb => ?_, fun b g o t r tok ro hb hk => ?_, fun b g o t r tok hb hk => (no hk).elim, fun b b' g o o' t t' r r' tok tok' _ _ _ hk => (no hk).elim, fun b g o t r tok hb hk => ?_⟩⟩
  · cases e : φ b with
    | none => exact absurd e hb
    | some x => rcases inv e with ⟨rfl, _⟩ | ⟨rfl, _⟩ | ⟨rfl, _⟩ <;> (rw [num_pth]; omega)
  · cases e : T.get b (gtr z0 z1 z2) with
    | none => exact absurd e hb
    | some x => rcases gtr_inv e with ⟨rfl, _⟩ | ⟨rfl, _⟩ | ⟨rfl, _⟩ <;> (rw [num_pth]; omega)
  · have hg : g < 3 := hg
    match g, hg with
    | 0, _ => exact ⟨_, p0⟩
    | 1, _ => exact ⟨_, p1⟩
    | 2, _ => exact ⟨_, p2⟩
  · rcases inv hb with ⟨_, e⟩ | ⟨_, e⟩ | ⟨_, e⟩ <;> cases e
    · exact ⟨_, _, _, a0, rfl⟩
    · exact ⟨_, _, _, a1, rfl⟩
    · exact ⟨_, _, _, a2, rfl⟩
  · rcases inv hb with ⟨rfl, e⟩ | ⟨rfl, e⟩ | ⟨rfl, e⟩ <;> cases e
    · have hk : some (Blk.mk z0 false true) = some (.mk r tok ro) := hk
      cases hk
      exact cel h0 a0 b0
    · have hk : some (Blk.mk z1 false true) = some (.mk r tok ro) := hk
      cases hk
      exact cel h1 a1 b1
    · have hk : some (Blk.mk z2 false true) = some (.mk r tok ro) := hk
      cases hk
      exact cel h2 a2 b2
  · have lt : ∀ {g : Nat} {b : Obj}, w.heap[g]? = some b → g < w.heap.size := fun h => (Array.getElem?_eq_some_iff.1 h).1
    rcases inv hb with ⟨_, e⟩ | ⟨_, e⟩ | ⟨_, e⟩ <;> cases e
    · exact lt a0
    · exact lt a1
    · exact lt a2
/-- Where the run of function i has come to. -/
def Rn (P : Program) (tb : Tb) (w0 : World) (i : FuncId) (c : Cfg) : Prop := ∀ cs0, ∃ m', Steps P (lone (Frame.enter P i #[] .normal) cs0 w0) m' ∧ RC P tb w0 i cs0 c m'
theorem Rn.start (hft : FtS P w tb) {i : FuncId} {fn : Func} (hi : T.get (pth i) tb.ft = some (.fn fn)) (H : HR φ w W w) {c : Cfg} (hc : c = I.start tb i [] W) : Rn P tb w i c := fun cs0 => by
  subst hc
  rcases hft _ _ hi with ⟨fn', code, e, h1, _, h3, h4⟩ | ⟨_, e, _⟩
  · injection e with e
    subst e
    have he : I.start tb i [] W = .run fn.results.toList [.cd code] .l W [] := by
      unfold I.start
      rw [hi]
      show (Option.rec (motive := fun _ => Cfg) .no (fun c => args [] fun f => .run fn.results.toList [.cd c] f W []) fn.body : Cfg) = _
      rw [h3]
      rfl
    rw [he]
    obtain ⟨n1, m1, _⟩ := H.nxt
    refine ⟨_, .refl _ _, φ, w, n1, { (default : Frame) with fn := i, kind := .normal }, { tmps := #[] ++ Array.replicate (fn.ntmps - 0) undef, defers := [] }, [.code code], cs0, ?_, H, m1, .st (N := fn.ntmps) ⟨rfl, rfl, ⟨fn, h1, rfl⟩, by simp⟩ (.cd h4 .nil) (fun t u hu => by rw [get_l] at hu; cases hu), .nil⟩
    congr 1
    simp [Frame.enter, Frame.at, h1, h3]
  · cases e
theorem Rn.next (hm : P.follows .mixedOrders = true) (htt : TtS P tb.tt) (hft : FtS P w0 tb) {i : FuncId} {c c' : Cfg} {q : Nat} (h : Rn P tb w0 i c) (e : c' = runq tb q c) : Rn P tb w0 i c' := fun cs0 => by
  subst e
  obtain ⟨m1, h1, h2⟩ := h cs0
  obtain ⟨m2, h3, h4⟩ := runq_sim hm htt hft q _ _ h2
  exact ⟨m2, h1.trans h3, h4⟩
noncomputable def isT (c : Cfg) : Bool := match c with
  | .done (.c (.b x)) _ => x
  | _ => false
theorem Rn.calls {i : FuncId} {c : Cfg} (h : Rn P tb w0 i c) (hb : isT c = true) : Calls P i #[] w0 fun e w' => e = .returned (.bool true) ∧ V.Step [] w0 w' := fun cs => by
  obtain ⟨m, h1, h2⟩ := h cs
  unfold isT at hb
  split at hb
  · subst hb
    obtain ⟨φ, w, fr, u, rfl, h3, h4, h5, h6⟩ := h2
    have h5 : u = .bool true := h5
    subst h5
    exact ⟨_, w, fr, ⟨rfl, h6.st⟩, h1, h3, h4⟩
  · cases hb
end
end I
end Go.Proofs.YtladkmnfmpojiaaGreatDoor
namespace Go.Proofs.YtladkmnfmpojiaaGreatDoor
namespace I
theorem nx {α : Type} {Q : α → Prop} : ∀ y, (none : Option α) = some y → Q y := fun _ h => by cases h
theorem sx {α : Type} {Q : α → Prop} {x : α} (h : Q x) : ∀ y, some x = some y → Q y := fun _ e => by injection e with e; subst e; exact h
def Qt (P : Program) (p : P4) (x : Ti) : Prop := ∀ t ag sz z k c, pth t = p → x = .mk ag sz z k c → TiS P t ag sz z k c
theorem qt {P : Program} {t : Nat} {p : P4} {ag : Bool} {sz : Nat} {z : R} {k : Kd} {c : List (Option IntKind)} (hp : pth t = p) (h : TiS P t ag sz z k c) : Qt P p (.mk ag sz z k c) := fun t' ag' sz' z' k' c' hp' e => by
  injection e with e1 e2 e3 e4 e5
  subst e1; subst e2; subst e3; subst e4; subst e5
  have := pth_inj (hp'.trans hp.symm)
  subst this
  exact h
/-- A type that is not compared. -/
theorem qt0 {P : Program} {t : Nat} {p : P4} {ag : Bool} {sz : Nat} {z : R} {k : Kd} (hp : pth t = p) (h : tiB P t ag sz z k = true) : Qt P p (.mk ag sz z k []) := qt hp (tiB_ok h fun h => absurd rfl h)
noncomputable def eqB' (P : Program) (t : TypeId) (c : List (Option IntKind)) : Bool := (match flK P 10 t with
  | some d => Nat.beq (d.length) (c.length) && (List.zipWith (fun x y => match x, y with
    | none, none => true
    | some a, some b => Nat.beq (ikd a) (ikd b)
    | _, _ => false) d c).all id
  | none => false) && P.keyTypeAt 10 t && !P.eqGuardType P.depth t && (match P.underlying t with
  | some d => aggB d
  | none => false) && Nat.beq (P.cellsOf t) c.length
theorem zip_eq : ∀ {d c : List (Option IntKind)}, d.length = c.length → (List.zipWith (fun x y => match x, y with
    | none, none => true
    | some a, some b => Nat.beq (ikd a) (ikd b)
    | _, _ => false) d c).all id = true → d = c
  | [], [], _, _ => rfl
  | [], _ :: _, h, _ => by cases h
  | _ :: _, [], h, _ => by cases h
  | x :: d, y :: c, h, h2 => by
    simp only [List.zipWith_cons_cons, List.all_cons, Bool.and_eq_true, id] at h2
    rw [zip_eq (d := d) (c := c) (by simpa using h) h2.2]
    cases x <;> cases y <;> first | rfl | (cases h2.1; done) | skip
    rw [ikd_inj h2.1]
/-- A type that is compared cell by cell. -/
theorem qt1 {P : Program} {t : Nat} {p : P4} {ag : Bool} {sz : Nat} {z : R} {k : Kd} {c : List (Option IntKind)} (hp : pth t = p) (h : tiB P t ag sz z k = true) (h2 : eqB' P t c = true) : Qt P p (.mk ag sz z k c) := by
  simp only [eqB', Bool.and_eq_true, Bool.not_eq_true'] at h2
  obtain ⟨⟨⟨⟨h3, h4⟩, h5⟩, h6⟩, h7⟩ := h2
  cases e1 : flK P 10 t with
  | none => rw [e1] at h3; cases h3
  | some d =>
    rw [e1] at h3
    simp only [Bool.and_eq_true] at h3
    have := zip_eq (Nat.eq_of_beq_eq_true h3.1) h3.2
    subst this
    cases e2 : P.underlying t with
    | none => rw [e2] at h6; cases h6
    | some x =>
      rw [e2] at h6
      exact qt hp (tiB_ok h (eq_ok e1 h4 h5 ⟨x, e2, h6⟩ (Nat.eq_of_beq_eq_true h7)))
theorem tts_of {P : Program} {tt : T Ti} (h : AllT (Qt P) tt) : TtS P tt := fun t ag sz z k c e => h.get (p := pth t) e t ag sz z k c rfl rfl
noncomputable def okFn (tb : Tb) (fn : Func) : Bool := !(fn.name == "runtime.NumGoroutine") && (match fn.body with
  | some c => okC tb fn.ntmps c
  | none => false)
def Qf (P : Program) (w0 : World) (tb : Tb) (p : P4) (e : Fe) : Prop := ∀ i, pth i = p → (∃ fn c, e = .fn fn ∧ P.funcs[i]? = some fn ∧ fn.name ≠ "runtime.NumGoroutine" ∧ fn.body = some c ∧ OkC tb fn.ntmps c) ∨ ∃ g, e = .own g ∧ Own P w0 i g
theorem qf {P : Program} {w0 : World} {tb : Tb} {i : Nat} {p : P4} {fn : Func} (hp : pth i = p) (h1 : P.funcs[i]? = some fn) (h2 : okFn tb fn = true) : Qf P w0 tb p (.fn fn) := fun i' hp' => by
  have := pth_inj (hp'.trans hp.symm)
  subst this
  simp only [okFn, Bool.and_eq_true, Bool.not_eq_true', beq_eq_false_iff_ne] at h2
  cases e : fn.body with
  | none => rw [e] at h2; cases h2.2
  | some c =>
    rw [e] at h2
    exact .inl ⟨fn, c, rfl, h1, h2.1, e, okC_ok h2.2⟩
theorem qo {P : Program} {w0 : World} {tb : Tb} {i : Nat} {p : P4} {g : List V → I.W → Option V} (hp : pth i = p) (h : Own P w0 i g) : Qf P w0 tb p (.own g) := fun i' hp' => by
  have := pth_inj (hp'.trans hp.symm)
  subst this
  exact .inr ⟨g, rfl, h⟩
theorem fts_of {P : Program} {w0 : World} {tb : Tb} (h : AllT (Qf P w0 tb) tb.ft) : FtS P w0 tb := fun i _ hi => h.get (p := pth i) hi i rfl
end I
end Go.Proofs.YtladkmnfmpojiaaGreatDoor
namespace Go.Proofs.YtladkmnfmpojiaaGreatDoor
namespace I
section
variable {P : Program} {φ : Ph} {w0 w w' : World} {W : I.W}
theorem HR.same {X : List (Option Nat)} (H : HR φ w0 W w) (h : V.Step X w w') (hX : ∀ b, some b ∉ X) : HR φ w0 W w' := by
  have hb : ∀ b, b < w.heap.size → w'.heap[b]? = w.heap[b]? := fun b hb => h.block b hb (hX b)
  have hs := H.st
  refine H.world ⟨h.os.trans hs.os, h.tape.trans hs.tape, h.output.trans hs.output, Nat.le_trans hs.size h.size, fun b h1 h2 => (hb b (Nat.lt_of_lt_of_le h1 hs.size)).trans (hs.block b h1 h2)⟩ (fun g c E fz hg _ => ?_) (fun b g o t r tok ro hb' _ q _ _ => ?_) (fun b g o t r tok hb' _ q hq => ?_)
  · exact ⟨c, E, fz, by rw [hb g (Array.getElem?_eq_some_iff.1 hg).1]; exact hg, rfl⟩
  · exact V.cell_same (hb g (H.lt hb'))
  · have := hb g (H.lt hb')
    simp only [World.frozen?] at hq ⊢
    rw [this]
    exact hq
theorem u8L_inv : ∀ {l : List A} {ns : List Nat}, u8L l = some ns → l = ns.map (A.i .u8)
  | [], ns, h => by cases h; rfl
  | a :: l, ns, h => by
    have h : (a.nI (fun k n => ite' (Nat.beq (ikd k) 4) (ob (u8L l) fun s => some (n :: s)) none) none) = some ns := h
    obtain ⟨k, n, rfl, h1⟩ := nI_inv h
    obtain ⟨h2, h3⟩ := ite_inv h1
    obtain ⟨s, h4, h5⟩ := ob_inv h3
    cases h5
    rw [u8L_inv h4, show k = .u8 from ikd_inj (k := .u8) h2]
    rfl
theorem u_toI {k : IntKind} (hk : sg k = false) {n : Nat} : toI k n = (n : Int) := nng_iff (by unfold nng; rw [hk]; rfl)
theorem els_u8 {U : Nat → Prop} : ∀ (ns : List Nat) (vs : List Value), All2 (AR φ) (ns.map (A.i .u8)) vs → V.Els 1 V.R8 U w vs (toIs ns)
  | [], vs, h => by cases h; rfl
  | n :: ns, vs, h => by
    cases h with
    | cons h1 h2 =>
      obtain ⟨_, h3⟩ := h1
      subst h3
      refine ⟨[_], _, rfl, rfl, ?_, els_u8 ns _ h2⟩
      show [_] = [Value.int .u8 (Int.ofNat n)]
      rw [u_toI (k := .u8) rfl]
      rfl
theorem toIs_len : ∀ (ns : List Nat), (toIs ns).length = ns.length
  | [] => rfl
  | n :: ns => by show (toIs ns).length + 1 = _; rw [toIs_len ns]; rfl
theorem tagV_inv {o : Option Int} {v : V} (h : tagV o = some v) : ∃ n : Nat, o = some (n : Int) ∧ v = .c (.i .u64 n) ∧ n < 18446744073709551616 := by
  obtain ⟨r, h1, h2⟩ := ob_inv h
  cases r with
  | ofNat n =>
    have h2' : ite' (Nat.ble (Nat.succ n) 18446744073709551616) (some (V.c (.i .u64 n))) none = some v := h2
    obtain ⟨h3, h4⟩ := ite_inv h2'
    cases h4
    exact ⟨n, h1, rfl, Nat.le_of_ble_eq_true h3⟩
  | negSucc n => cases h2
theorem u64_ok {n : Nat} (h : n < 18446744073709551616) : VR φ (.c (.i .u64 n)) (.int .u64 (n : Int)) := ⟨h, by rw [u_toI (k := .u64) rfl]⟩
theorem step_globs (g0 : V.Globs (fun _ => False) [] w0) (h : V.Step [] w0 w) {X : List (Option Nat)} (hX : ∀ b, some b ∉ X) : V.Globs (fun _ => False) X w := fun p hp => by
  obtain ⟨h0, h1, h2, h3⟩ := g0 p hp
  have hlt : p.1 < w0.heap.size := by
    cases hc : p.2 with
    | nil => exact absurd hc h0
    | cons v r => exact V.cell_lt (h3 0 v (by rw [hc]; rfl))
  exact ⟨h0, h1, hX _, fun j v hj => (V.cell_same (h.block p.1 hlt h2)).trans (h3 j v hj)⟩
/-- A Spec of a number and a row of bytes that is only read is what the machine asks. -/
theorem own_of {i : FuncId} {fn : Func} {tw : Int → List Int → Option Int} {its' : List V.Item} (hf : P.funcs[i]? = some fn) (hn : (fn.name == "runtime.NumGoroutine") = false) (hb : fn.body.isSome = true)
    (hs : ∀ (k : Int) (l : List Int) (r : Int), tw k l = some r → V.Spec P i [V.vi .u64 k, V.vs 0] [.rd 1 V.R8 l] (V.vi .u64 r) its') (g0 : V.Globs (fun _ => False) [] w0) : Own P w0 i (ownG tw) := by
  have hn : fn.name ≠ "runtime.NumGoroutine" := by simpa using hn
  refine ⟨fun args w => enter_ok hf hn (fun e => by rw [e] at hb; cases hb) args, fun φ W w l us v H hl h => ?_⟩
  have key : ∀ (k : Nat) (A : Option Addr) (n c : Nat) (x : List Int) (es : List Value), n = x.length → n ≤ c → c ≤ maxLen → (∀ U, V.Els 1 V.R8 U w es x) → (∀ j u, es[j]? = some u → ∃ ad, A = some ad ∧ w.cell? (ad.add j) = some u) → tagV (tw (Int.ofNat k) x) = some v →
      Calls P i #[.int .u64 (Int.ofNat k), .slice A n c] w fun e w' => match e with
        | .returned u => VR φ v u ∧ HR φ w0 W w'
        | _ => False := fun k A n c x es hn hnc hc he hm ht => by
    obtain ⟨r, h1, h2, h3⟩ := tagV_inv ht
    subst h2
    have S := hs _ _ _ h1 (fun _ => False) [.r A n c] w (step_globs g0 H.st fun b hb => by simp [V.Lof, V.own1] at hb) ⟨rfl, rfl, Nat.le_refl _, rfl, rfl, ⟨V.Step.refl, fun b hb => hb.elim, fun b hb => by simp [V.Lof, V.own1] at hb, fun i j b _ h => by
      rcases i with _ | i <;> simp [V.Lof, V.own1] at h⟩, fun i it c' h1 h2 => by
      cases i with
      | zero =>
        simp at h1 h2
        subst h1; subst h2
        refine ⟨hn, by omega, hc, es, ?_, fun j u hu => ?_⟩
        · exact he _
        · obtain ⟨ad, e1, e2⟩ := hm j u hu
          exact ⟨ad, e1, fun q => by simp [V.Mu, V.Lof, V.own1] at q, e2⟩
      | succ i => simp at h1⟩
    refine S.mono fun e w' hq => ?_
    obtain ⟨κx, rfl, T⟩ := hq
    exact ⟨u64_ok h3, H.same T.ctx.step fun b hb => by simp [V.Lof, V.own1] at hb⟩
  obtain ⟨a, b, rfl, h1⟩ := two_inv h
  obtain ⟨x, rfl, h2⟩ := nC_inv h1
  obtain ⟨kd, k, rfl, h3⟩ := nI_inv h2
  obtain ⟨h4, h5⟩ := ite_inv h3
  obtain ⟨q, rfl, h6⟩ := nC_inv h5
  have hkd : kd = .u64 := ikd_inj (k := .u64) h4
  subst hkd
  obtain ⟨u1, u2, rfl, e1, e2⟩ := all2_two hl
  obtain ⟨_, e1⟩ := c_ok e1
  have e1 : u1 = .int .u64 (Int.ofNat k) := by rw [e1, u_toI (k := .u64) rfl]; rfl
  subst e1
  have e2 := c_ok e2
  rcases nQ_inv h6 with ⟨rfl, h7⟩ | ⟨bl, o, m, kn, cp, rfl, h7⟩
  · have e2 : u2 = .slice none 0 0 := e2
    subst e2
    exact key k none 0 0 [] [] rfl (Nat.le_refl _) (Nat.zero_le _) (fun _ => rfl) (fun j u hu => by simp at hu) h7
  · obtain ⟨r, h8, h9⟩ := ob_inv h7
    obtain ⟨ns, h10, h11⟩ := ob_inv h9
    obtain ⟨gb, p, tg, cap, o', f1, rfl, f3, f4, _, _, f9⟩ := e2
    obtain ⟨vs, v1, v2, v3⟩ := H.part f1 h8
    have hl : r.l = ns.map (A.i .u8) := by
      have := u8L_inv h10
      rwa [R.list_eq, List.append_nil] at this
    have hlen : m = (toIs ns).length := by
      rw [toIs_len, ← v1, ← v2.2.len, hl, List.length_map]
    refine key k _ m cap (toIs ns) vs hlen f3 f4 (fun U => els_u8 ns vs (by rw [← hl]; exact v2.2)) (fun j u hu => ⟨_, rfl, ?_⟩) h11
    rcases f9 with f9 | f9
    · have hj := (List.getElem?_eq_some_iff.1 hu).1
      omega
    · rw [← f9]; exact v3 j u hu
end
end I
end Go.Proofs.YtladkmnfmpojiaaGreatDoor
