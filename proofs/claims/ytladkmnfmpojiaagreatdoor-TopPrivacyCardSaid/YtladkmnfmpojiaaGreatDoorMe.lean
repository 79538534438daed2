/-
  The machine's statements, frames and calls are the model's.
-/
import Derived.Test.YtladkmnfmpojiaaGreatDoorMd
import Derived.Orders
namespace Go.Proofs.YtladkmnfmpojiaaGreatDoor
namespace I
/-- Operation o waits for p. -/
def Bd (o : Oper) (p : Nat) : Prop := ∃ e ∈ o.after, Region.binds .any e = true ∧ e.on = p
inductive Bf (ops : Array Oper) : Nat → Nat → Prop
  | one {i p : Nat} {o : Oper} : ops[i]? = some o → Bd o p → Bf ops i p
  | more {i p q : Nat} {o : Oper} : ops[i]? = some o → Bd o p → Bf ops p q → Bf ops i q
structure DOk (N : Nat) (ops : Array Oper) : Prop where
  ok : ∀ (i : Nat) (o : Oper), ops[i]? = some o → okO N o = true
  lt : ∀ (i : Nat) (o : Oper) (p : Nat), ops[i]? = some o → Bd o p → p < i
  one : ∀ (i j : Nat) (oi oj : Oper) (t : Nat), ops[i]? = some oi → ops[j]? = some oj → oi.dst = some t → oj.dst = some t → i = j
  nm : ∀ (i j : Nat) (oi oj : Oper) (t : Nat), i ≠ j → ops[i]? = some oi → ops[j]? = some oj → oi.dst = some t → t ∈ oj.looksAt ops → Bf ops j i ∨ Bf ops i j
/-- What an operation looks at. -/
def NmR (φ : Ph) (ops : Array Oper) (f : T V) (a : Act) (o : Oper) : Prop := ∀ t ∈ o.looksAt ops, ∀ u, T.get (pth t) f = some u → VR φ u (a.tmps.getD t undef)
section
variable {P : Program} {tb : Tb} {φ φ' : Ph} {w0 w : World} {W W' : I.W} {f f' : T V} {n N : Nat} {ops : Array Oper} {a : Act}
theorem okO_dst {o : Oper} {t : Nat} (h : okO N o = true) (ht : o.dst = some t) : t < N := by
  simp only [okO, Bool.and_eq_true] at h
  have h2 := h.1.2
  rw [ht] at h2
  exact Nat.le_of_ble_eq_true h2
theorem NmR.rd {o : Oper} (h : NmR φ ops f a o) (H : HR φ w0 W w) : Rd φ f a.eval o.op := fun x hx => ev_ok H.gl fun t ht u hu => by
  subst ht
  exact h t (List.mem_append_left _ (List.mem_filterMap.2 ⟨.tmp t, hx, rfl⟩)) u hu
theorem NmR.gd {o : Oper} (h : NmR φ ops f a o) : GdR φ ops f a o := fun i b hg d hd u hu => by
  refine h d (List.mem_append_right _ ?_) u hu
  rw [hg]
  show d ∈ ((ops[i]?).bind (·.dst)).toList
  rw [hd]
  exact List.mem_singleton.2 rfl
theorem Bf.lt (hk : DOk N ops) {i p : Nat} (h : Bf ops i p) : p < i := by
  induction h with
  | one h1 h2 => exact hk.lt _ _ _ h1 h2
  | more h1 h2 _ ih => exact Nat.lt_trans ih (hk.lt _ _ _ h1 h2)
theorem Bf.in {D : Nat → Prop} (hc : ∀ (i : Nat) (o : Oper) (p : Nat), D i → ops[i]? = some o → Bd o p → D p) {i p : Nat} (h : Bf ops i p) : D i → D p := by
  induction h with
  | one h1 h2 => exact fun h => hc _ _ _ h h1 h2
  | more h1 h2 _ ih => exact fun h => ih (hc _ _ _ h h1 h2)
theorem Bf.in' {D : Nat → Prop} (hc : ∀ (i : Nat) (o : Oper) (p : Nat), D i → ops[i]? = some o → Bd o p → D p) {i p : Nat} {o : Oper} (ho : ops[i]? = some o) (he : ∀ p, Bd o p → D p) (h : Bf ops i p) : D p := by
  cases h with
  | one h1 h2 => rw [ho] at h1; injection h1 with h1; subst h1; exact he _ h2
  | more h1 h2 h3 => rw [ho] at h1; injection h1 with h1; subst h1; exact h3.in hc (he _ h2)
/-- What is loaded there. -/
noncomputable def ldv (tt : T Ti) (t : TypeId) (W : I.W) (a : V) : Option V := ti tt t fun ag n _ _ => ite' ag (W.ldn a n) (W.ld1 a)
/-- What the machine has done of an operation that the model has still to do. -/
inductive Pr (tb : Tb) (ops : Array Oper) (n : Nat) (φ : Ph) (W : I.W) (rc : List Rec) (B : Option P4) (j : Nat) (o : Oper) (f : T V) (v : V) : Prop
  | skip : Gs ops.toList f o → v = .un → Pr tb ops n φ W rc B j o f v
  | pure : Gp ops.toList f o → isPu tb.tt o.op = true → opr o.op tb.tt o.type f W = .ok v W → Pr tb ops n φ W rc B j o f v
  | load (t : TypeId) (x : Operand) (a : V) : Gp ops.toList f o → o.op = .load t x → ev f x = some a → ldv tb.tt t W a = some v → (j, t, a, v) ∈ rc → Pr tb ops n φ W rc B j o f v
  | new (r : R) (mk : P4 → V) (b : P4) : Gp ops.toList f o → isNw o.op = true → (∀ W2, opr o.op tb.tt o.type f W2 = W2.new r fun b w => .ok (mk b) w) → v = mk b → T.get b W.m = some (.mk r true false) → φ b = none → n ≤ b.num → B = some b → Pr tb ops n φ W rc B j o f v
/-- S: what the machine has done; D: what the model has done. -/
structure RI (tb : Tb) (ops : Array Oper) (n : Nat) (φ : Ph) (W : I.W) (f : T V) (a : Act) (rc : List Rec) (S D : Nat → Prop) (V0 : Nat → V) (F0 : Nat → T V) (B0 : Nat → Option P4) : Prop where
  ds : ∀ j, D j → S j
  sn : ∀ j, S j → j < ops.size
  sc : ∀ (i : Nat) (o : Oper) (p : Nat), S i → ops[i]? = some o → Bd o p → S p
  dc : ∀ (i : Nat) (o : Oper) (p : Nat), D i → ops[i]? = some o → Bd o p → D p
  pr : ∀ (j : Nat) (o : Oper), S j → ¬ D j → ops[j]? = some o → Pr tb ops n φ W rc (B0 j) j o (F0 j) (V0 j)
  c : ∀ (t : Nat) (u : V), T.get (pth t) f = some u → (∀ (j : Nat) (o : Oper), S j → ¬ D j → ops[j]? = some o → o.dst = some t → V0 j = u) ∧ ((∃ (j : Nat) (o : Oper), S j ∧ ¬ D j ∧ ops[j]? = some o ∧ o.dst = some t) ∨ VR φ u (a.tmps.getD t undef))
  e : ∀ (i : Nat) (oi : Oper) (t : Nat) (u : V), S i → ¬ D i → ops[i]? = some oi → t ∈ oi.looksAt ops → T.get (pth t) (F0 i) = some u →
    (∀ (p : Nat) (op : Oper), S p → ¬ D p → ops[p]? = some op → op.dst = some t → Bf ops i p → V0 p = u) ∧ ((∃ (p : Nat) (op : Oper), S p ∧ ¬ D p ∧ ops[p]? = some op ∧ op.dst = some t ∧ Bf ops i p) ∨ VR φ u (a.tmps.getD t undef))
  bd : ∀ i j b, S i → ¬ D i → S j → ¬ D j → B0 i = some b → B0 j = some b → i = j
  pb : ∀ i b, S i → ¬ D i → B0 i = some b → φ b = none ∧ T.get b W.m ≠ none
section
variable {rc : List Rec} {S D : Nat → Prop} {V0 : Nat → V} {F0 : Nat → T V} {B0 : Nat → Option P4}
/-- What an operation that may come now looks at is what the machine had. -/
theorem RI.look (h : RI tb ops n φ W f a rc S D V0 F0 B0) {j : Nat} {o : Oper} (hs : S j) (hd : ¬ D j) (ho : ops[j]? = some o) (he : ∀ p, Bd o p → D p) : NmR φ ops (F0 j) a o := fun t ht u hu => by
  rcases (h.e j o t u hs hd ho ht hu).2 with ⟨p, op, _, h2, _, _, h5⟩ | h1
  · exact absurd (h5.in' h.dc ho he) h2
  · exact h1
/-- The same, of an operation that the machine does now. -/
theorem RI.look2 (hk : DOk N ops) (h : RI tb ops n φ W f a rc S D V0 F0 B0) {j : Nat} {o : Oper} (hs : ¬ S j) (ho : ops[j]? = some o) (he : ∀ p, Bd o p → D p) : NmR φ ops f a o := fun t ht u hu => by
  rcases (h.c t u hu).2 with ⟨p, op, h1, h2, h3, h4⟩ | h1
  · have hne : p ≠ j := fun e => hs (e ▸ h1)
    rcases hk.nm p j op o t hne h3 ho h4 ht with h5 | h5
    · exact absurd (h5.in' h.dc ho he) h2
    · exact absurd (h5.in h.sc h1) hs
  · exact h1
theorem Pr.mono {B : Option P4} {j : Nat} {o : Oper} {v : V} (h : Pr tb ops n φ W rc B j o f v) (hB : ∀ b, B = some b → φ' b = none ∧ T.get b W'.m = T.get b W.m)
    (hl : ∀ t a, (j, t, a, v) ∈ rc → ldv tb.tt t W a = some v → ldv tb.tt t W' a = some v) {rc' : List Rec} (hr : ∀ x, x ∈ rc → x ∈ rc') : Pr tb ops n φ' W' rc' B j o f v := by
  cases h with
  | skip h1 h2 => exact .skip h1 h2
  | pure h1 h2 h3 => exact .pure h1 h2 ((pu_ok h2 h3).2 W')
  | load t x a h1 h2 h3 h4 h5 => exact .load t x a h1 h2 h3 (hl t a h5 h4) (hr _ h5)
  | new r mk b h1 h2 h3 h4 h5 h6 h7 h8 =>
    obtain ⟨k1, k2⟩ := hB b h8
    exact .new r mk b h1 h2 h3 h4 (k2.trans h5) k1 h7 h8
/-- Time goes by. -/
theorem RI.mono (h : RI tb ops n φ W f a rc S D V0 F0 B0) (hle : φ.le φ') (hB : ∀ i b, S i → ¬ D i → B0 i = some b → φ' b = none ∧ T.get b W'.m = T.get b W.m)
    (hl : ∀ j t x, S j → ¬ D j → (j, t, x, V0 j) ∈ rc → ldv tb.tt t W x = some (V0 j) → ldv tb.tt t W' x = some (V0 j)) : RI tb ops n φ' W' f a rc S D V0 F0 B0 := by
  refine ⟨h.ds, h.sn, h.sc, h.dc, fun j o h1 h2 h3 => (h.pr j o h1 h2 h3).mono (hB j · h1 h2) (hl j · · h1 h2) fun _ h => h, fun t u hu => ?_, fun i oi t u h1 h2 h3 h4 h5 => ?_, h.bd, fun i b h1 h2 h3 => ?_⟩
  · obtain ⟨k1, k2⟩ := h.c t u hu
    exact ⟨k1, k2.imp id fun h => h.mono hle⟩
  · obtain ⟨k1, k2⟩ := h.e i oi t u h1 h2 h3 h4 h5
    exact ⟨k1, k2.imp id fun h => h.mono hle⟩
  · obtain ⟨k1, k2⟩ := hB i b h1 h2 h3
    exact ⟨k1, by rw [k2]; exact (h.pb i b h1 h2 h3).2⟩
/-- The model has done an operation too. -/
theorem RI.put (hk : DOk N ops) (h : RI tb ops n φ W f a rc S D V0 F0 B0) {j : Nat} {o : Oper} {u : Value} (hs : S j) (hd : ¬ D j) (ho : ops[j]? = some o) (he : ∀ p, Bd o p → D p) (hle : φ.le φ')
    (hv : VR φ' (V0 j) u) (hB : ∀ i b, S i → ¬ D i → i ≠ j → B0 i = some b → φ' b = none) (hN : N ≤ a.tmps.size) : RI tb ops n φ' W f (a.put o.dst u) rc S (fun i => D i ∨ i = j) V0 F0 B0 := by
  have hsz : ∀ t, o.dst = some t → t < a.tmps.size := fun t ht => by
    exact Nat.lt_of_lt_of_le (okO_dst (hk.ok j o ho) ht) hN
  refine ⟨fun i hi => hi.elim (h.ds i) fun e => e ▸ hs, h.sn, h.sc, fun i oi p hi hoi hp => ?_, fun i oi h1 h2 h3 => ?_, fun t x hx => ?_, fun i oi t x h1 h2 h3 h4 h5 => ?_, fun i i' b h1 h2 h3 h4 h5 h6 => h.bd i i' b h1 (fun e => h2 (.inl e)) h3 (fun e => h4 (.inl e)) h5 h6, fun i b h1 h2 h3 => ?_⟩
  · rcases hi with hi | rfl
    · exact .inl (h.dc i oi p hi hoi hp)
    · rw [ho] at hoi; injection hoi with hoi; subst hoi; exact .inl (he p hp)
  · exact (h.pr i oi h1 (fun e => h2 (.inl e)) h3).mono (fun b hb => ⟨hB i b h1 (fun e => h2 (.inl e)) (fun e => h2 (.inr e)) hb, rfl⟩) (fun _ _ _ h => h) fun _ h => h
  · obtain ⟨k1, k2⟩ := h.c t x hx
    refine ⟨fun i oi h1 h2 => k1 i oi h1 fun e => h2 (.inl e), ?_⟩
    by_cases hdt : o.dst = some t
    · right
      rw [← k1 j o hs hd ho hdt, hdt, put_self (hsz t hdt)]
      exact hv
    · rw [put_same hdt]
      rcases k2 with ⟨i, oi, h1, h2, h3, h4⟩ | k2
      · refine .inl ⟨i, oi, h1, fun e => ?_, h3, h4⟩
        rcases e with e | rfl
        · exact h2 e
        · rw [ho] at h3; injection h3 with h3; subst h3; exact hdt h4
      · exact .inr (k2.mono hle)
  · have h2' : ¬ D i := fun e => h2 (.inl e)
    have hij : i ≠ j := fun e => h2 (.inr e)
    obtain ⟨k1, k2⟩ := h.e i oi t x h1 h2' h3 h4 h5
    refine ⟨fun p op q1 q2 => k1 p op q1 fun e => q2 (.inl e), ?_⟩
    by_cases hdt : o.dst = some t
    · right
      rcases hk.nm j i o oi t (Ne.symm hij) ho h3 hdt h4 with h6 | h6
      · rw [← k1 j o hs hd ho hdt h6, hdt, put_self (hsz t hdt)]
        exact hv
      · exact absurd (h6.in' h.dc ho he) h2'
    · rw [put_same hdt]
      rcases k2 with ⟨p, op, q1, q2, q3, q4, q5⟩ | k2
      · refine .inl ⟨p, op, q1, fun e => ?_, q3, q4, q5⟩
        rcases e with e | rfl
        · exact q2 e
        · rw [ho] at q3; injection q3 with q3; subst q3; exact hdt q4
      · exact .inr (k2.mono hle)
  · exact ⟨hB i b h1 (fun e => h2 (.inl e)) (fun e => h2 (.inr e)) h3, (h.pb i b h1 (fun e => h2 (.inl e)) h3).2⟩
/-- The machine does an operation with no effect. -/
theorem RI.flt (hk : DOk N ops) (h : RI tb ops n φ W f a rc S D V0 F0 B0) {j : Nat} {o : Oper} {v : V} {B : Option P4} {rc' : List Rec} (hs : ¬ S j) (ho : ops[j]? = some o) (he : ∀ p, Bd o p → S p)
    (hp : Pr tb ops n φ W' rc' B j o f v) (hW : ∀ b, T.get b W.m ≠ none → T.get b W'.m = T.get b W.m) (hl : ∀ t x v, ldv tb.tt t W x = some v → ldv tb.tt t W' x = some v) (hr : ∀ x, x ∈ rc → x ∈ rc')
    (hB : ∀ b, B = some b → φ b = none ∧ T.get b W'.m ≠ none ∧ T.get b W.m = none) :
    RI tb ops n φ W' (pd o.dst f v) a rc' (fun i => S i ∨ i = j) D (fun i => if i = j then v else V0 i) (fun i => if i = j then f else F0 i) (fun i => if i = j then B else B0 i) := by
  have hne : ∀ i, S i → i ≠ j := fun i hi e => hs (e ▸ hi)
  have hj : ∀ i, ¬ D i → (S i ∨ i = j) → (S i ∧ i ≠ j) ∨ i = j := fun i _ hi => hi.imp (fun h => ⟨h, hne i h⟩) id
  have hoj : ∀ {oi}, ops[j]? = some oi → oi = o := fun {oi} hi => by rw [ho] at hi; injection hi with hi; exact hi.symm
  refine ⟨fun i hi => .inl (h.ds i hi), fun i hi => ?_, fun i oi p hi hoi hbp => ?_, h.dc, fun i oi h1 h2 h3 => ?_, fun t x hx => ?_, fun i oi t x h1 h2 h3 h4 h5 => ?_, fun i i' b h1 h2 h3 h4 h5 h6 => ?_, fun i b h1 h2 h3 => ?_⟩
  · rcases hi with hi | rfl
    · exact h.sn i hi
    · exact (Array.getElem?_eq_some_iff.1 ho).1
  · rcases hi with hi | rfl
    · exact .inl (h.sc i oi p hi hoi hbp)
    · rw [hoj hoi] at hbp; exact .inl (he p hbp)
  · rcases hj i h2 h1 with ⟨h4, h5⟩ | rfl
    · simp only [if_neg h5]
      refine (h.pr i oi h4 h2 h3).mono (fun b hb => ?_) (fun t x _ hx => hl t x _ hx) hr
      obtain ⟨k1, k2⟩ := h.pb i b h4 h2 hb
      exact ⟨k1, hW b k2⟩
    · simp only [if_true]
      rw [hoj h3]
      exact hp
  · rcases pd_get hx with ⟨h1, rfl⟩ | ⟨h1, h2⟩
    · refine ⟨fun i oi h2 h3 h4 h5 => ?_, ?_⟩
      · have := hk.one i j oi o t h4 ho h5 h1
        simp [this]
      · by_cases hd : D j
        · exact absurd (h.ds j hd) hs
        · exact .inl ⟨j, o, .inr rfl, hd, ho, h1⟩
    · obtain ⟨k1, k2⟩ := h.c t x h2
      refine ⟨fun i oi h3 h4 h5 h6 => ?_, k2.imp (fun ⟨i, oi, q1, q2, q3, q4⟩ => ⟨i, oi, .inl q1, q2, q3, q4⟩) id⟩
      rcases hj i h4 h3 with ⟨h7, h8⟩ | rfl
      · simp only [if_neg h8]; exact k1 i oi h7 h4 h5 h6
      · rw [hoj h5] at h6; exact absurd h6 h1
  · rcases hj i h2 h1 with ⟨h6, h7⟩ | rfl
    · simp only [if_neg h7] at h5
      obtain ⟨k1, k2⟩ := h.e i oi t x h6 h2 h3 h4 h5
      refine ⟨fun p op q1 q2 q3 q4 q5 => ?_, k2.imp (fun ⟨p, op, q1, q2, q3, q4, q5⟩ => ⟨p, op, .inl q1, q2, q3, q4, q5⟩) id⟩
      rcases hj p q2 q1 with ⟨h8, h9⟩ | rfl
      · simp only [if_neg h9]; exact k1 p op h8 q2 q3 q4 q5
      · exact absurd (q5.in h.sc h6) hs
    · simp only [if_true] at h5
      have h3' := hoj h3
      subst h3'
      obtain ⟨k1, k2⟩ := h.c t x h5
      refine ⟨fun p op q1 q2 q3 q4 q5 => ?_, ?_⟩
      · rcases hj p q2 q1 with ⟨h8, h9⟩ | rfl
        · simp only [if_neg h9]; exact k1 p op h8 q2 q3 q4
        · exact absurd (q5.lt hk) (Nat.lt_irrefl _)
      · rcases k2 with ⟨p, op, q1, q2, q3, q4⟩ | k2
        · refine .inl ⟨p, op, .inl q1, q2, q3, q4, ?_⟩
          rcases hk.nm p i op oi t (hne p q1) q3 ho q4 h4 with q5 | q5
          · exact q5
          · exact absurd (q5.in h.sc q1) hs
        · exact .inr k2
  · rcases hj i h2 h1 with ⟨e1, e2⟩ | rfl
    · simp only [if_neg e2] at h5
      rcases hj i' h4 h3 with ⟨e3, e4⟩ | rfl
      · simp only [if_neg e4] at h6
        exact h.bd i i' b e1 h2 e3 h4 h5 h6
      · simp only [if_true] at h6
        exact absurd (hB b h6).2.2 (h.pb i b e1 h2 h5).2
    · simp only [if_true] at h5
      rcases hj i' h4 h3 with ⟨e3, e4⟩ | rfl
      · simp only [if_neg e4] at h6
        exact absurd (hB b h5).2.2 (h.pb i' b e3 h4 h6).2
      · rfl
  · rcases hj i h2 h1 with ⟨e1, e2⟩ | rfl
    · simp only [if_neg e2] at h3
      obtain ⟨k1, k2⟩ := h.pb i b e1 h2 h3
      exact ⟨k1, by rw [hW b k2]; exact k2⟩
    · simp only [if_true] at h3
      exact ⟨(hB b h3).1, (hB b h3).2.1⟩
/-- Both do an operation. -/
theorem RI.both (hk : DOk N ops) (h : RI tb ops n φ W f a rc S D V0 F0 B0) {j : Nat} {o : Oper} {v : V} {u : Value} (hs : ¬ S j) (ho : ops[j]? = some o) (he : ∀ p, Bd o p → D p) (hv : VR φ v u) (hN : N ≤ a.tmps.size) :
    RI tb ops n φ W (pd o.dst f v) (a.put o.dst u) rc (fun i => S i ∨ i = j) (fun i => D i ∨ i = j) V0 F0 B0 := by
  have hsz : ∀ t, o.dst = some t → t < a.tmps.size := fun t ht => by
    exact Nat.lt_of_lt_of_le (okO_dst (hk.ok j o ho) ht) hN
  have hoj : ∀ {oi}, ops[j]? = some oi → oi = o := fun {oi} hi => by rw [ho] at hi; injection hi with hi; exact hi.symm
  have key : ∀ i, (S i ∨ i = j) → ¬ (D i ∨ i = j) → S i ∧ ¬ D i ∧ i ≠ j := fun i h1 h2 => ⟨h1.resolve_right fun e => h2 (.inr e), fun e => h2 (.inl e), fun e => h2 (.inr e)⟩
  refine ⟨fun i hi => hi.imp (h.ds i) id, fun i hi => ?_, fun i oi p hi hoi hp => ?_, fun i oi p hi hoi hp => ?_, fun i oi h1 h2 h3 => ?_, fun t x hx => ?_, fun i oi t x h1 h2 h3 h4 h5 => ?_, fun i i' b h1 h2 h3 h4 h5 h6 => ?_, fun i b h1 h2 h3 => ?_⟩
  · rcases hi with hi | rfl
    · exact h.sn i hi
    · exact (Array.getElem?_eq_some_iff.1 ho).1
  · rcases hi with hi | rfl
    · exact .inl (h.sc i oi p hi hoi hp)
    · rw [hoj hoi] at hp; exact .inl (h.ds p (he p hp))
  · rcases hi with hi | rfl
    · exact .inl (h.dc i oi p hi hoi hp)
    · rw [hoj hoi] at hp; exact .inl (he p hp)
  · obtain ⟨k1, k2, _⟩ := key i h1 h2
    exact h.pr i oi k1 k2 h3
  · rcases pd_get hx with ⟨h1, rfl⟩ | ⟨h1, h2⟩
    · refine ⟨fun i oi h2 h3 h4 h5 => ?_, .inr ?_⟩
      · exact absurd (hk.one i j oi o t h4 ho h5 h1) (key i h2 h3).2.2
      · rw [h1, put_self (hsz t h1)]; exact hv
    · obtain ⟨k1, k2⟩ := h.c t x h2
      refine ⟨fun i oi h3 h4 h5 h6 => ?_, ?_⟩
      · obtain ⟨q1, q2, _⟩ := key i h3 h4
        exact k1 i oi q1 q2 h5 h6
      · rw [put_same h1]
        refine k2.imp (fun ⟨i, oi, q1, q2, q3, q4⟩ => ⟨i, oi, .inl q1, fun e => ?_, q3, q4⟩) id
        rcases e with e | rfl
        · exact q2 e
        · exact hs q1
  · obtain ⟨q1, q2, q3⟩ := key i h1 h2
    obtain ⟨k1, k2⟩ := h.e i oi t x q1 q2 h3 h4 h5
    have hdt : o.dst ≠ some t := fun e => by
      rcases hk.nm j i o oi t (Ne.symm q3) ho h3 e h4 with h6 | h6
      · exact hs (h6.in h.sc q1)
      · exact q2 (h6.in' h.dc ho he)
    refine ⟨fun p op r1 r2 r3 r4 r5 => ?_, ?_⟩
    · obtain ⟨r6, r7, _⟩ := key p r1 r2
      exact k1 p op r6 r7 r3 r4 r5
    · rw [put_same hdt]
      refine k2.imp (fun ⟨p, op, r1, r2, r3, r4, r5⟩ => ⟨p, op, .inl r1, fun e => ?_, r3, r4, r5⟩) id
      rcases e with e | rfl
      · exact r2 e
      · exact hs r1
  · obtain ⟨q1, q2, _⟩ := key i h1 h2
    obtain ⟨q3, q4, _⟩ := key i' h3 h4
    exact h.bd i i' b q1 q2 q3 q4 h5 h6
  · obtain ⟨q1, q2, _⟩ := key i h1 h2
    exact h.pb i b q1 q2 h3
end
end
end I
end Go.Proofs.YtladkmnfmpojiaaGreatDoor
namespace Go.Proofs.YtladkmnfmpojiaaGreatDoor
namespace I
section
variable {P : Program} {tb : Tb} {φ φ' : Ph} {w0 w : World} {W W' : I.W} {f f' : T V} {n N : Nat} {ops : Array Oper} {a : Act} {rc : List Rec} {S D : Nat → Prop} {V0 : Nat → V} {F0 : Nat → T V} {B0 : Nat → Option P4}
theorem okO_st {o : Oper} (h : okO N o = true) : (∃ t x y, o.op = .store t x y) → o.dst = none := fun ⟨t, x, y, e⟩ => by
  simp only [okO, Bool.and_eq_true] at h
  have h2 := h.2
  rw [e] at h2
  cases e2 : o.dst with
  | none => rfl
  | some _ => rw [e2] at h2; cases h2
theorem okO_fits {o : Oper} (h : okO N o = true) : fits o.op = true := by
  simp only [okO, Bool.and_eq_true] at h
  exact h.1.1
/-- The model does what the machine has done. -/
theorem RI.act (htt : TtS P tb.tt) (hk : DOk N ops) (h : RI tb ops n φ W f a rc S D V0 F0 B0) (H : HR φ w0 W w) (hn : nxt n W) {j : Nat} {o : Oper} (hs : S j) (hd : ¬ D j) (ho : ops[j]? = some o) (he : ∀ p, Bd o p → D p) (hN : N ≤ a.tmps.size) :
    ∃ φ' u w', HR φ' w0 W w' ∧ KpN n φ φ' W W ∧ RI tb ops n φ' W f (a.put o.dst u) rc S (fun i => D i ∨ i = j) V0 F0 B0 ∧
      ∀ (b : Frame) (t : List Item) (cs : List Frame) (rest : List Nat), Steps P (lone (b.at a (.inRegion ops (j :: rest) :: t)) cs w) (lone (b.at (a.put o.dst u) (.inRegion ops rest :: t)) cs w') := by
  have nm := h.look hs hd ho he
  have run : Gp ops.toList (F0 j) o → opr o.op tb.tt o.type (F0 j) W = .ok (V0 j) W → ∃ φ' u w', HR φ' w0 W w' ∧ KpN n φ φ' W W ∧ RI tb ops n φ' W f (a.put o.dst u) rc S (fun i => D i ∨ i = j) V0 F0 B0 ∧
      ∀ (b : Frame) (t : List Item) (cs : List Frame) (rest : List Nat), Steps P (lone (b.at a (.inRegion ops (j :: rest) :: t)) cs w) (lone (b.at (a.put o.dst u) (.inRegion ops rest :: t)) cs w') := fun hg hr => by
    have hw := gp_ok hg nm.gd
    obtain ⟨d, op, ty, ps, af, g⟩ := o
    obtain ⟨u, w', φ', k1, k2, k3, k4⟩ := op_ok (d := d) (ps := ps) (af := af) (g := g) htt (okO_st (hk.ok _ _ ho)) (okO_fits (hk.ok _ _ ho)) hr (nm.rd H) H
    refine ⟨φ', u, w', k3, .of k4 H hn, h.put hk hs hd ho he (k4.le H) k2 (fun i b h1 h2 _ hb => ?_) hN, fun b t cs rest => op_step ho hw k1⟩
    obtain ⟨q1, q2⟩ := h.pb i b h1 h2 hb
    obtain ⟨k, _, _, q5, m, rfl⟩ := H.nxt
    rw [(k4.old k ⟨m, rfl⟩).2.1 b (q5 b q2)]
    exact q1
  have hB : ∀ i b, S i → ¬ D i → i ≠ j → B0 i = some b → φ b = none := fun i b h1 h2 _ hb => (h.pb i b h1 h2 hb).1
  cases h.pr j o hs hd ho with
  | skip g1 g2 => exact ⟨φ, undef, w, H, .refl hn, h.put hk hs hd ho he (le_refl φ) (by rw [g2]; exact un_ok) hB hN, fun b t cs rest => skip_step ho (gs_ok g1 nm.gd)⟩
  | pure g1 g2 g3 => exact run g1 g3
  | load t x ad g1 g2 g3 g4 g5 => exact run g1 (by rw [g2]; exact ld_again g3 g4)
  | new r mk b g1 g2 g3 g4 g5 g6 g7 g8 =>
    have hw := gp_ok g1 nm.gd
    obtain ⟨d, op, ty, ps, af, g⟩ := o
    have hx : opr op tb.tt ty (F0 j) (.mk .l (pth b.num)) = .ok (mk (pth b.num)) (.mk (T.put (pth b.num) .l (.mk r true false)) (pth (b.num + 1))) := by
      rw [show opr op tb.tt ty (F0 j) (.mk .l (pth b.num)) = _ from g3 _, wnew_eq]
    obtain ⟨r', mk', q1, q2⟩ := nw_ok (d := d) (ps := ps) (af := af) (g := g) htt g2 (okO_fits (hk.ok _ _ ho)) hx
    rw [q1, wnew_eq] at hx
    injection hx with e1 e2
    injection e2 with e2 _
    have e3 : T.get (pth b.num) (T.put (pth b.num) .l (Blk.mk r' true false)) = T.get (pth b.num) (T.put (pth b.num) .l (Blk.mk r true false)) := by rw [e2]
    rw [get_put_self, get_put_self] at e3
    injection e3 with e3
    injection e3 with e3
    subst e3
    rw [pth_num] at e1
    obtain ⟨u, w', y, m1, m2, m3⟩ := act_ok H g6 g5 (q2 φ a.eval w (nm.rd H))
    rw [e1, ← g4] at m2
    refine ⟨φ.up b y, u, w', m3, ⟨hn, fun q hq => up_ne φ _ fun e => ?_, up_le g6, fun _ _ _ => rfl⟩, h.put hk hs hd ho he (up_le g6) m2 (fun i q h1 h2 h3 hq => ?_) hN, fun b t cs rest => op_step ho hw (.inl m1)⟩
    · subst e; omega
    · have hqb : q ≠ b := fun e => by subst e; exact h3 (h.bd i j q h1 h2 hs hd hq g8)
      rw [up_ne φ _ hqb]
      exact (h.pb i q h1 h2 hq).1

/-! ### The order drawn -/
structure Lg (ops : Array Oper) (L : Array Bool) (D : Nat → Prop) : Prop where
  size : L.size = ops.size
  iff : ∀ j, D j ↔ L.getD j false = true
theorem Lg.start : Lg ops (Array.replicate ops.size false) fun _ => False := ⟨by simp, fun j => by
  constructor
  · exact False.elim
  · intro h
    by_cases hj : j < ops.size
    · simp [hj] at h
    · simp [hj] at h⟩
theorem Lg.set {L : Array Bool} (h : Lg ops L D) {j : Nat} (hj : j < ops.size) : Lg ops (L.setIfInBounds j true) fun i => D i ∨ i = j := ⟨by simp [h.size], fun i => by
  by_cases e : i = j
  · subst e
    have : i < L.size := by rw [h.size]; exact hj
    simp [this]
  · rw [h.iff i]
    simp [e, Array.getElem?_setIfInBounds_ne (Ne.symm e)]⟩
def cnt (L : Array Bool) : Nat := L.toList.count false
theorem cnt_set {L : Array Bool} {j : Nat} (hj : L.getD j true = false) : cnt (L.setIfInBounds j true) + 1 = cnt L := by
  have hlt : j < L.size := by
    rcases Nat.lt_or_ge j L.size with h | h
    · exact h
    · simp [Array.getElem?_eq_none h] at hj
  have hv : L[j] = false := by simpa [hlt] using hj
  obtain ⟨l⟩ := L
  have hlt : j < l.length := by simpa using hlt
  have hv : l[j] = false := by simpa using hv
  have hm : false ∈ l := hv ▸ List.getElem_mem hlt
  have hp : 0 < l.count false := List.count_pos_iff.2 hm
  simp only [cnt, List.setIfInBounds_toArray, List.count_set hlt, hv]
  simp
  omega
theorem ready_in {L : Array Bool} (h : Lg ops L D) {j : Nat} (hj : j ∈ Region.ready .any ops L) : ¬ D j ∧ L.getD j true = false ∧ ∃ o, ops[j]? = some o ∧ ∀ p, Bd o p → D p := by
  obtain ⟨h1, o, h2, h3⟩ := mem_ready.1 hj
  refine ⟨fun e => ?_, h1, o, h2, fun p ⟨e, he, hb, hp⟩ => ?_⟩
  · have hlt : j < L.size := by rw [h.size]; exact (Array.getElem?_eq_some_iff.1 h2).1
    have := (h.iff j).1 e
    simp [hlt] at this h1
    rw [h1] at this; cases this
  · subst hp; exact (h.iff _).2 (h3 e he hb)
theorem ready_ne {L : Array Bool} (h : Lg ops L D) (hk : DOk N ops) {T : Nat → Prop} (hs : ∀ j, T j → j < ops.size) (hc : ∀ (i : Nat) (o : Oper) (p : Nat), T i → ops[i]? = some o → Bd o p → T p) : ∀ j, T j → ¬ D j → Region.ready .any ops L ≠ [] := by
  intro j
  induction j using Nat.strongRecOn with
  | _ j ih =>
    intro ht hd hr
    have hlt := hs j ht
    have ho : ops[j]? = some ops[j] := Array.getElem?_eq_getElem hlt
    by_cases hall : ∀ p, Bd ops[j] p → D p
    · have : j ∈ Region.ready .any ops L := mem_ready.2 ⟨by
        have hl : j < L.size := by rw [h.size]; exact hlt
        have : ¬ L.getD j false = true := fun e => hd ((h.iff j).2 e)
        simp [hl] at this ⊢
        exact this, _, ho, fun e he hb => (h.iff _).1 (hall _ ⟨e, he, hb, rfl⟩)⟩
      rw [hr] at this
      cases this
    · obtain ⟨p, hp⟩ := Classical.not_forall.1 hall
      obtain ⟨h1, h2⟩ := Classical.not_imp.1 hp
      exact ih p (hk.lt _ _ _ ho h1) (hc j _ p ht ho h1) h2 hr
theorem go_nil {L : Array Bool} (hr : Region.ready .any ops L = []) (fuel tp : Nat) : Region.linearise.go .any ops fuel tp L [] = [] := by
  cases fuel with
  | zero => rfl
  | succ fuel =>
    simp only [Region.linearise.go]
    change (match (Region.ready .any ops L)[tp % (Region.ready .any ops L).length]? with
      | some i => Region.linearise.go .any ops fuel (tp / (Region.ready .any ops L).length) (L.setIfInBounds i true) [i]
      | none => [].reverse) = []
    rw [hr]
    rfl
theorem go_cons {L : Array Bool} (hr : Region.ready .any ops L ≠ []) (tp : Nat) : ∃ j tp', j ∈ Region.ready .any ops L ∧ ∀ fuel, Region.linearise.go .any ops (fuel + 1) tp L [] = j :: Region.linearise.go .any ops fuel tp' (L.setIfInBounds j true) [] := by
  have hlt : tp % (Region.ready .any ops L).length < (Region.ready .any ops L).length := Nat.mod_lt _ (List.length_pos_iff.2 hr)
  refine ⟨(Region.ready .any ops L)[tp % (Region.ready .any ops L).length], tp / (Region.ready .any ops L).length, List.getElem_mem hlt, fun fuel => ?_⟩
  simp only [Region.linearise.go]
  change (match (Region.ready .any ops L)[tp % (Region.ready .any ops L).length]? with
      | some i => Region.linearise.go .any ops fuel (tp / (Region.ready .any ops L).length) (L.setIfInBounds i true) [i]
      | none => [].reverse) = _
  rw [List.getElem?_eq_getElem hlt]
  simp only
  rw [linearise_go_acc, List.reverse_singleton, List.singleton_append]
/-- What the model has to do before: till operation q comes, or all of it. -/
def Aim (ops : Array Oper) (S : Nat → Prop) : Option Nat → Prop
  | none => ∀ j, j < ops.size → S j
  | some i => ¬ S i ∧ ∃ o, ops[i]? = some o ∧ (∀ p, Bd o p → S p) ∧ ∀ j, j < ops.size → ¬ S j → j ≠ i → Bf ops j i
theorem catch_up (htt : TtS P tb.tt) (hk : DOk N ops) (q : Option Nat) (hq : Aim ops S q) : ∀ (fuel tp : Nat) (L : Array Bool) (φ : Ph) (w : World) (a : Act) (D : Nat → Prop), Lg ops L D → cnt L ≤ fuel → RI tb ops n φ W f a rc S D V0 F0 B0 → HR φ w0 W w → nxt n W → N ≤ a.tmps.size →
    ∃ φ' w' a' D', RI tb ops n φ' W f a' rc S D' V0 F0 B0 ∧ HR φ' w0 W w' ∧ KpN n φ φ' W W ∧ a'.tmps.size = a.tmps.size ∧ a'.defers = a.defers ∧
      match q with
      | none => (∀ j, S j → D' j) ∧ ∀ (b : Frame) (t : List Item) (cs : List Frame), Steps P (lone (b.at a (.inRegion ops (Region.linearise.go .any ops fuel tp L []) :: t)) cs w) (lone (b.at a' (.inRegion ops [] :: t)) cs w')
      | some i => (∀ o, ops[i]? = some o → ∀ p, Bd o p → D' p) ∧ ∃ L' fuel' tp', Lg ops L' (fun j => D' j ∨ j = i) ∧ cnt L' ≤ fuel' ∧ ∀ (b : Frame) (t : List Item) (cs : List Frame), Steps P (lone (b.at a (.inRegion ops (Region.linearise.go .any ops fuel tp L []) :: t)) cs w) (lone (b.at a' (.inRegion ops (i :: Region.linearise.go .any ops fuel' tp' L' []) :: t)) cs w') := by
  intro fuel
  induction fuel with
  | zero =>
    intro tp L φ w a D hl hc h H hn hN
    have hall : ∀ j, j < ops.size → D j := fun j hj => by
      rw [hl.iff]
      have hlt : j < L.size := by rw [hl.size]; exact hj
      cases e : L.getD j true with
      | false => have := cnt_set e; omega
      | true => simpa [hlt] using e
    cases q with
    | none => exact ⟨φ, w, a, D, h, H, .refl hn, rfl, rfl, fun j hj => hall j (h.sn j hj), fun b t cs => .refl _ _⟩
    | some i =>
      obtain ⟨h1, o, h2, _⟩ := hq
      exact absurd (h.ds i (hall i (Array.getElem?_eq_some_iff.1 h2).1)) h1
  | succ fuel ih =>
    intro tp L φ w a D hl hc h H hn hN
    by_cases hr : Region.ready .any ops L = []
    · cases q with
      | none =>
        refine ⟨φ, w, a, D, h, H, .refl hn, rfl, rfl, fun j hj => ?_, fun b t cs => by rw [go_nil hr]; exact .refl _ _⟩
        exact Classical.byContradiction fun hd => ready_ne hl hk h.sn h.sc j hj hd hr
      | some i =>
        obtain ⟨h1, o, h2, h3, _⟩ := hq
        refine absurd hr (ready_ne hl hk (T := fun j => S j ∨ j = i) (fun j hj => hj.elim (h.sn j) fun e => e ▸ (Array.getElem?_eq_some_iff.1 h2).1) (fun j oj p hj hoj hp => ?_) i (.inr rfl) fun e => h1 (h.ds i e))
        rcases hj with hj | rfl
        · exact .inl (h.sc j oj p hj hoj hp)
        · rw [h2] at hoj; injection hoj with hoj; subst hoj; exact .inl (h3 p hp)
    · obtain ⟨j, tp', hj, hgo⟩ := go_cons hr tp
      obtain ⟨r1, r2, o, r3, r4⟩ := ready_in hl hj
      have hjs := (Array.getElem?_eq_some_iff.1 r3).1
      have hcn := cnt_set r2
      by_cases hqj : q = some j
      · subst hqj
        refine ⟨φ, w, a, D, h, H, .refl hn, rfl, rfl, fun o' ho' p hp => ?_, _, fuel, tp', hl.set hjs, by omega, fun b t cs => by rw [hgo]; exact .refl _ _⟩
        rw [r3] at ho'; injection ho' with ho'; subst ho'; exact r4 p hp
      · have hs : S j := by
          cases q with
          | none => exact hq j hjs
          | some i =>
            obtain ⟨h1, _, _, _, h4⟩ := hq
            refine Classical.byContradiction fun hs => ?_
            have := (h4 j hjs hs fun e => hqj (by rw [e])).in' h.dc r3 r4
            exact h1 (h.ds i this)
        obtain ⟨φ1, u, w1, k1, k2, k3, k4⟩ := h.act htt hk H hn hs r1 r3 r4 hN
        obtain ⟨φ2, w2, a2, D2, m1, m2, m3, m4, m5, m6⟩ := ih tp' _ φ1 w1 _ _ (hl.set hjs) (by omega) k3 k1 hn (by rw [put_size]; exact hN)
        refine ⟨φ2, w2, a2, D2, m1, m2, k2.trans m3, m4.trans put_size, m5.trans put_defers, ?_⟩
        cases q with
        | none => exact ⟨m6.1, fun b t cs => by rw [hgo]; exact (k4 b t cs _).trans (m6.2 b t cs)⟩
        | some i =>
          obtain ⟨m6, L', fuel', tp2, m7, m8, m9⟩ := m6
          exact ⟨m6, L', fuel', tp2, m7, m8, fun b t cs => by rw [hgo]; exact (k4 b t cs _).trans (m9 b t cs)⟩
end
end I
end Go.Proofs.YtladkmnfmpojiaaGreatDoor
namespace Go.Proofs.YtladkmnfmpojiaaGreatDoor
namespace I
/-! ### What is looked at beforehand -/
noncomputable def flk (tt : T Ti) (o : Oper) : Bool := isPu tt o.op || isNw o.op || (match o.op with | .load _ _ => o.dst.isSome | _ => false)
noncomputable def Pl (tb : Tb) (ops : Array Oper) : (Nat → Prop) → List Stp → Prop
  | S, [] => ∀ j, j < ops.size → S j
  | S, .fl i :: l => (∃ o, ops[i]? = some o ∧ ¬ S i ∧ (∀ p, Bd o p → S p) ∧ flk tb.tt o = true) ∧ Pl tb ops (fun j => S j ∨ j = i) l
  | S, .ef i :: l => (∃ o, ops[i]? = some o ∧ ¬ S i ∧ (∀ p, Bd o p → S p) ∧ (∀ j, j < ops.size → ¬ S j → j ≠ i → Bf ops j i) ∧ ∀ j, (bfr ops.toList i).testBit j = true → Bf ops i j) ∧ Pl tb ops (fun j => S j ∨ j = i) l
def OkC (tb : Tb) (N : Nat) : Code → Prop
  | .region _ ops d => (∀ (i : Nat) (o : Oper), ops[i]? = some o → okO N o = true) ∧ (d = true → DOk N ops ∧ Pl tb ops (fun _ => False) (plan ops.toList))
  | .seq a b => OkC tb N a ∧ OkC tb N b
  | .cond _ a b => OkC tb N a ∧ OkC tb N b
  | .block _ a => OkC tb N a
  | .loop a => OkC tb N a
  | .scope a => OkC tb N a
  | _ => True
def FtS (P : Program) (w0 : World) (tb : Tb) : Prop := ∀ i e, T.get (pth i) tb.ft = some e →
  (∃ fn c, e = .fn fn ∧ P.funcs[i]? = some fn ∧ fn.name ≠ "runtime.NumGoroutine" ∧ fn.body = some c ∧ OkC tb fn.ntmps c) ∨ ∃ g, e = .own g ∧ Own P w0 i g

/-! ### Frames -/
inductive KR (tb : Tb) (N : Nat) : List It → List Item → Prop
  | nil : KR tb N [] []
  | cd {c : Code} {k : List It} {t : List Item} : OkC tb N c → KR tb N k t → KR tb N (.cd c :: k) (.code c :: t)
  | ib {i : Nat} {k : List It} {t : List Item} : KR tb N k t → KR tb N (.ib i :: k) (.inBlock i :: t)
  | il {c : Code} {k : List It} {t : List Item} : OkC tb N c → KR tb N k t → KR tb N (.il c :: k) (.inLoop c :: t)
  | sc {c : Code} {k : List It} {t : List Item} : KR tb N k t → KR tb N k (.inScope c :: t)
structure FB (P : Program) (b : Frame) (a : Act) (rs : List ResultVar) (N : Nat) : Prop where
  defers : a.defers = []
  kind : b.kind = .normal
  fn : ∃ fn, P.funcs[b.fn]? = some fn ∧ rs = fn.results.toList
  size : N ≤ a.tmps.size
inductive FrS (P : Program) (tb : Tb) (n : Nat) (φ : Ph) (W : I.W) (rs : List ResultVar) : List It → T V → Frame → Act → List Item → Prop
  | st {N : Nat} {k : List It} {t : List Item} {f : T V} {b : Frame} {a : Act} : FB P b a rs N → KR tb N k t → FR φ f a → FrS P tb n φ W rs k f b a t
  | rg {N : Nat} {k : List It} {t : List Item} {f : T V} {b : Frame} {a : Act} {ops : Array Oper} {j : Nat} : FB P b a rs N → KR tb N k t → FR φ f a → (∀ (i : Nat) (o : Oper), ops[i]? = some o → okO N o = true) →
      FrS P tb n φ W rs (.rg ops.toList (ops.toList.drop j) :: k) f b a (.inRegion ops (List.range' j (ops.size - j)) :: t)
  | lk {N : Nat} {k : List It} {t : List Item} {f : T V} {b : Frame} {a : Act} {ops : Array Oper} {i fuel tp : Nat} {L : Array Bool} {l : List Stp} {rc : List Rec} {S D : Nat → Prop} {V0 : Nat → V} {F0 : Nat → T V} {B0 : Nat → Option P4} :
      FB P b a rs N → KR tb N k t → DOk N ops → Pl tb ops S l → Lg ops L D → cnt L ≤ fuel → (look tb.tt W (bfr ops.toList i) rc = true → RI tb ops n φ W f a rc S D V0 F0 B0) →
      FrS P tb n φ W rs (.lk ops.toList i l rc :: k) f b a (.inRegion ops (Region.linearise.go .any ops fuel tp L []) :: t)
inductive SR (P : Program) (tb : Tb) (f0 : FuncId) (cs0 : List Frame) : Nat → Ph → I.W → FuncId → List Fr → List Frame → Prop
  | nil {n : Nat} {φ : Ph} {W : I.W} : SR P tb f0 cs0 n φ W f0 [] cs0
  | cons {n n' : Nat} {φ : Ph} {W : I.W} {g : FuncId} {d : Option Nat} {rs : List ResultVar} {k : List It} {f : T V} {c b : Frame} {st : List Fr} {cs : List Frame} : n' ≤ n →
      (∀ φ' W' v u, KpN n φ φ' W W' → VR φ' v u → ∃ a t, c.finish u = b.at a t ∧ FrS P tb n' φ' W' rs k (pd d f v) b a t) → SR P tb f0 cs0 n' φ W b.fn st cs → SR P tb f0 cs0 n φ W g (.mk d rs k f :: st) (c :: cs)
def RC (P : Program) (tb : Tb) (w0 : World) (f0 : FuncId) (cs0 : List Frame) : Cfg → Machine → Prop
  | .no, _ => True
  | .run rs k f W st, m => ∃ φ w n b a t cs, m = lone (b.at a t) cs w ∧ HR φ w0 W w ∧ nxt n W ∧ FrS P tb n φ W rs k f b a t ∧ SR P tb f0 cs0 n φ W b.fn st cs
  | .done v W, m => ∃ φ w fr u, m = lone fr cs0 w ∧ fr.fn = f0 ∧ fr.leaving P w (.returned u) ∧ VR φ v u ∧ HR φ w0 W w
section
variable {P : Program} {tb : Tb} {φ φ' : Ph} {w0 w : World} {W W' : I.W} {f f' : T V} {n N : Nat} {f0 : FuncId} {cs0 : List Frame}
theorem SR.mono {g : FuncId} {st : List Fr} {cs : List Frame} (h : SR P tb f0 cs0 n φ W g st cs) : ∀ {φ' : Ph} {W' : I.W}, KpN n φ φ' W W' → SR P tb f0 cs0 n φ' W' g st cs := by
  induction h with
  | nil => exact fun _ => .nil
  | cons h1 h2 _ ih => exact fun hk => .cons h1 (fun φ2 W2 v u hk2 hv => h2 φ2 W2 v u (hk.trans hk2) hv) (ih (hk.less h1))
theorem args_spec {L : List V} : ∀ (l : List V) (j : Nat) (f : T V), l = L.drop j → (∀ t u, T.get (pth t) f = some u → L[t]? = some u) → ∀ (k : T V → Cfg), ∃ f', (List.rec (motive := fun _ => P4 → T V → Cfg) (fun _ f => k f) (fun v _ go p f => T.setK p f v fun f => go p.succ f) l) (pth j) f = k f' ∧ ∀ t u, T.get (pth t) f' = some u → L[t]? = some u
  | [], j, f, _, hf, k => ⟨f, rfl, hf⟩
  | v :: l, j, f, hl, hf, k => by
    have hv : L[j]? = some v := by
      have : (L.drop j)[0]? = some v := by rw [← hl]; rfl
      simpa using this
    have hl' : l = L.drop (j + 1) := by
      rw [← List.drop_drop, ← hl]; rfl
    obtain ⟨f', h1, h2⟩ := args_spec l (j + 1) (T.put (pth j) f v) hl' (fun t u hu => by
      by_cases e : t = j
      · subst e
        rw [get_put_self] at hu
        injection hu with hu
        rw [← hu]; exact hv
      · rw [get_put_ne _ _ _ _ fun e2 => e (pth_inj e2)] at hu
        exact hf t u hu) k
    refine ⟨f', ?_, h2⟩
    show T.setK (pth j) f v (fun f => _) = _
    rw [setK_eq]
    exact h1
theorem args_ok (l : List V) (k : T V → Cfg) : ∃ f', args l k = k f' ∧ ∀ t u, T.get (pth t) f' = some u → l[t]? = some u :=
  args_spec (L := l) l 0 .l rfl (fun t u hu => by rw [get_l] at hu; cases hu) k
/-- A call begins. -/
theorem entr_sim (hft : FtS P w0 tb) {i : Nat} {fn : Func} {l : List V} {us : List Value} {d : Option Nat} {rs : List ResultVar} {kk : List It} {st : List Fr} {c b : Frame} {cs : List Frame} (hi : T.get (pth i) tb.ft = some (.fn fn)) (hl : All2 (VR φ) l us)
    (H : HR φ w0 W w) (hn : nxt n W) (hc : ∀ n1 φ' W' v u, n ≤ n1 → nxt n1 W → (∀ b, T.get b W.m ≠ none → b.num < n1) → KpN n1 φ φ' W W' → VR φ' v u → ∃ a t, c.finish u = b.at a t ∧ FrS P tb n φ' W' rs kk (pd d f v) b a t) (hs : SR P tb f0 cs0 n φ W b.fn st cs) :
    RC P tb w0 f0 cs0 (entr rs st kk d fn l f W) (lone (Frame.enter P i us.toArray .normal) (c :: cs) w) := by
  rcases hft _ _ hi with ⟨fn', code, e, h1, _, h3, h4⟩ | ⟨_, e, _⟩
  · injection e with e
    subst e
    obtain ⟨f2, k1, k2⟩ := args_ok l fun f2 => .run fn.results.toList [.cd code] f2 W (.mk d rs kk f :: st)
    have he : entr rs st kk d fn l f W = .run fn.results.toList [.cd code] f2 W (.mk d rs kk f :: st) := by
      unfold entr
      rw [h3]
      exact k1
    rw [he]
    obtain ⟨n1, m1, _, m3, m, m4⟩ := H.nxt
    have hle : n ≤ n1 := by
      obtain ⟨m', k', e1, e2⟩ := hn
      rw [m4] at e1
      injection e1 with _ e1
      have := pth_inj e1
      omega
    refine ⟨φ, w, n1, { (default : Frame) with fn := i, kind := .normal }, { tmps := us.toArray ++ Array.replicate (fn.ntmps - us.toArray.size) undef, defers := [] }, [.code code], c :: cs, ?_, H, m1, .st (N := fn.ntmps) ⟨rfl, rfl, ⟨fn, h1, rfl⟩, by simp; omega⟩ (.cd h4 .nil) (fun t u hu => ?_), .cons hle (fun φ' W' v u q1 q2 => hc n1 φ' W' v u hle m1 m3 q1 q2) hs⟩
    · congr 1
      simp [Frame.enter, Frame.at, h1, h3]
    · obtain ⟨x, e1, e2⟩ := hl.get t u (k2 t u hu)
      have hlt := (List.getElem?_eq_some_iff.1 e1).1
      have hx : us[t] = x := by rw [List.getElem?_eq_getElem hlt] at e1; injection e1
      have : (us.toArray ++ Array.replicate (fn.ntmps - us.toArray.size) undef).getD t undef = x := by
        rw [← hx]
        simp [Array.getD_eq_getD_getElem?, Array.getElem?_append_left (show t < us.toArray.size by simpa using hlt), hlt]
      rw [this]
      exact e2
  · cases e
/-- A function returns. -/
theorem leave_sim (htt : TtS P tb.tt) {rs : List ResultVar} {st : List Fr} {cs : List Frame} {b : Frame} {a : Act} {t : List Item} (hb : FB P b a rs N) (hf : FR φ f a) (H : HR φ w0 W w) (hn : nxt n W) (hs : SR P tb f0 cs0 n φ W b.fn st cs) :
    ∃ m', Steps P (lone { b.at a t with mode := .returning } cs w) m' ∧ RC P tb w0 f0 cs0 (leave tb rs f W st) m' := by
  obtain ⟨fn, hfn, rfl⟩ := hb.fn
  unfold leave
  cases e : resV tb.tt f W fn.results.toList with
  | none => exact ⟨_, .refl _ _, trivial⟩
  | some v =>
    obtain ⟨u, h1, h2⟩ := res_ok htt hf H e
    have hl : Frame.leaving P { b.at a t with mode := .returning } w (.returned u) := ⟨rfl, hb.defers, hb.kind, fn, hfn, h1⟩
    generalize hg : b.fn = g at hs
    cases hs with
    | nil => exact ⟨_, .refl _ _, φ, w, _, u, rfl, hg, hl, h2, H⟩
    | cons q1 q2 q3 =>
      rename_i d rs k f c b st cs
      obtain ⟨a2, t2, k1, k2⟩ := q2 φ W v u (.refl hn) h2
      refine ⟨_, .one (step_leave_returned hl), ?_⟩
      show RC P tb w0 f0 cs0 (putD d f v fun f => .run rs k f W st) _
      rw [putD_eq]
      exact ⟨φ, w, _, b, a2, t2, cs, by rw [k1], H, hn.less q1, k2, q3⟩
end
end I
end Go.Proofs.YtladkmnfmpojiaaGreatDoor
namespace Go.Proofs.YtladkmnfmpojiaaGreatDoor
namespace I
section
variable {P : Program} {tb : Tb} {φ φ' : Ph} {w0 w : World} {W W' : I.W} {f f' : T V} {n N : Nat} {f0 : FuncId} {cs0 : List Frame} {ops : Array Oper} {k : List It} {t : List Item} {rs : List ResultVar} {st : List Fr} {cs : List Frame} {b : Frame}
theorem FtS.one (h : FtS P w0 tb) : ∀ i e, T.get (pth i) tb.ft = some e → (∃ fn, e = .fn fn ∧ P.funcs[i]? = some fn ∧ fn.name ≠ "runtime.NumGoroutine" ∧ fn.body ≠ none) ∨ ∃ g, e = .own g ∧ Own P w0 i g := fun i e he =>
  (h i e he).imp (fun ⟨fn, c, h1, h2, h3, h4, _⟩ => ⟨fn, h1, h2, h3, by rw [h4]; simp⟩) id
theorem FB.put {a : Act} {d : Option Tmp} {u : Value} (h : FB P b a rs N) : FB P b (a.put d u) rs N := ⟨put_defers.trans h.defers, h.kind, h.fn, by rw [put_size]; exact h.size⟩
theorem runL_sim (htt : TtS P tb.tt) (hft : FtS P w0 tb) (hok : ∀ (i : Nat) (o : Oper), ops[i]? = some o → okO N o = true) (hK : KR tb N k t) : ∀ (m j : Nat), ops.size - j = m → ∀ (f : T V) (W : I.W) (φ : Ph) (w : World) (a : Act), HR φ w0 W w → nxt n W → FB P b a rs N → FR φ f a → SR P tb f0 cs0 n φ W b.fn st cs →
    ∃ m', Steps P (lone (b.at a (.inRegion ops (List.range' j (ops.size - j)) :: t)) cs w) m' ∧ RC P tb w0 f0 cs0 (runL tb ops.toList rs st k (ops.toList.drop j) f W) m' := by
  intro m
  induction m with
  | zero =>
    intro j hj f W φ w a H hn hb hf hs
    have h1 : ops.toList.drop j = [] := List.drop_eq_nil_of_le (by simp; omega)
    rw [h1, hj]
    exact ⟨_, .one step_region_end, φ, w, n, b, a, t, cs, rfl, H, hn, .st hb hK hf, hs⟩
  | succ m ih =>
    intro j hj f W φ w a H hn hb hf hs
    have hlt : j < ops.size := by omega
    have ho : ops[j]? = some ops[j] := Array.getElem?_eq_getElem hlt
    have h1 : ops.toList.drop j = ops[j] :: ops.toList.drop (j + 1) := by
      rw [List.drop_eq_getElem_cons (by simpa using hlt)]
      simp
    rw [h1, hj]
    have h2 : List.range' j (m + 1) = j :: List.range' (j + 1) (ops.size - (j + 1)) := by
      rw [show ops.size - (j + 1) = m by omega]; rfl
    rw [h2]
    have hsz : ∀ x, (ops[j]).dst = some x → x < a.tmps.size := fun x hx => Nat.lt_of_lt_of_le (okO_dst (hok j _ ho) hx) hb.size
    show ∃ m', Steps P _ m' ∧ RC P tb w0 f0 cs0 (stp tb ops.toList ops[j] f W (entr rs st (.rg ops.toList (ops.toList.drop (j + 1)) :: k)) (runL tb ops.toList rs st k (ops.toList.drop (j + 1)))) m'
    rcases stp_sim (b := b) (rest := List.range' (j + 1) (ops.size - (j + 1))) (t := t) (cs := cs) (h := entr rs st (.rg ops.toList (ops.toList.drop (j + 1)) :: k)) (c := runL tb ops.toList rs st k (ops.toList.drop (j + 1))) htt hft.one ho (hok j _ ho) H (hf.rd H) (fun _ _ _ d _ u hu => hf d u hu) with
      h3 | ⟨v, W1, φ1, u, w1, h3, h4, h5, h6, h7⟩ | ⟨i, fn, l, us, h3, h4, h5, h6⟩
    · rw [h3]; exact ⟨_, .refl _ _, trivial⟩
    · rw [h3]
      obtain ⟨m', k1, k2⟩ := ih (j + 1) (by omega) (pd (ops[j]).dst f v) W1 φ1 w1 (a.put (ops[j]).dst u) h5 (KpN.of h6 H hn).nx hb.put ((hf.mono (h6.le H)).put h4 hsz) (hs.mono (.of h6 H hn))
      exact ⟨m', h7.trans k1, k2⟩
    · rw [h3]
      refine ⟨_, h6, entr_sim hft h4 h5 H hn (fun n1 φ' W' v u _ _ _ q1 q2 => ⟨a.put (ops[j]).dst u, _, finish_at ho u, ?_⟩) hs⟩
      exact .rg hb.put hK ((hf.mono q1.le).put q2 hsz) hok

/-! ### Drawn -/
theorem note_any {i : Nat} {o : Oper} {rc : List Rec} {c : List Rec → Cfg} : ∃ rc', note f i o f' rc c = c rc' ∧ ∀ x, x ∈ rc → x ∈ rc' := by
  unfold note
  generalize isLd o.op = q
  cases q with
  | none => exact ⟨rc, rfl, fun _ h => h⟩
  | some p =>
    obtain ⟨ty, x⟩ := p
    dsimp only
    generalize ev f x = q2
    generalize o.dst = q3
    cases q2 with
    | none => exact ⟨rc, rfl, fun _ h => h⟩
    | some a =>
      cases q3 with
      | none => exact ⟨rc, rfl, fun _ h => h⟩
      | some d =>
        dsimp only
        generalize T.get (pth d) f' = q4
        cases q4 with
        | none => exact ⟨rc, rfl, fun _ h => h⟩
        | some v =>
          cases v with
          | c x => exact ⟨_, rfl, fun _ h => List.mem_cons_of_mem _ h⟩
          | g x => exact ⟨_, rfl, fun _ h => List.mem_cons_of_mem _ h⟩
          | un => exact ⟨rc, rfl, fun _ h => h⟩
          | k _ _ => exact ⟨rc, rfl, fun _ h => h⟩
theorem note_ld {i : Nat} {o : Oper} {rc : List Rec} {c : List Rec → Cfg} {ty : TypeId} {x : Operand} {a v : V} {d : Nat} (h1 : o.op = .load ty x) (h2 : ev f x = some a) (h3 : o.dst = some d) (h4 : T.get (pth d) f' = some v) (h5 : (∃ y, v = .c y) ∨ ∃ r, v = .g r) :
    note f i o f' rc c = c ((i, ty, a, v) :: rc) := by
  unfold note
  rw [h1]
  show Option.rec (motive := fun _ => Cfg) (c rc) (fun a => Option.rec (motive := fun _ => Cfg) (c rc) (fun d => Option.rec (motive := fun _ => Cfg) (c rc) (fun v => V.rec (motive := fun _ => Cfg) (fun x => c ((i, ty, a, .c x) :: rc)) (fun r => c ((i, ty, a, .g r) :: rc)) (c rc) (fun _ _ _ _ => c rc) v) (T.get (pth d) f')) o.dst) (ev f x) = _
  rw [h2, h3]
  dsimp only
  rw [h4]
  rcases h5 with ⟨y, rfl⟩ | ⟨r, rfl⟩ <;> rfl
theorem ldv_form {ty : TypeId} {a v : V} (h : ldv tb.tt ty W a = some v) : (∃ y, v = .c y) ∨ ∃ r, v = .g r := by
  obtain ⟨ag, sz, z, k, c, _, h2⟩ := ti_inv h
  cases ag with
  | true =>
    obtain ⟨b, o, _, h3⟩ := addr_inv (show V.addr a (fun b o => I.W.blk W b fun r _ _ => ob (r.sub o sz) fun x => some (V.g x)) = some v from h2)
    obtain ⟨r, tok, ro, _, h4⟩ := blk_inv (f := fun r _ _ => ob (r.sub o sz) fun x => some (V.g x)) h3
    obtain ⟨x, _, h5⟩ := ob_inv h4
    cases h5
    exact .inr ⟨_, rfl⟩
  | false =>
    obtain ⟨b, o, _, h3⟩ := addr_inv (show V.addr a (fun b o => I.W.blk W b fun r _ _ => ob (r.get o) fun x => some (V.c x)) = some v from h2)
    obtain ⟨r, tok, ro, _, h4⟩ := blk_inv (f := fun r _ _ => ob (r.get o) fun x => some (V.c x)) h3
    obtain ⟨x, _, h5⟩ := ob_inv h4
    cases h5
    exact .inl ⟨_, rfl⟩
theorem ldv_keep {ty : TypeId} {a v : V} (h : ldv tb.tt ty W a = some v) (hW : ∀ b, T.get b W.m ≠ none → T.get b W'.m = T.get b W.m) : ldv tb.tt ty W' a = some v := by
  obtain ⟨ag, sz, z, k, c, h1, h2⟩ := ti_inv h
  have key : ite' ag (W'.ldn a sz) (W'.ld1 a) = some v := by
    cases ag with
    | true =>
      obtain ⟨b, o, rfl, h3⟩ := addr_inv (show V.addr a (fun b o => I.W.blk W b fun r _ _ => ob (r.sub o sz) fun x => some (V.g x)) = some v from h2)
      obtain ⟨r, tok, ro, h5, h4⟩ := blk_inv (f := fun r _ _ => ob (r.sub o sz) fun x => some (V.g x)) h3
      show ob (T.get b W'.m) _ = _
      rw [hW b (by rw [h5]; simp), h5]
      exact h4
    | false =>
      obtain ⟨b, o, rfl, h3⟩ := addr_inv (show V.addr a (fun b o => I.W.blk W b fun r _ _ => ob (r.get o) fun x => some (V.c x)) = some v from h2)
      obtain ⟨r, tok, ro, h5, h4⟩ := blk_inv (f := fun r _ _ => ob (r.get o) fun x => some (V.c x)) h3
      show ob (T.get b W'.m) _ = _
      rw [hW b (by rw [h5]; simp), h5]
      exact h4
  show ob (T.get (pth ty) tb.tt) _ = _
  rw [h1]
  exact key
theorem look_ok {m : Nat} : ∀ {rc : List Rec}, look tb.tt W m rc = true → ∀ j ty a v, (j, ty, a, v) ∈ rc → m.testBit j = false → ldv tb.tt ty W a = some v
  | [], _, _, _, _, _, h, _ => by cases h
  | (i, t2, a2, v2) :: rc, h, j, ty, a, v, hm, hj => by
    have h : ite' (Nat.testBit m i) (look tb.tt W m rc) (Option.rec (motive := fun _ => Bool) false (fun v => ite' (v2.same v) (look tb.tt W m rc) false) (ldv tb.tt t2 W a2)) = true := h
    have hrc : look tb.tt W m rc = true := by
      cases e : Nat.testBit m i with
      | true => rw [e] at h; exact h
      | false =>
        rw [e] at h
        cases e2 : ldv tb.tt t2 W a2 with
        | none => rw [e2] at h; cases h
        | some y =>
          rw [e2] at h
          have h : ite' (v2.same y) (look tb.tt W m rc) false = true := h
          cases e3 : v2.same y with
          | true => rw [e3] at h; exact h
          | false => rw [e3] at h; cases h
    rcases List.mem_cons.1 hm with e | e
    · injection e with e1 e; injection e with e2 e; injection e with e3 e4
      subst e1; subst e2; subst e3; subst e4
      rw [hj] at h
      cases e2 : ldv tb.tt ty W a with
      | none => rw [e2] at h; cases h
      | some y =>
        rw [e2] at h
        have h : ite' (v.same y) (look tb.tt W m rc) false = true := h
        cases e3 : v.same y with
        | true => rw [V.same_eq e3]
        | false => rw [e3] at h; cases h
    · exact look_ok hrc j ty a v e hj
end
end I
end Go.Proofs.YtladkmnfmpojiaaGreatDoor
namespace Go.Proofs.YtladkmnfmpojiaaGreatDoor
namespace I
section
variable {P : Program} {tb : Tb} {φ φ' : Ph} {w0 w : World} {W W' : I.W} {f f' : T V} {n N : Nat} {f0 : FuncId} {cs0 : List Frame} {ops : Array Oper} {k : List It} {t : List Item} {rs : List ResultVar} {st : List Fr} {cs : List Frame} {b : Frame}
/-- A block that the model does not know. -/
theorem HR.pend {m : T Blk} {q : Nat} (h : HR φ w0 (.mk m (pth q)) w) (x : Blk) : HR φ w0 (.mk (T.put (pth q) m x) (pth (q + 1))) w := by
  obtain ⟨h1, h2, h3, h4, h5, h6, h7, h8⟩ := h
  obtain ⟨m', q', e, a1, a2⟩ := h2
  injection e with e1 e2
  have e2 := pth_inj e2
  subst e1; subst e2
  have ne : ∀ b y, φ b = some y → b ≠ pth q := fun b y hb e => by
    have := a1 b (by rw [hb]; simp)
    rw [e, num_pth] at this; omega
  have key : ∀ b y, φ b = some y → T.get b (T.put (pth q) m x) = T.get b m := fun b y hb => get_put_ne _ _ _ _ (ne b y hb)
  refine ⟨h1, ⟨_, _, rfl, fun b hb => Nat.lt_succ_of_lt (a1 b hb), fun b hb => ?_⟩, h3, h4, ?_, ?_, ?_, ?_⟩
  · by_cases e : b = pth q
    · rw [e, num_pth]; omega
    · rw [get_put_ne _ _ _ _ e] at hb; exact Nat.lt_succ_of_lt (a2 b hb)
  · intro b g o t r tok ro hb hk
    exact h5 b g o t r tok ro hb ((key b _ hb).symm.trans hk)
  · intro b g o t r tok hb hk
    exact h6 b g o t r tok hb ((key b _ hb).symm.trans hk)
  · intro b b' g o o' t t' r r' tok tok' hne hb hb' hk hk'
    exact h7 b b' g o o' t t' r r' tok tok' hne hb hb' ((key b _ hb).symm.trans hk) ((key b' _ hb').symm.trans hk')
  · intro b g o t r tok hb hk
    exact h8 b g o t r tok hb ((key b _ hb).symm.trans hk)
theorem flk_cl {tt : T Ti} {o : Oper} {p : Nat × List V} (h : flk tt o = true) (hc : cl1 o.op f = some p) : False := by
  obtain ⟨d, op, ty, ps, af, g⟩ := o
  cases op with
  | call c =>
    obtain ⟨cal, as, ats⟩ := c
    obtain ⟨l, h1, h2⟩ := ob_inv hc
    cases cal with
    | value x => simp [flk, isPu, isNw] at h
    | _ => cases h2
  | _ => cases hc
theorem flk_ld {tt : T Ti} {o : Oper} (h : flk tt o = true) : isPu tt o.op = true ∨ isNw o.op = true ∨ ∃ t x d, o.op = .load t x ∧ o.dst = some d := by
  simp only [flk, Bool.or_eq_true] at h
  rcases h with (h | h) | h
  · exact .inl h
  · exact .inr (.inl h)
  · obtain ⟨d, op, ty, ps, af, g⟩ := o
    cases op with
    | load t x =>
      cases d with
      | none => cases h
      | some d => exact .inr (.inr ⟨t, x, d, rfl, rfl⟩)
    | _ => cases h
theorem runD_sim (htt : TtS P tb.tt) (hft : FtS P w0 tb) (hk : DOk N ops) (hK : KR tb N k t) : ∀ (l : List Stp) (rc : List Rec) (S : Nat → Prop) (V0 : Nat → V) (F0 : Nat → T V) (B0 : Nat → Option P4) (f : T V) (W : I.W) (φ : Ph) (w : World) (a : Act) (D : Nat → Prop) (L : Array Bool) (fuel tp : Nat),
    Pl tb ops S l → RI tb ops n φ W f a rc S D V0 F0 B0 → Lg ops L D → cnt L ≤ fuel → HR φ w0 W w → nxt n W → FB P b a rs N → SR P tb f0 cs0 n φ W b.fn st cs →
    ∃ m', Steps P (lone (b.at a (.inRegion ops (Region.linearise.go .any ops fuel tp L []) :: t)) cs w) m' ∧ RC P tb w0 f0 cs0 (runD tb ops.toList rs st k l rc f W) m' := by
  intro l
  induction l with
  | nil =>
    intro rc S V0 F0 B0 f W φ w a D L fuel tp hpl h hl hc H hn hb hs
    obtain ⟨φ1, w1, a1, D1, h1, H1, hkp, hsz, hdf, hall, hst⟩ := catch_up htt hk none hpl fuel tp L φ w a D hl hc h H hn hb.size
    exact ⟨_, (hst b t cs).trans (.one step_region_end), φ1, w1, n, b, a1, t, cs, rfl, H1, hn, .st ⟨hdf.trans hb.defers, hb.kind, hb.fn, by rw [hsz]; exact hb.size⟩ hK
      (fun t u hu => (h1.c t u hu).2.resolve_left fun ⟨j, o, q1, q2, _⟩ => q2 (hall j q1)), hs.mono hkp⟩
  | cons s l ih =>
    intro rc S V0 F0 B0 f W φ w a D L fuel tp hpl h hl hc H hn hb hs
    cases s with
    | fl i =>
      obtain ⟨⟨o, ho, hsi, he, hfk⟩, hpl⟩ := hpl
      have hnth : nth ops.toList i = some o := by rw [nth_eq, Array.getElem?_toList, ho]
      show ∃ m', Steps P _ m' ∧ RC P tb w0 f0 cs0 (Option.rec (motive := fun _ => Cfg) .no (fun o => stp tb ops.toList o f W (fun _ _ _ _ _ => .no) fun f' w => note f i o f' rc fun rc => runD tb ops.toList rs st k l rc f' w) (nth ops.toList i)) m'
      rw [hnth]
      dsimp only
      have fin : ∀ (v : V) (W' : I.W) (B : Option P4) (rc' : List Rec), Pr tb ops n φ W' rc' B i o f v → (∀ b, T.get b W.m ≠ none → T.get b W'.m = T.get b W.m) → (∀ x, x ∈ rc → x ∈ rc') → (∀ b, B = some b → φ b = none ∧ T.get b W'.m ≠ none ∧ T.get b W.m = none) →
          HR φ w0 W' w → KpN n φ φ W W' → ∃ m', Steps P (lone (b.at a (.inRegion ops (Region.linearise.go .any ops fuel tp L []) :: t)) cs w) m' ∧ RC P tb w0 f0 cs0 (runD tb ops.toList rs st k l rc' (pd o.dst f v) W') m' := fun v W' B rc' hp hW hr hB H' hkp =>
        ih rc' _ _ _ _ _ W' φ w a D L fuel tp hpl (h.flt hk hsi ho he hp hW (fun t x v hx => ldv_keep hx hW) hr hB) hl hc H' hkp.nx hb (hs.mono hkp)
      have hkr := KpN.refl (φ := φ) hn
      rcases stp_inv (tb := tb) (l := ops.toList) (o := o) (f := f) (W := W) (h := fun _ _ _ _ _ => .no) (c := fun f' w => note f i o f' rc fun rc => runD tb ops.toList rs st k l rc f' w) with h1 | ⟨h1, h2⟩ | ⟨h1, h2⟩
      · rw [h1]; exact ⟨_, .refl _ _, trivial⟩
      · rw [h2]
        obtain ⟨rc', e, hr⟩ := note_any (f := f) (i := i) (o := o) (f' := pd o.dst f .un) (rc := rc) (c := fun rc => runD tb ops.toList rs st k l rc (pd o.dst f .un) W)
        rw [e]
        exact fin .un W none rc' (.skip h1 rfl) (fun _ _ => rfl) hr (fun b e => by cases e) H hkr
      · rw [h2]
        rcases stp2_inv (tb := tb) (o := o) (f := f) (W := W) (h := fun _ _ _ _ _ => .no) (c := fun f' w => note f i o f' rc fun rc => runD tb ops.toList rs st k l rc f' w) with h3 | ⟨v, W', h3, h4⟩ | ⟨_, _, _, h3, _, _⟩
        · rw [h3]; exact ⟨_, .refl _ _, trivial⟩
        · rw [h4]
          rcases flk_ld hfk with q | q | ⟨ty, x, d, q1, q2⟩
          · obtain ⟨e, _⟩ := pu_ok q h3
            subst e
            obtain ⟨rc', e, hr⟩ := note_any (f := f) (i := i) (o := o) (f' := pd o.dst f v) (rc := rc) (c := fun rc => runD tb ops.toList rs st k l rc (pd o.dst f v) W')
            rw [e]
            exact fin v W' none rc' (.pure h1 q h3) (fun _ _ => rfl) hr (fun b e => by cases e) H hkr
          · obtain ⟨d, op, ty, ps, af, g⟩ := o
            obtain ⟨r, mk, e1, _⟩ := nw_ok (d := d) (ps := ps) (af := af) (g := g) htt q (okO_fits (hk.ok _ _ ho)) h3
            obtain ⟨m, kq, rfl, a1, a2⟩ := H.x
            have hkn : n ≤ kq := by
              obtain ⟨_, k', e, e2⟩ := hn
              injection e with _ e
              have := pth_inj e
              omega
            have hnone : T.get (pth kq) m = none := by
              cases e : T.get (pth kq) m with
              | none => rfl
              | some x => have := a2 (pth kq) (by rw [e]; simp); rw [num_pth] at this; omega
            have hnφ : φ (pth kq) = none := by
              cases e : φ (pth kq) with
              | none => rfl
              | some x => have := a1 (pth kq) (by rw [e]; simp); rw [num_pth] at this; omega
            have h3' : opr op tb.tt ty f (.mk m (pth kq)) = .ok v W' := h3
            rw [e1, wnew_eq] at h3'
            injection h3' with e2 e3
            subst e2; subst e3
            obtain ⟨rc', e, hr⟩ := note_any (f := f) (i := i) (o := ⟨d, op, ty, ps, af, g⟩) (f' := pd d f (mk (pth kq))) (rc := rc) (c := fun rc => runD tb ops.toList rs st k l rc (pd d f (mk (pth kq))) (.mk (T.put (pth kq) m (.mk r true false)) (pth (kq + 1))))
            rw [e]
            refine fin _ _ (some (pth kq)) rc' (.new r mk (pth kq) h1 q e1 rfl (get_put_self _ _ _) hnφ (by rw [num_pth]; exact hkn) rfl) (fun b hb => get_put_ne _ _ _ _ fun e => ?_) hr (fun b e => ?_) (H.pend _) ⟨⟨_, _, rfl, by omega⟩, fun _ _ => rfl, le_refl φ, fun b hb _ => get_put_ne _ _ _ _ fun e => ?_⟩
            · subst e; exact hb hnone
            · injection e with e
              subst e
              exact ⟨hnφ, by show T.get _ (T.put _ _ _) ≠ none; rw [get_put_self]; simp, hnone⟩
            · subst e; rw [num_pth] at hb; omega
          · rw [q1] at h3
            obtain ⟨e, ad, e1, e2⟩ := ld_inv h3
            subst e
            have hg : T.get (pth d) (pd o.dst f v) = some v := by rw [q2]; exact get_put_self _ _ _
            rw [note_ld q1 e1 q2 hg (ldv_form e2)]
            exact fin v W' none _ (.load ty x ad h1 q1 e1 e2 (List.mem_cons_self ..)) (fun _ _ => rfl) (fun _ h => List.mem_cons_of_mem _ h) (fun b e => by cases e) H hkr
        · exact (flk_cl hfk h3).elim
    | ef i =>
      obtain ⟨⟨o, ho, hsi, he, hbf, hbit⟩, hpl⟩ := hpl
      have hnth : nth ops.toList i = some o := by rw [nth_eq, Array.getElem?_toList, ho]
      show ∃ m', Steps P _ m' ∧ RC P tb w0 f0 cs0 (Option.rec (motive := fun _ => Cfg) .no (fun o => stp tb ops.toList o f W (entr rs st (.lk ops.toList i l rc :: k)) fun f w => ite' (look tb.tt w (bfr ops.toList i) rc) (runD tb ops.toList rs st k l rc f w) .no) (nth ops.toList i)) m'
      rw [hnth]
      dsimp only
      obtain ⟨φ1, w1, a1, D1, h1, H1, hkp, hsz, hdf, hed, L1, fuel1, tp1, hl1, hc1, hst⟩ := catch_up htt hk (some i) ⟨hsi, o, ho, he, hbf⟩ fuel tp L φ w a D hl hc h H hn hb.size
      have hed := hed o ho
      have hb1 : FB P b a1 rs N := ⟨hdf.trans hb.defers, hb.kind, hb.fn, by rw [hsz]; exact hb.size⟩
      have hs1 := hs.mono hkp
      have nm := h1.look2 hk hsi ho hed
      -- what was loaded and has still to be loaded
      have hpend : ∀ j, S j → ¬ D1 j → (bfr ops.toList i).testBit j = false := fun j q1 q2 => by
        cases e : (bfr ops.toList i).testBit j with
        | false => rfl
        | true => exact absurd ((hbit j e).in' h1.dc ho hed) q2
      have after : ∀ (φ2 : Ph) (W2 : I.W) (v : V) (u : Value) (n1 : Nat), KpN n1 φ1 φ2 W W2 → (∀ b, T.get b W.m ≠ none → b.num < n1) → VR φ2 v u → look tb.tt W2 (bfr ops.toList i) rc = true →
          RI tb ops n φ2 W2 (pd o.dst f v) (a1.put o.dst u) rc (fun j => S j ∨ j = i) (fun j => D1 j ∨ j = i) V0 F0 B0 := fun φ2 W2 v u n1 q1 q2 q3 q4 => by
        refine (h1.mono q1.le (fun j x s1 s2 s3 => ?_) (fun j ty x s1 s2 s3 _ => look_ok q4 j ty x _ s3 (hpend j s1 s2))).both hk hsi ho hed q3 hb1.size
        obtain ⟨r1, r2⟩ := h1.pb j x s1 s2 s3
        have := q2 x r2
        exact ⟨(q1.same x this).trans r1, q1.old x this r1⟩
      rcases stp_sim (b := b) (rest := Region.linearise.go .any ops fuel1 tp1 L1 []) (t := t) (cs := cs) (h := entr rs st (.lk ops.toList i l rc :: k)) (c := fun f w => ite' (look tb.tt w (bfr ops.toList i) rc) (runD tb ops.toList rs st k l rc f w) .no) htt hft.one ho (hk.ok i _ ho) H1 (nm.rd H1) nm.gd with
        h3 | ⟨v, W2, φ2, u, w2, h3, h4, h5, h6, h7⟩ | ⟨i2, fn, vs, us, h3, h4, h5, h6⟩
      · rw [h3]; exact ⟨_, .refl _ _, trivial⟩
      · rw [h3]
        cases e : look tb.tt W2 (bfr ops.toList i) rc with
        | false => exact ⟨_, .refl _ _, trivial⟩
        | true =>
          obtain ⟨n1, m1, _, m3, _⟩ := H1.nxt
          have hri := after φ2 W2 v u n1 (.of h6 H1 m1) m3 h4 e
          have hkp2 := KpN.of h6 H1 hn
          obtain ⟨m', k1, k2⟩ := ih rc _ _ _ _ _ W2 φ2 w2 _ _ L1 fuel1 tp1 hpl hri hl1 hc1 h5 hkp2.nx hb1.put (hs1.mono hkp2)
          exact ⟨m', ((hst b t cs).trans h7).trans k1, k2⟩
      · rw [h3]
        refine ⟨_, (hst b t cs).trans h6, entr_sim hft h4 h5 H1 hn (fun n1 φ2 W2 v u _ _ q2 q3 q4 => ⟨a1.put o.dst u, _, finish_at ho u, ?_⟩) hs1⟩
        exact .lk hb1.put hK hk hpl hl1 hc1 (after φ2 W2 v u n1 q3 q2 q4)
end
end I
end Go.Proofs.YtladkmnfmpojiaaGreatDoor
namespace Go.Proofs.YtladkmnfmpojiaaGreatDoor
namespace I
section
variable {P : Program} {tb : Tb} {φ φ' : Ph} {w0 w : World} {W W' : I.W} {f f' : T V} {n N : Nat} {f0 : FuncId} {cs0 : List Frame} {k : List It} {t : List Item} {rs : List ResultVar} {st : List Fr} {cs : List Frame} {b : Frame} {a : Act}
theorem step_inScope {c : Code} : step P (lone (b.at a (.inScope c :: t)) cs w) = .next (lone (b.at a t) cs w) := step_lone_go (by simp [stepG, stepG.exec, Frame.at])
theorem step_scope {c : Code} : step P (lone (b.at a (.code (.scope c) :: t)) cs w) = .next (lone (b.at a (.code c :: .inScope c :: t)) cs w) := step_lone_go (by simp [stepG, stepG.exec, Frame.at])
theorem exit_sim {i : Nat} {c : List It → Cfg} (h : KR tb N k t) : I.exitTo i k c = .no ∨ ∃ k' t', I.exitTo i k c = c k' ∧ Go.exitTo i t = some t' ∧ KR tb N k' t' := by
  induction h with
  | nil => exact .inl rfl
  | cd _ _ ih => exact ih
  | il _ _ ih => exact ih
  | sc _ ih => exact ih
  | ib h ih =>
    rename_i j k t
    show ite' (Nat.beq j i) (c k) (I.exitTo i k c) = .no ∨ ∃ k' t', ite' (Nat.beq j i) (c k) (I.exitTo i k c) = c k' ∧ (if j == i then some t else Go.exitTo i t) = some t' ∧ KR tb N k' t'
    cases e : Nat.beq j i with
    | true =>
      have := Nat.eq_of_beq_eq_true e
      subst this
      exact .inr ⟨k, t, rfl, by simp, h⟩
    | false =>
      have hne : (j == i) = false := by
        have : j ≠ i := fun e2 => by subst e2; rw [Nat.beq_refl] at e; cases e
        simpa using this
      rw [hne]
      exact ih
theorem RI.start {ops : Array Oper} (hf : FR φ f a) : RI tb ops n φ W f a [] (fun _ => False) (fun _ => False) (fun _ => .un) (fun _ => .l) (fun _ => none) :=
  ⟨fun _ h => h, fun _ h => h.elim, fun _ _ _ h => h.elim, fun _ _ _ h => h.elim, fun _ _ h => h.elim, fun t u hu => ⟨fun _ _ h => h.elim, .inr (hf t u hu)⟩, fun _ _ _ _ h => h.elim, fun _ _ _ h => h.elim, fun _ _ h => h.elim⟩
theorem cnt_start (m : Nat) : cnt (Array.replicate m false) ≤ m := by
  simp [cnt]
theorem stepC_sim (hm : P.follows .mixedOrders = true) (htt : TtS P tb.tt) (hft : FtS P w0 tb) {c : Code} (hc : OkC tb N c) (hK : KR tb N k t) (H : HR φ w0 W w) (hn : nxt n W) (hb : FB P b a rs N) (hf : FR φ f a) (hs : SR P tb f0 cs0 n φ W b.fn st cs) :
    ∃ m', Steps P (lone (b.at a (.code c :: t)) cs w) m' ∧ RC P tb w0 f0 cs0 (stepC tb c rs k f W st) m' := by
  have go : ∀ {k' : List It} {t' : List Item} {m : Machine}, KR tb N k' t' → step P m = .next (lone (b.at a t') cs w) → ∃ m', Steps P m m' ∧ RC P tb w0 f0 cs0 (.run rs k' f W st) m' := fun hK' hst =>
    ⟨_, .one hst, φ, w, n, b, a, _, cs, rfl, H, hn, .st hb hK' hf, hs⟩
  cases c with
  | skip => exact go hK step_skip
  | label l => exact go hK step_label
  | seq x y => exact go (.cd hc.1 (.cd hc.2 hK)) step_seq
  | block i x => exact go (.cd hc (.ib hK)) step_block
  | loop x => exact go (.cd hc (.il hc hK)) step_loop
  | scope x => exact go (.cd hc (.sc hK)) step_scope
  | rangeFunc _ _ _ _ => exact ⟨_, .refl _ _, trivial⟩
  | goto _ => exact ⟨_, .refl _ _, trivial⟩
  | refuse _ => exact ⟨_, .refl _ _, trivial⟩
  | ret =>
    obtain ⟨m', h1, h2⟩ := leave_sim (t := .code .ret :: t) htt hb hf H hn hs
    exact ⟨m', .head step_ret h1, h2⟩
  | exit i =>
    rcases exit_sim (i := i) (c := fun k => .run rs k f W st) hK with h1 | ⟨k', t', h1, h2, h3⟩
    · show ∃ m', Steps P _ m' ∧ RC P tb w0 f0 cs0 (I.exitTo i k fun k => .run rs k f W st) m'
      rw [h1]; exact ⟨_, .refl _ _, trivial⟩
    · show ∃ m', Steps P _ m' ∧ RC P tb w0 f0 cs0 (I.exitTo i k fun k => .run rs k f W st) m'
      rw [h1]; exact go h3 (step_exit h2)
  | cond x y z =>
    show ∃ m', Steps P _ m' ∧ RC P tb w0 f0 cs0 (Option.rec (motive := fun _ => Cfg) .no (fun v => v.nC (fun x => x.nB (fun q => ite' q (.run rs (.cd y :: k) f W st) (.run rs (.cd z :: k) f W st)) .no) .no) (ev f x)) m'
    cases e : ev f x with
    | none => exact ⟨_, .refl _ _, trivial⟩
    | some v =>
      have hv : VR φ v (a.eval x) := ev_ok H.gl (fun t _ => hf t) v e
      cases v with
      | c q =>
        cases q with
        | b q =>
          have hx : a.eval x = .bool q := hv
          have hst := step_cond (P := P) (b := b) (a := a) (k := t) (cs := cs) (w := w) (x := y) (y := z) hx
          cases q with
          | true => exact go (.cd hc.1 hK) hst
          | false => exact go (.cd hc.2 hK) hst
        | _ => exact ⟨_, .refl _ _, trivial⟩
      | _ => exact ⟨_, .refl _ _, trivial⟩
  | region i ops d =>
    cases d with
    | false =>
      obtain ⟨m', h1, h2⟩ := runL_sim (t := t) (n := n) (f0 := f0) (cs0 := cs0) (st := st) (cs := cs) (k := k) htt hft hc.1 hK _ 0 rfl f W φ w a H hn hb hf hs
      refine ⟨m', .head step_region ?_, h2⟩
      rw [List.range_eq_range']
      exact h1
    | true =>
      obtain ⟨h1, h2⟩ := hc.2 rfl
      have H' : HR φ w0 W { w with drawn := w.drawn + 1 } := H.more rfl rfl rfl (Nat.le_refl _) fun _ _ => rfl
      obtain ⟨m', k1, k2⟩ := runD_sim (t := t) (n := n) (f0 := f0) (cs0 := cs0) (st := st) (cs := cs) (k := k) htt hft h1 hK (plan ops.toList) [] _ _ _ _ f W φ { w with drawn := w.drawn + 1 } a _ _ ops.size (w.tape w.drawn (.order b.fn i)) h2 (RI.start hf) Lg.start (cnt_start _) H' hn hb hs
      refine ⟨m', .head step_region_draw ?_, k2⟩
      simp only [Region.schedule, hm, Bool.true_or, if_true]
      exact k1
theorem stepK_sim (hm : P.follows .mixedOrders = true) (htt : TtS P tb.tt) (hft : FtS P w0 tb) (H : HR φ w0 W w) (hn : nxt n W) (hF : FrS P tb n φ W rs k f b a t) (hs : SR P tb f0 cs0 n φ W b.fn st cs) :
    ∃ m', Steps P (lone (b.at a t) cs w) m' ∧ RC P tb w0 f0 cs0 (stepK tb rs k f W st) m' := by
  cases hF with
  | st hb hK hf =>
    induction hK with
    | nil =>
      obtain ⟨m', h1, h2⟩ := leave_sim (t := []) htt hb hf H hn hs
      exact ⟨m', .head step_end h1, h2⟩
    | cd h1 h2 _ => exact stepC_sim hm htt hft h1 h2 H hn hb hf hs
    | ib h1 _ => exact ⟨_, .one step_inBlock, φ, w, n, b, a, _, cs, rfl, H, hn, .st hb h1 hf, hs⟩
    | il h1 h2 _ => exact ⟨_, .one step_inLoop, φ, w, n, b, a, _, cs, rfl, H, hn, .st hb (.cd h1 (.il h1 h2)) hf, hs⟩
    | sc _ ih =>
      obtain ⟨m', h1, h2⟩ := ih
      exact ⟨m', .head step_inScope h1, h2⟩
  | rg hb hK hf hok => exact runL_sim htt hft hok hK _ _ rfl _ W φ w a H hn hb hf hs
  | lk hb hK hk hpl hl hc hri =>
    rename_i t k ops i fuel tp L l rc S D V0 F0 B0
    show ∃ m', Steps P _ m' ∧ RC P tb w0 f0 cs0 (ite' (look tb.tt W (bfr ops.toList i) rc) (runD tb ops.toList rs st t l rc f W) .no) m'
    cases e : look tb.tt W (bfr ops.toList i) rc with
    | false => exact ⟨_, .refl _ _, trivial⟩
    | true => exact runD_sim htt hft hk hK l rc _ _ _ _ f W φ w a _ L fuel tp hpl (hri e) hl hc H hn hb hs
theorem runq_sim (hm : P.follows .mixedOrders = true) (htt : TtS P tb.tt) (hft : FtS P w0 tb) : ∀ (q : Nat) (c : Cfg) (m : Machine), RC P tb w0 f0 cs0 c m → ∃ m', Steps P m m' ∧ RC P tb w0 f0 cs0 (runq tb q c) m'
  | 0, _, m, h => ⟨m, .refl _ _, h⟩
  | q + 1, c, m, h => by
    cases c with
    | no => exact ⟨m, .refl _ _, trivial⟩
    | done v w => exact ⟨m, .refl _ _, h⟩
    | run rs k f W st =>
      obtain ⟨φ, w, n, b, a, t, cs, rfl, H, hn, hF, hs⟩ := h
      obtain ⟨m', h1, h2⟩ := stepK_sim hm htt hft H hn hF hs
      show ∃ m', Steps P _ m' ∧ RC P tb w0 f0 cs0 (Cfg.rec (motive := fun _ => Cfg) (.run rs k f W st) (fun rs k f w st => runq tb q (.run rs k f w st)) (fun v w => .done v w) (stepK tb rs k f W st)) m'
      cases e : stepK tb rs k f W st with
      | no => exact ⟨_, .refl _ _, φ, w, n, b, a, t, cs, rfl, H, hn, hF, hs⟩
      | done v w2 => rw [e] at h2; exact ⟨m', h1, h2⟩
      | run rs2 k2 f2 W2 st2 =>
        rw [e] at h2
        obtain ⟨m2, h3, h4⟩ := runq_sim hm htt hft q _ m' h2
        exact ⟨m2, h1.trans h3, h4⟩
end
end I
end Go.Proofs.YtladkmnfmpojiaaGreatDoor
