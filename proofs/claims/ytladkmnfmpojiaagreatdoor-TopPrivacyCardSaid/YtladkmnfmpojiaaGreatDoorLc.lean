/-
  Drawn statements; descriptions of a moment of a run.
-/
import Derived.Test.YtladkmnfmpojiaaGreatDoorLb
namespace Go.Proofs.YtladkmnfmpojiaaGreatDoor
namespace V

/-- Whether one of some operations is done. -/
def brkA (brk : List Nat) (b : Array Bool) : Bool := brk.any fun j => b.getD j true
def brkL (brk : List Nat) (bs : List Bool) : Bool := brk.any fun j => (bs[j]?).getD true
/-- Whether all of some operations wait for operation i. -/
def waitsAll (ops : Array Oper) (brk : List Nat) (i : Nat) : Bool := brk.all fun j => !Nat.beq j i && (match ops[j]? with
  | some o => o.after.any fun e => Region.binds .any e && Nat.beq e.on i
  | none => false)
/-- Whatever order is picked from here on; behind each operation S holds of what is done and the world. -/
def wpAnyM (P : Program) (ops : Array Oper) (Q : Exit → Act → World → Prop) (S : Array Bool → World → Prop) : Nat → Array Bool → Act → World → Prop
  | 0, b, a, w => Region.ready .any ops b = [] ∧ Q .normal a w
  | fuel + 1, b, a, w =>
    (Region.ready .any ops b = [] → Q .normal a w) ∧
    ∀ i ∈ Region.ready .any ops b, wpOp P ops Q i (fun a' w' => S (b.setIfInBounds i true) w' ∧ wpAnyM P ops Q S fuel (b.setIfInBounds i true) a' w') a w
section
variable {P : Program} {ops : Array Oper} {Q : Exit → Act → World → Prop} {S : Array Bool → World → Prop} {S0 : World → Prop} {brk : List Nat} {fuel : Nat} {b : Array Bool} {a : Act} {w : World}
theorem brkA_set {i : Nat} (h : brkA brk b = false) (hi : i ∉ brk) : brkA brk (b.setIfInBounds i true) = false := by
  unfold brkA at h ⊢
  rw [List.any_eq_false] at h ⊢
  intro j hj
  have hne : i ≠ j := fun e => hi (e ▸ hj)
  rw [getD_set_ne true hne]
  exact h j hj
theorem brkA_mono {i : Nat} (h : brkA brk (b.setIfInBounds i true) = false) : brkA brk b = false := by
  unfold brkA at h ⊢
  rw [List.any_eq_false] at h ⊢
  intro j hj
  have h1 := h j hj
  by_cases hne : i = j
  · subst hne
    intro h2
    apply h1
    by_cases hlt : i < b.size
    · simp [hlt]
    · simp [Nat.not_lt.1 hlt]
  · rwa [getD_set_ne true hne] at h1
theorem brkA_list {bs : List Bool} : brkA brk bs.toArray = brkL brk bs := by
  unfold brkA brkL
  congr 1
  funext j
  simp
theorem wpAny_of_M : ∀ (fuel : Nat) (b : Array Bool) (a : Act) (w : World), wpAnyM P ops Q S fuel b a w → wpAny P .any ops Q fuel b a w
  | 0, _, _, _, h => h
  | fuel + 1, _, _, _, h => ⟨h.1, fun i hi => wpOp_mono (fun a' w' h' => wpAny_of_M fuel _ a' w' h'.2) (h.2 i hi)⟩
theorem wpAnyM_first {i : Nat} {oi : Oper} {v : Value} (hi : ops[i]? = some oi) (hsel : ∀ (j : Nat) (o : Oper) cs b, ops[j]? = some o → o.op ≠ .select cs b)
    (hQ : ∀ c a w, Q (.panic c) (a.put oi.dst v) w → Q (.panic c) a w) (hbrk : waitsAll ops brk i = true) (hS0 : ∀ b w, brkA brk b = false → S b w → S0 w) (hSm : ∀ (b : Array Bool) w, S (b.setIfInBounds i true) w → S b w) :
    ∀ (fuel : Nat) (b : Array Bool) (a : Act) (w : World),
      (∀ j oj, ops[j]? = some oj → j ≠ i → b.getD j true = false → (∀ e ∈ oj.after, Region.binds .any e = true → e.on ≠ i) → oi.apart ops oj = true) →
      i ∈ Region.ready .any ops b → YieldsIf P ops S0 oi v a → brkA brk b = false → S (b.setIfInBounds i true) w →
      wpAnyM P ops Q S fuel (b.setIfInBounds i true) (a.put oi.dst v) w → wpAnyM P ops Q S (fuel + 1) b a w := by
  have hib : i ∉ brk := fun hm => by
    unfold waitsAll at hbrk
    rw [List.all_eq_true] at hbrk
    have := hbrk i hm
    simp at this
  intro fuel
  induction fuel with
  | zero =>
    intro b a w _ hr hy hb hS H
    refine ⟨fun h => (by rw [h] at hr; cases hr), fun j hj => ?_⟩
    by_cases hji : j = i
    · subst hji; exact hy.wpOp hi (hS0 _ _ (brkA_set hb hib) hS) ⟨hS, H⟩
    · have := ready_mono hj hji
      rw [H.1] at this
      cases this
  | succ fuel ih =>
    intro b a w hfree hr hy hb hS H
    refine ⟨fun h => (by rw [h] at hr; cases hr), fun j hj => ?_⟩
    by_cases hji : j = i
    · subst hji; exact hy.wpOp hi (hS0 _ _ (brkA_set hb hib) hS) ⟨hS, H⟩
    · have h1 := H.2 j (ready_mono hj hji)
      obtain ⟨hjun, oj, hoj, hall⟩ := mem_ready.1 hj
      have hnot : ∀ e ∈ oj.after, Region.binds .any e = true → e.on ≠ i := fun e he hb heq => by
        have h1 := hall e he hb
        have h0 := (mem_ready.1 hr).1
        rw [heq] at h1
        rcases Nat.lt_or_ge i b.size with h' | h'
        · simp [h'] at h0 h1; rw [h0] at h1; cases h1
        · simp [Array.getElem?_eq_none h'] at h1
      have hjb : j ∉ brk := fun hm => by
        unfold waitsAll at hbrk
        rw [List.all_eq_true] at hbrk
        have h2 := hbrk j hm
        simp only [hoj, Bool.and_eq_true] at h2
        obtain ⟨e, he, h3⟩ := Array.any_eq_true'.1 h2.2
        simp only [Bool.and_eq_true, Nat.beq_eq] at h3
        exact hnot e he h3.1 h3.2
      have h2 := wpOp_putIf hoj (hfree j oj hoj hji hjun hnot) (fun cs b => hsel i oi cs b hi) (fun cs b => hsel j oj cs b hoj) hQ hy h1
      have hfree' : ∀ k ok, ops[k]? = some ok → k ≠ i → (b.setIfInBounds j true).getD k true = false →
          (∀ e ∈ ok.after, Region.binds .any e = true → e.on ≠ i) → oi.apart ops ok = true := fun k ok hk hki hun hno => by
        refine hfree k ok hk hki ?_ hno
        by_cases hjk : j = k
        · subst hjk; exact hjun
        · rw [getD_set_ne true hjk] at hun; exact hun
      have hcomm : (b.setIfInBounds i true).setIfInBounds j true = (b.setIfInBounds j true).setIfInBounds i true := Array.setIfInBounds_comm _ _ (Ne.symm hji)
      rw [hcomm] at h2
      have hb2 : brkA brk (b.setIfInBounds j true) = false := brkA_set hb hjb
      refine wpOp_mono (fun a' w' h3 => ⟨?_, ih (b.setIfInBounds j true) a' w' hfree' (ready_mono hr (Ne.symm hji)) h3.1 hb2 h3.2.1 h3.2.2⟩) h2
      exact hSm _ _ h3.2.1
end
section
variable {P : Program} {ops : Array Oper} {Q : Exit → Act → World → Prop} {S : Array Bool → World → Prop} {fuel : Nat} {b : Array Bool} {a : Act} {w : World}
theorem wpAnyM_all {rs : List Nat} (hr : Region.ready .any ops b = rs) (hne : rs ≠ [])
    (h : ∀ i ∈ rs, wpOp P ops Q i (fun a' w' => S (b.setIfInBounds i true) w' ∧ wpAnyM P ops Q S fuel (b.setIfInBounds i true) a' w') a w) : wpAnyM P ops Q S (fuel + 1) b a w :=
  ⟨fun h0 => absurd (hr ▸ h0) hne, hr ▸ h⟩
theorem wpAnyM_done (hr : Region.ready .any ops b = []) (h : Q .normal a w) : ∀ fuel, wpAnyM P ops Q S fuel b a w
  | 0 => ⟨hr, h⟩
  | _ + 1 => ⟨fun _ => h, by rw [hr]; simp⟩
end
section
variable {P : Program} {px : Value → World → Prop} {ops : Array Oper} {Kn : Act → World → Prop} {S : Array Bool → World → Prop} {fuel N : Nat} {bs : List Bool} {l : Env} {w : World}
def WA (P : Program) (px : Value → World → Prop) (ops : Array Oper) (Kn : Act → World → Prop) (S : Array Bool → World → Prop) (fuel : Nat) (bs : List Bool) (N : Nat) (l : Env) (w : World) : Prop :=
  ∀ a, Holds N l a → wpAnyM P ops (QN px Kn) S fuel bs.toArray a w
def WS (P : Program) (px : Value → World → Prop) (ops : Array Oper) (Kn : Act → World → Prop) (S : Array Bool → World → Prop) (fuel : Nat) (bs : List Bool) (N : Nat) (l : Env) (w : World) (i : Nat) : Prop :=
  ∀ a, Holds N l a → wpOp P ops (QN px Kn) i (fun a' w' => S (bs.toArray.setIfInBounds i true) w' ∧ wpAnyM P ops (QN px Kn) S fuel (bs.toArray.setIfInBounds i true) a' w') a w
theorem WC.draw {Ke : Nat → Act → World → Prop} {Kr : Act → World → Prop} {id : Nat} {os : List Oper} {U0 : Nat → Prop} {X0 : List (Option Nat)} {w0 : World} {L : List (Option Nat)} (S : Array Bool → World → Prop) (hm : P.follows .mixedOrders = true) (C : Ctx U0 X0 w0 L w)
    (h : ∀ w', Ctx U0 X0 w0 L w' → TR U0 L w L w' [] → WA P px os.toArray Kn S os.length (List.replicate os.length false) N l w') : WC P px (.region id os.toArray true) Kn Ke Kr N l w := fun a ha => by
  have h1 := h _ C.drew.1 C.drew.2 a ha
  have h2 := wp_region_any (id := id) (a := a) (w := w) hm (wpAny_of_M _ _ _ _ (by rw [show os.toArray.size = os.length from rfl, ← List.toArray_replicate]; exact h1))
  refine wp_mono h2 fun e a w hq => ?_
  rcases hq with ⟨rfl, hq⟩ | ⟨v, rfl, hq⟩
  · exact hq
  · exact ⟨v, rfl, hq⟩
theorem WA.done (hr : Region.ready .any ops bs.toArray = []) (h : ∀ a, Holds N l a → Kn a w) : WA P px ops Kn S fuel bs N l w := fun a ha =>
  wpAnyM_done hr (.inl ⟨rfl, h a ha⟩) fuel
theorem WA.doneThen {y : Code} {Kn' : Act → World → Prop} {Ke : Nat → Act → World → Prop} {Kr : Act → World → Prop} (hr : Region.ready .any ops bs.toArray = []) (h : WC P px y Kn' Ke Kr N l w) : WA P px ops (fun a w => wp3 P px y Kn' Ke Kr a w) S fuel bs N l w := fun a ha =>
  wpAnyM_done hr (.inl ⟨rfl, h a ha⟩) fuel
theorem WA.takeAny {i d : Nat} {oi : Oper} {v : Value} {bs' : List Bool} {S0 : World → Prop} {brk : List Nat} (hi : ops[i]? = some oi) (hd : oi.dst = some d) (hs : Region.noSelect ops = true) (hf : Region.free .any ops bs.toArray i = true) (hr : (Region.ready .any ops bs.toArray).contains i = true)
    (hw : waitsAll ops brk i = true) (hb0 : brkL brk bs = false) (hS0 : ∀ b w, brkA brk b = false → S b w → S0 w) (hSm : ∀ (b : Array Bool) w, S (b.setIfInBounds i true) w → S b w)
    (hy : ∀ a, Holds N l a → YieldsIf P ops S0 oi v a) (hS : S bs'.toArray w) (hN : Nat.blt d N = true) (hb : bs.set i true = bs') (h : WA P px ops Kn S fuel bs' N ((d, v) :: l) w) : WA P px ops Kn S (fuel + 1) bs N l w := fun a ha => by
  have e : bs.toArray.setIfInBounds i true = bs'.toArray := by rw [← hb]; simp
  refine wpAnyM_first hi (Region.noSelect_spec hs) (fun _ _ _ hq => by
    rcases hq with ⟨h, _⟩ | ⟨v, h1, h2, h3⟩
    · cases h
    · refine .inr ⟨v, h1, ?_, h3⟩
      revert h2
      cases oi.dst <;> exact id) hw hS0 hSm fuel _ a w (Region.free_spec hi hf) (by simpa using hr) (hy a ha) (by rw [brkA_list]; exact hb0) (by rw [e]; exact hS) ?_
  have := h _ (ha.put hN)
  rw [hd, e]
  exact this
theorem WA.take {i d : Nat} {op : Op} {t : TypeId} {ps : String} {af : Array Edge} {v : Value} {bs' : List Bool} (hi : ops[i]? = some ⟨some d, op, t, ps, af, none⟩) (hs : Region.noSelect ops = true) (hf : Region.free .any ops bs.toArray i = true) (hr : (Region.ready .any ops bs.toArray).contains i = true)
    (hSm : ∀ (b : Array Bool) w, S (b.setIfInBounds i true) w → S b w) (hy : ∀ w, RunV P N l ⟨some d, op, t, ps, af, none⟩ w v) (hS : S bs'.toArray w) (hN : Nat.blt d N = true) (hb : bs.set i true = bs') (h : WA P px ops Kn S fuel bs' N ((d, v) :: l) w) : WA P px ops Kn S (fuel + 1) bs N l w :=
  WA.takeAny (S0 := fun _ => True) (brk := []) hi rfl hs hf hr rfl rfl (fun _ _ _ _ => trivial) hSm (fun a ha => .inl ⟨rfl, fun w _ => hy w a ha⟩) hS hN hb h
theorem yielded_of {j s : Nat} {x : Bool} {a : Act} (hj : (ops[j]?).bind (·.dst) = some s) (hs : lk s l = some (.bool x)) (ha : Holds N l a) : yielded ops a.tmps j = some x := by
  unfold yielded
  rw [hj]
  simp [ha.get s _ hs]
theorem WA.all1 {i : Nat} (hr : Region.ready .any ops bs.toArray = [i]) (h : WS P px ops Kn S fuel bs N l w i) : WA P px ops Kn S (fuel + 1) bs N l w := fun a ha =>
  wpAnyM_all hr (by simp) fun j hj => by
    rw [List.mem_singleton] at hj
    subst hj
    exact h a ha
theorem WA.all2 {i j : Nat} (hr : Region.ready .any ops bs.toArray = [i, j]) (h : WS P px ops Kn S fuel bs N l w i) (h2 : WS P px ops Kn S fuel bs N l w j) : WA P px ops Kn S (fuel + 1) bs N l w := fun a ha =>
  wpAnyM_all hr (by simp) fun k hk => by
    rcases List.mem_cons.1 hk with rfl | hk
    · exact h a ha
    · rw [List.mem_singleton] at hk
      subst hk
      exact h2 a ha
theorem WA.all3 {i j k : Nat} (hr : Region.ready .any ops bs.toArray = [i, j, k]) (h : WS P px ops Kn S fuel bs N l w i) (h2 : WS P px ops Kn S fuel bs N l w j) (h3 : WS P px ops Kn S fuel bs N l w k) : WA P px ops Kn S (fuel + 1) bs N l w := fun a ha =>
  wpAnyM_all hr (by simp) fun m hm => by
    rcases List.mem_cons.1 hm with rfl | hm
    · exact h a ha
    rcases List.mem_cons.1 hm with rfl | hm
    · exact h2 a ha
    · rw [List.mem_singleton] at hm
      subst hm
      exact h3 a ha
section
variable {i d : Nat} {op : Op} {t : TypeId} {ps : String} {af : Array Edge} {bs' : List Bool}
theorem WS.world {K : Value → World → Prop} (hi : ops[i]? = some ⟨some d, op, t, ps, af, none⟩) (hr : RunW P N l ⟨some d, op, t, ps, af, none⟩ w K) (hN : Nat.blt d N = true) (hb : bs.set i true = bs')
    (h : ∀ v w', K v w' → S bs'.toArray w' ∧ WA P px ops Kn S fuel bs' N ((d, v) :: l) w') : WS P px ops Kn S fuel bs N l w i := fun a ha => by
  unfold wpOp
  simp only [hi, Region.wanted, if_true]
  refine .inl ?_
  obtain ⟨v, w', h1, h2⟩ := hr a ha
  unfold Oper.wp
  rw [h1]
  have e : bs.toArray.setIfInBounds i true = bs'.toArray := by rw [← hb]; simp
  rw [e]
  exact ⟨(h v w' h2).1, (h v w' h2).2 _ (ha.put hN)⟩
end
end

/-! ### Addresses and slices, known before the statement begins -/
section
variable {P : Program} {px : Value → World → Prop} {w : World} {α : Type}
theorem sl_ix2 {ty E : TypeId} {sz : Nat} {iv : Int} {R : RT α} {U : Nat → Prop} {A : Option Addr} {c : Nat} {dt : List α} {e : α} (hu : P.underlying ty = some (.slice E)) (hs : ∀ w, (sizeOf E).run P w = .ok sz w) (hpos : Nat.blt 0 sz = true) (h : Sl sz R U w A c dt) (hi : idx dt iv = some e) :
    ∃ ad es, At U w ad es ∧ es.length = sz ∧ R U w es e ∧ ∀ {N : Nat} {l : Env} {x y : Operand} {k : IntKind} {d : Option Nat} {t : TypeId} {ps : String} {af : Array Edge} {g : Option (Nat × Bool)} {w : World}, ev l x = some (.slice A dt.length c) → ev l y = some (.int k iv) → RunV P N l ⟨d, .indexAddr ty x y, t, ps, af, g⟩ w (.pointer (some ad)) := by
  have hpos' : 0 < sz := by simpa [Nat.blt_eq] using hpos
  obtain ⟨h0, h1, hi⟩ := idx_some hi
  obtain ⟨_, _, es, he, hm⟩ := h
  obtain ⟨e1, hl1, hr, hc⟩ := Els.get dt es iv.toNat e he hi
  match A with
  | none =>
    match e1, hl1 with
    | u :: e1, _ =>
      obtain ⟨ad, hA, _⟩ := hm _ u (hc 0 u rfl)
      cases hA
    | [], hl1 => exact absurd hl1 (by simp; omega)
  | some ad =>
    have hall : ∀ j u, e1[j]? = some u → ¬ U ad.block ∧ w.cell? ((ad.add (iv.toNat * sz)).add j) = some u := fun j u hu => by
      obtain ⟨ad', h1, h2, h3⟩ := hm _ u (hc j u hu)
      injection h1 with h1
      subst h1
      rw [add_add]
      exact ⟨h2, h3⟩
    refine ⟨ad.add (iv.toNat * sz), e1, ⟨?_, fun j u hu => (hall j u hu).2⟩, hl1, hr, fun {N l x y k d t ps af g w} hx hy a ha => ?_⟩
    · rw [block_add]
      match e1, hl1 with
      | u :: e1, _ => exact (hall 0 u rfl).1
      | [], hl1 => exact absurd hl1 (by simp; omega)
    · simp only [execOp, ha.ev hx, ha.ev hy, Sem.run_bind, run_indexAt hu hs h0 h1, Result.andThen_ok]; rfl
end
end V
end Go.Proofs.YtladkmnfmpojiaaGreatDoor
namespace Go.Proofs.YtladkmnfmpojiaaGreatDoor
namespace V
def globs : List (Nat × List Value) := [(0, ([0, 0, 3, 1, 0] : List Int).map (Value.int .u64)), (1, ([0, 1788928, 3577856, 3003392, 7155712, 7764992, 6006784, 4252672, 14311424, 12659712, 15529984, 16233472, 12013568, 11279360, 8505344, 10126336] : List Int).map (Value.int .u32)), (2, ([1, 1, 3, 1, 3, 1, 2, 3, 1, 2, 4, 4, 5, 1, 4, 1, 1, 1, 1, 1, 4, 2, 3, 1, 2] : List Int).map (Value.int .i64))]
end V
end Go.Proofs.YtladkmnfmpojiaaGreatDoor
namespace Go.Proofs.YtladkmnfmpojiaaGreatDoor
namespace V

/-! ### Descriptions -/
/-- One cell: a plain value; a pointer to cell o of (or behind the beginning of) item i; the slice, the string of item i. -/
inductive Cell where
  | v (x : Value)
  | p (i o : Nat)
  | s (i : Nat)
  | t (i : Nat)
  | m (i : Nat)
  | w (fn : FuncId) (i o : Nat)
/-- A value: a cell, an aggregate, a tuple, a function value. -/
inductive SV where
  | c (x : Cell)
  | g (l : List Cell)
  | u (l : List (Cell ⊕ List Cell))
  | f (fn : FuncId) (l : List Cell)
/-- What an item is at run time. -/
inductive Conc where
  | b (n : Nat)
  | a (ad : Addr)
  | r (A : Option Addr) (n c : Nat)
  | s (x : ByteArray)
  | m (b : Option Nat)
  | z
/-- What is known of memory: a variable of the call's own, an element that is read (of item i, at iv; in a row of the call's own or not),
a row of the call's own, a slice that is only read, a string, nothing. -/
inductive Item : Type 1 where
  | blk (T : TypeId) (cs : List Cell)
  | elt (src : Option (Nat × Int)) (ow : Bool) (cs : List Cell)
  | own {α : Type} (sz : Nat) (E : TypeId) (R : RT α) [GRep R] (l : List α)
  | rd {α : Type} (sz : Nat) (R : RT α) [GRep R] (l : List α)
  | str (s : List Int)
  | mp {α : Type} (k : IntKind) (R : RT α) [GRep R] (ow : Bool) (l : List (Int × α))
  | lm (k : IntKind) (l : List (Int × Cell))
  | adr
  | gone

abbrev Env' := List (Nat × SV)
abbrev nl : Cell := .v (.slice none 0 0)
abbrev ci (k : IntKind) (x : Int) : Cell := .v (.int k x)
abbrev cb (x : Bool) : Cell := .v (.bool x)
abbrev cf (f : FuncId) : Cell := .v (.func (.func f) #[] #[])
abbrev vi (k : IntKind) (x : Int) : SV := .c (.v (.int k x))
abbrev vb (x : Bool) : SV := .c (.v (.bool x))
abbrev vp (i o : Nat) : SV := .c (.p i o)
abbrev vs (i : Nat) : SV := .c (.s i)
abbrev vt (i : Nat) : SV := .c (.t i)
abbrev vm (i : Nat) : SV := .c (.m i)
abbrev vn : SV := .c (.v (.slice none 0 0))

def Cell.den (κ : List Conc) : Cell → Value
  | .v x => x
  | .p i o => match κ[i]? with
    | some (.b n) => .pointer (some ⟨n, o, none⟩)
    | some (.a ad) => .pointer (some (ad.add o))
    | some (.r (some ad) _ _) => .pointer (some (ad.add o))
    | _ => undef
  | .s i => match κ[i]? with
    | some (.r A n c) => .slice A n c
    | _ => undef
  | .t i => match κ[i]? with
    | some (.s x) => .string x
    | _ => undef
  | .m i => match κ[i]? with
    | some (.m b) => .map b
    | _ => undef
  | .w fn i o => .func (.func fn) #[match κ[i]? with
    | some (.b n) => .pointer (some ⟨n, o, none⟩)
    | some (.a ad) => .pointer (some (ad.add o))
    | some (.r (some ad) _ _) => .pointer (some (ad.add o))
    | _ => undef] #[]
def tel (κ : List Conc) : Cell ⊕ List Cell → Value
  | .inl x => x.den κ
  | .inr l => .agg (l.map (Cell.den κ)).toArray
def SV.den (κ : List Conc) : SV → Value
  | .c x => x.den κ
  | .g l => .agg (l.map (Cell.den κ)).toArray
  | .u l => .tuple (l.map (tel κ)).toArray
  | .f fn l => .func (.func fn) #[] (l.map (Cell.den κ)).toArray
def denE (κ : List Conc) (e : Env') : Env := e.map fun p => (p.1, p.2.den κ)

/-! ### Scopes -/
def Cell.lt (n : Nat) : Cell → Bool
  | .v _ => true
  | .p i _ => Nat.blt i n
  | .s i => Nat.blt i n
  | .t i => Nat.blt i n
  | .m i => Nat.blt i n
  | .w _ i _ => Nat.blt i n
def telLt (n : Nat) : Cell ⊕ List Cell → Bool
  | .inl x => x.lt n
  | .inr l => l.all (Cell.lt n)
def SV.lt (n : Nat) : SV → Bool
  | .c x => x.lt n
  | .g l => l.all (Cell.lt n)
  | .u l => l.all (telLt n)
  | .f _ l => l.all (Cell.lt n)
def Item.lt (n : Nat) : Item → Bool
  | .blk _ cs => cs.all (Cell.lt n)
  | .elt (some (i, _)) _ cs => Nat.blt i n && cs.all (Cell.lt n)
  | .elt none _ cs => cs.all (Cell.lt n)
  | .lm _ l => l.all fun p => p.2.lt n
  | _ => true
def scE (n : Nat) (e : Env') : Bool := e.all fun p => p.2.lt n
def scI (n : Nat) (its : List Item) : Bool := its.all (Item.lt n)

theorem Cell.lt_mono {n m : Nat} (h : n ≤ m) : ∀ {c : Cell}, c.lt n = true → c.lt m = true
  | .v _, _ => rfl
  | .p i _, h1 => by simp only [Cell.lt, Nat.blt_eq] at h1 ⊢; omega
  | .s i, h1 => by simp only [Cell.lt, Nat.blt_eq] at h1 ⊢; omega
  | .t i, h1 => by simp only [Cell.lt, Nat.blt_eq] at h1 ⊢; omega
  | .m i, h1 => by simp only [Cell.lt, Nat.blt_eq] at h1 ⊢; omega
  | .w _ i _, h1 => by simp only [Cell.lt, Nat.blt_eq] at h1 ⊢; omega
theorem cells_lt_mono {n m : Nat} (h : n ≤ m) {l : List Cell} (h1 : l.all (Cell.lt n) = true) : l.all (Cell.lt m) = true := by
  rw [List.all_eq_true] at h1 ⊢
  exact fun c hc => Cell.lt_mono h (h1 c hc)
theorem SV.lt_mono {n m : Nat} (h : n ≤ m) : ∀ {x : SV}, x.lt n = true → x.lt m = true
  | .c x, h1 => Cell.lt_mono h h1
  | .g l, h1 => cells_lt_mono h h1
  | .f _ l, h1 => cells_lt_mono h h1
  | .u l, h1 => by
    simp only [SV.lt] at h1 ⊢
    rw [List.all_eq_true] at h1 ⊢
    intro t ht
    have := h1 t ht
    cases t with
    | inl x => exact Cell.lt_mono h this
    | inr l => exact cells_lt_mono h this
theorem Item.lt_mono {n m : Nat} (h : n ≤ m) : ∀ {x : Item}, x.lt n = true → x.lt m = true
  | .blk _ cs, h1 => cells_lt_mono h h1
  | .elt (some (i, _)) _ cs, h1 => by
    simp only [Item.lt, Bool.and_eq_true, Nat.blt_eq] at h1 ⊢
    exact ⟨by omega, cells_lt_mono h h1.2⟩
  | .elt none _ cs, h1 => cells_lt_mono (l := cs) h h1
  | @Item.own _ _ _ _ _ _, _ => rfl
  | @Item.rd _ _ _ _ _, _ => rfl
  | .str _, _ => rfl
  | @Item.mp _ _ _ _ _ _, _ => rfl
  | .lm _ l, h1 => by
    simp only [Item.lt, List.all_eq_true] at h1 ⊢
    exact fun p hp => Cell.lt_mono h (h1 p hp)
  | .adr, _ => rfl
  | .gone, _ => rfl
theorem scE_mono {n m : Nat} (h : n ≤ m) {e : Env'} (h1 : scE n e = true) : scE m e = true := by
  unfold scE at *
  rw [List.all_eq_true] at h1 ⊢
  exact fun c hc => SV.lt_mono h (h1 c hc)
theorem scI_mono {n m : Nat} (h : n ≤ m) {e : List Item} (h1 : scI n e = true) : scI m e = true := by
  unfold scI at *
  rw [List.all_eq_true] at h1 ⊢
  exact fun c hc => Item.lt_mono h (h1 c hc)

theorem den_app {κ κx : List Conc} : ∀ {c : Cell}, c.lt κ.length = true → c.den (κ ++ κx) = c.den κ
  | .v _, _ => rfl
  | .p i o, h => by
    simp only [Cell.lt, Nat.blt_eq] at h
    simp only [Cell.den, List.getElem?_append_left h]
  | .s i, h => by
    simp only [Cell.lt, Nat.blt_eq] at h
    simp only [Cell.den, List.getElem?_append_left h]
  | .t i, h => by
    simp only [Cell.lt, Nat.blt_eq] at h
    simp only [Cell.den, List.getElem?_append_left h]
  | .m i, h => by
    simp only [Cell.lt, Nat.blt_eq] at h
    simp only [Cell.den, List.getElem?_append_left h]
  | .w _ i _, h => by
    simp only [Cell.lt, Nat.blt_eq] at h
    simp only [Cell.den, List.getElem?_append_left h]
theorem cells_app {κ κx : List Conc} {l : List Cell} (h : l.all (Cell.lt κ.length) = true) : l.map (Cell.den (κ ++ κx)) = l.map (Cell.den κ) := by
  rw [List.all_eq_true] at h
  exact List.map_congr_left fun c hc => den_app (h c hc)
theorem sv_app {κ κx : List Conc} : ∀ {x : SV}, x.lt κ.length = true → x.den (κ ++ κx) = x.den κ
  | .c x, h => den_app h
  | .g l, h => by simp only [SV.den]; rw [cells_app h]
  | .f _ l, h => by simp only [SV.den]; rw [cells_app h]
  | .u l, h => by
    simp only [SV.den]
    congr 2
    simp only [SV.lt] at h
    rw [List.all_eq_true] at h
    refine List.map_congr_left fun t ht => ?_
    have := h t ht
    cases t with
    | inl x => exact den_app this
    | inr l => simp only [tel]; rw [cells_app this]
theorem denE_app {κ κx : List Conc} {e : Env'} (h : scE κ.length e = true) : denE (κ ++ κx) e = denE κ e := by
  unfold scE at h
  rw [List.all_eq_true] at h
  exact List.map_congr_left fun p hp => by rw [sv_app (h p hp)]

/-! ### What is known -/
/-- A value as it is. -/
def RV : RT Value := fun _ _ cs v => cs = [v] ∧ v.oneCell' = true
instance : GRep RV := ⟨fun h _ _ => h, fun h u hu => by obtain ⟨rfl, h⟩ := h; simp at hu; subst hu; exact h⟩
def OK (κ : List Conc) (U : Nat → Prop) (w : World) : Item → Conc → Prop
  | .blk T cs, .b n => Blk w n T (cs.map (Cell.den κ))
  | .elt none _ cs, .a ad => At U w ad (cs.map (Cell.den κ)) ∧ cs ≠ []
  | .elt (some (i, iv)) ow cs, .a ad => At (fun b => ow = false ∧ U b) w ad (cs.map (Cell.den κ)) ∧ cs ≠ [] ∧ ∃ A n c, κ[i]? = some (.r (some A) n c) ∧ ad = A.add (iv.toNat * cs.length) ∧ 0 ≤ iv ∧ iv < n
  | @Item.own _ sz E R _ l, .r A n c => n = l.length ∧ Own sz E R U w A c l
  | @Item.rd _ sz R _ l, .r A n c => n = l.length ∧ Sl sz R U w A c l
  | .str s, .s x => strOf x = s
  | @Item.mp _ k R _ true l, .m b => ∃ n, b = some n ∧ MapB k R U w n l
  | @Item.mp _ k R _ false l, .m b => (b = none ∧ l = []) ∨ ∃ n, b = some n ∧ ¬ U n ∧ MapB k R U w n l
  | .lm k l, .m b => ∃ n, b = some n ∧ MapB k RV U w n (l.map fun p => (p.1, p.2.den κ))
  | .adr, .b _ => True
  | .gone, _ => True
  | _, _ => False
/-- The block of the call's own that an item is. -/
def own1 : Item → Conc → Option Nat
  | .blk .., .b n => some n
  | @Item.own _ _ _ _ _ _, .r A _ _ => ob A
  | @Item.mp _ _ _ _ true _, .m b => b
  | .lm .., .m b => b
  | _, _ => none
def Lof (its : List Item) (κ : List Conc) : List (Option Nat) := List.zipWith own1 its κ
/-- The package-level variables that are read hold what they were laid with, and nobody turns them. -/
def Globs (U0 : Nat → Prop) (X0 : List (Option Nat)) (w0 : World) : Prop := ∀ p ∈ globs, p.2 ≠ [] ∧ ¬ U0 p.1 ∧ some p.1 ∉ X0 ∧ ∀ j v, p.2[j]? = some v → w0.cell? ⟨p.1, j, none⟩ = some v
theorem Globs.now {U0 : Nat → Prop} {X0 L : List (Option Nat)} {w0 w : World} (g : Globs U0 X0 w0) (C : Ctx U0 X0 w0 L w) : Globs U0 L w := fun p hp => by
  obtain ⟨h0, h1, h2, h3⟩ := g p hp
  have hlt : p.1 < w0.heap.size := by
    cases hc : p.2 with
    | nil => exact absurd hc h0
    | cons v r => exact cell_lt (h3 0 v (by rw [hc]; rfl))
  refine ⟨h0, h1, fun hm => ?_, fun j v hj => (cell_same (C.step.block p.1 hlt h2)).trans (h3 j v hj)⟩
  rcases (C.live p.1 hm).2.2 with h | h
  · omega
  · exact h2 h
/-- What stays as it is over a function's run. -/
structure Fx where
  U0 : Nat → Prop
  X0 : List (Option Nat)
  w0 : World
  κ0 : List Conc
  gl : Globs U0 X0 w0
  px : Value → World → Prop
structure St (n0 : Nat) (fx : Fx) (env : Env') (its : List Item) (κ : List Conc) (w : World) : Prop where
  len : κ.length = its.length
  pre : κ.take n0 = fx.κ0
  n0 : n0 ≤ κ.length
  sce : scE its.length env = true
  sci : scI its.length its = true
  ctx : Ctx fx.U0 fx.X0 fx.w0 (Lof its κ) w
  ok : ∀ (i : Nat) (it : Item) (c : Conc), its[i]? = some it → κ[i]? = some c → OK κ (Mu fx.U0 (Lof its κ)) w it c
/-- A moment of a run. -/
def A (N n0 : Nat) (fx : Fx) (env : Env') (its : List Item) (a : Act) (w : World) : Prop := ∃ κ, Holds N (denE κ env) a ∧ St n0 fx env its κ w

theorem Lof_get {its : List Item} {κ : List Conc} {i : Nat} {it : Item} {c : Conc} (h1 : its[i]? = some it) (h2 : κ[i]? = some c) : (Lof its κ)[i]? = some (own1 it c) := by
  unfold Lof
  rw [List.getElem?_zipWith, h1, h2]
theorem Lof_inv {its : List Item} {κ : List Conc} {i b : Nat} (h : (Lof its κ)[i]? = some (some b)) : ∃ it c, its[i]? = some it ∧ κ[i]? = some c ∧ own1 it c = some b := by
  unfold Lof at h
  rw [List.getElem?_zipWith] at h
  cases h1 : its[i]? with
  | none => simp [h1] at h
  | some it => cases h2 : κ[i]? with
    | none => simp [h1, h2] at h
    | some c => exact ⟨it, c, rfl, rfl, by simpa [h1, h2] using h⟩
theorem Lof_mem {its : List Item} {κ : List Conc} {b : Nat} : some b ∈ Lof its κ ↔ ∃ (i : Nat) (it : Item) (c : Conc), its[i]? = some it ∧ κ[i]? = some c ∧ own1 it c = some b := by
  constructor
  · intro h
    obtain ⟨i, hi⟩ := List.getElem?_of_mem h
    exact ⟨i, Lof_inv hi⟩
  · rintro ⟨i, it, c, h1, h2, h3⟩
    have := Lof_get h1 h2
    rw [h3] at this
    exact List.mem_of_getElem? this
section
variable {N n0 : Nat} {fx : Fx} {env : Env'} {its : List Item} {κ : List Conc} {w : World}
theorem St.conc (S : St n0 fx env its κ w) {i : Nat} {it : Item} (h : its[i]? = some it) : ∃ c, κ[i]? = some c ∧ OK κ (Mu fx.U0 (Lof its κ)) w it c := by
  have hl : i < κ.length := by rw [S.len]; exact (List.getElem?_eq_some_iff.1 h).1
  exact ⟨κ[i], List.getElem?_eq_getElem hl, S.ok i it _ h (List.getElem?_eq_getElem hl)⟩
/-- What is known of memory, as far as a look needs it. -/
def Kno (its : List Item) (κ : List Conc) (w : World) : Prop := ∀ (i : Nat) (it : Item), its[i]? = some it → ∃ c U, κ[i]? = some c ∧ OK κ U w it c
theorem St.kno (S : St n0 fx env its κ w) : Kno its κ w := fun i it h => by
  obtain ⟨c, h1, h2⟩ := S.conc h
  exact ⟨c, _, h1, h2⟩
theorem St.scc (S : St n0 fx env its κ w) {x : SV} (h : x.lt its.length = true) {κx : List Conc} : x.den (κ ++ κx) = x.den κ := sv_app (by rw [S.len]; exact h)
theorem St.prune (S : St n0 fx env its κ w) {env' : Env'} (h : scE its.length env' = true) : St n0 fx env' its κ w := ⟨S.len, S.pre, S.n0, h, S.sci, S.ctx, S.ok⟩
theorem St.lk (S : St n0 fx env its κ w) {t : Nat} {x : SV} (h : (t, x) ∈ env) : x.lt its.length = true := by
  have := S.sce
  unfold scE at this
  rw [List.all_eq_true] at this
  exact this _ h
/-- An item that nothing touches. -/
def Item.ow : Item → Bool
  | .elt _ true _ => true
  | _ => false
theorem OK.next {κx : List Conc} {it : Item} {c : Conc} {L L' X : List (Option Nat)} {w' : World} (hsc : it.lt κ.length = true) (how : it.ow = false) (T : TR fx.U0 L w L' w' X) (hX : ∀ b, own1 it c = some b → some b ∉ X) (h : OK κ (Mu fx.U0 L) w it c) : OK (κ ++ κx) (Mu fx.U0 L') w' it c := by
  cases it with
  | blk Ty cs => cases c with
    | b n =>
      simp only [OK] at h ⊢
      rw [cells_app hsc]
      exact T.blk (fun b e => hX b (by simpa [own1] using e)) h
    | _ => exact h.elim
  | elt src ow cs => cases c with
    | a ad =>
      cases src with
      | none =>
        simp only [OK] at h ⊢
        rw [cells_app (by simpa [Item.lt] using hsc)]
        exact ⟨T.at_ h.1 (by simpa using h.2), h.2⟩
      | some q =>
        obtain ⟨i, iv⟩ := q
        simp only [Item.lt, Bool.and_eq_true, Nat.blt_eq] at hsc
        simp only [OK] at h ⊢
        rw [cells_app hsc.2]
        obtain ⟨h1, h2, A, n, c, h3, h4⟩ := h
        have how' : ow = false := by cases ow <;> simp_all [Item.ow]
        subst how'
        have h1' : At (Mu fx.U0 L) w ad (cs.map (Cell.den κ)) := ⟨fun hu => h1.1 ⟨rfl, hu⟩, h1.2⟩
        have h1'' := T.at_ h1' (by simpa using h2)
        exact ⟨⟨fun hu => h1''.1 hu.2, h1''.2⟩, h2, A, n, c, by rw [List.getElem?_append_left hsc.1]; exact h3, h4⟩
    | _ => cases src <;> exact h.elim
  | own sz E R l => cases c with
    | r A n c =>
      simp only [OK] at h ⊢
      exact ⟨h.1, T.own (fun b e => hX b (by simpa [own1] using e)) h.2⟩
    | _ => exact h.elim
  | rd sz R l => cases c with
    | r A n c =>
      simp only [OK] at h ⊢
      exact ⟨h.1, T.sl h.2⟩
    | _ => exact h.elim
  | str s => cases c with
    | s x => exact h
    | _ => exact h.elim
  | mp k R ow l => cases c with
    | m b =>
      cases ow with
      | true =>
        simp only [OK] at h ⊢
        obtain ⟨n, rfl, hm⟩ := h
        exact ⟨n, rfl, hm.step (T.block n hm.lt (hX n rfl)) T.h1 T.mono⟩
      | false =>
        simp only [OK] at h ⊢
        rcases h with h | ⟨n, rfl, hn, hm⟩
        · exact .inl h
        · exact .inr ⟨n, rfl, fun hU => hn (T.mono n hm.lt hU), hm.step (T.h1 n hm.lt hn) T.h1 T.mono⟩
    | _ => cases ow <;> exact h.elim
  | lm k l => cases c with
    | m b =>
      simp only [OK] at h ⊢
      obtain ⟨n, rfl, hm⟩ := h
      have e : (l.map fun p => (p.1, p.2.den (κ ++ κx))) = l.map fun p => (p.1, p.2.den κ) := List.map_congr_left fun p hp => by
        simp only [Item.lt, List.all_eq_true] at hsc
        rw [den_app (hsc p hp)]
      rw [e]
      exact ⟨n, rfl, hm.step (T.block n hm.lt (hX n rfl)) T.h1 T.mono⟩
    | _ => exact h.elim
  | adr => cases c with
    | b n => trivial
    | _ => exact h.elim
  | gone => trivial
/-- What is known goes on, where the items that turn are accounted for. -/
theorem St.next (S : St n0 fx env its κ w) {env' : Env'} {its' : List Item} {κx : List Conc} {w' : World} {X : List (Option Nat)} (ch : Nat → Prop) (hlen : (κ ++ κx).length = its'.length) (hsce : scE its'.length env' = true) (hsci : scI its'.length its' = true)
    (C : Ctx fx.U0 fx.X0 fx.w0 (Lof its' (κ ++ κx)) w') (T : TR fx.U0 (Lof its κ) w (Lof its' (κ ++ κx)) w' X)
    (hold : ∀ (i : Nat) (it : Item), i < its.length → ¬ ch i → its'[i]? = some it → its[i]? = some it ∧ it.ow = false ∧ ∀ c b, κ[i]? = some c → own1 it c = some b → some b ∉ X)
    (hnew : ∀ (i : Nat) (it : Item) (c : Conc), (its.length ≤ i ∨ ch i) → its'[i]? = some it → (κ ++ κx)[i]? = some c → OK (κ ++ κx) (Mu fx.U0 (Lof its' (κ ++ κx))) w' it c) : St n0 fx env' its' (κ ++ κx) w' := by
  refine ⟨hlen, ?_, ?_, hsce, hsci, C, fun i it c h1 h2 => ?_⟩
  · rw [List.take_append_of_le_length S.n0]; exact S.pre
  · rw [List.length_append]; have := S.n0; omega
  · rcases Nat.lt_or_ge i its.length with hlt | hge
    · by_cases hc : ch i
      · exact hnew i it c (.inr hc) h1 h2
      · obtain ⟨h3, h4, h5⟩ := hold i it hlt hc h1
        have h2' : κ[i]? = some c := by rw [List.getElem?_append_left (by rw [S.len]; exact hlt)] at h2; exact h2
        have hsc : it.lt κ.length = true := by
          have := S.sci
          unfold scI at this
          rw [List.all_eq_true] at this
          rw [S.len]
          exact this _ (List.mem_of_getElem? h3)
        exact OK.next hsc h4 T (fun b hb => h5 c b h2' hb) (S.ok i it c h3 h2')
    · exact hnew i it c (.inl hge) h1 h2
end

/-! ### Judgements -/
section
variable (P : Program)
def SC (c : Code) (Kn : Act → World → Prop) (Ke : Nat → Act → World → Prop) (Kr : Act → World → Prop) (N n0 : Nat) (fx : Fx) (env : Env') (its : List Item) : Prop :=
  ∀ κ w, St n0 fx env its κ w → WC P fx.px c Kn Ke Kr N (denE κ env) w
def SL (ops : Array Oper) (rest : List Oper) (Kn : Act → World → Prop) (N n0 : Nat) (fx : Fx) (env : Env') (its : List Item) : Prop :=
  ∀ κ w, St n0 fx env its κ w → WL P fx.px ops rest Kn N (denE κ env) w
end
section
variable {P : Program} {Kn : Act → World → Prop} {Ke : Nat → Act → World → Prop} {Kr : Act → World → Prop} {N n0 : Nat} {fx : Fx} {env env' : Env'} {its its' : List Item} {ops : Array Oper} {rest : List Oper}
theorem A.go {c : Code} {a : Act} {w : World} (ha : A N n0 fx env its a w) (h : SC P c Kn Ke Kr N n0 fx env its) : wp3 P fx.px c Kn Ke Kr a w := by
  obtain ⟨κ, h1, h2⟩ := ha
  exact h κ w h2 a h1
theorem A.goL {a : Act} {w : World} (ha : A N n0 fx env its a w) (h : SL P ops rest Kn N n0 fx env its) : wpList P ops (QN fx.px Kn) rest a w := by
  obtain ⟨κ, h1, h2⟩ := ha
  exact h κ w h2 a h1
theorem SC.mk {c : Code} (h : ∀ a w, A N n0 fx env its a w → wp3 P fx.px c Kn Ke Kr a w) : SC P c Kn Ke Kr N n0 fx env its := fun κ w hS a ha => h a w ⟨κ, ha, hS⟩
theorem SC.seq {x y : Code} (h : SC P x (fun a w => wp3 P fx.px y Kn Ke Kr a w) Ke Kr N n0 fx env its) : SC P (.seq x y) Kn Ke Kr N n0 fx env its := fun κ w hS => WC.seq (h κ w hS)
theorem SC.cut {x y : Code} (J : Act → World → Prop) (h : SC P x J Ke Kr N n0 fx env its) (h2 : ∀ a w, J a w → wp3 P fx.px y Kn Ke Kr a w) : SC P (.seq x y) Kn Ke Kr N n0 fx env its := fun κ w hS => WC.seqCut J (h κ w hS) h2
theorem SC.skipThen {y : Code} {Kn' : Act → World → Prop} {Ke' : Nat → Act → World → Prop} {Kr' : Act → World → Prop} (h : SC P y Kn' Ke' Kr' N n0 fx env its) : SC P .skip (fun a w => wp3 P fx.px y Kn' Ke' Kr' a w) Ke Kr N n0 fx env its := fun κ w hS => WC.skipThen (h κ w hS)
theorem SC.skipJ (h : ∀ a w, A N n0 fx env its a w → Kn a w) : SC P .skip Kn Ke Kr N n0 fx env its := fun κ w hS => WC.skip fun a ha => h a w ⟨κ, ha, hS⟩
theorem SC.exitThen {y : Code} {i : Nat} {Kn' : Act → World → Prop} {Ke' : Nat → Act → World → Prop} (he : Ke i = fun a w => wp3 P fx.px y Kn' Ke' Kr a w) (h : SC P y Kn' Ke' Kr N n0 fx env its) : SC P (.exit i) Kn Ke Kr N n0 fx env its := fun κ w hS => WC.exitThen he (h κ w hS)
theorem SC.exitJ {i : Nat} {J : Act → World → Prop} (he : Ke i = J) (h : ∀ a w, A N n0 fx env its a w → J a w) : SC P (.exit i) Kn Ke Kr N n0 fx env its := fun κ w hS => WC.exitJ he fun a ha => h a w ⟨κ, ha, hS⟩
theorem SC.block {i : Nat} {c : Code} (h : SC P c Kn (inB i Kn Ke) Kr N n0 fx env its) : SC P (.block i c) Kn Ke Kr N n0 fx env its := fun κ w hS => WC.block (h κ w hS)
theorem SC.reg {id : Nat} {os : List Oper} (h : SL P os.toArray os Kn N n0 fx env its) : SC P (.region id os.toArray false) Kn Ke Kr N n0 fx env its := fun κ w hS => WC.region (h κ w hS)
theorem SL.nilThen {y : Code} {Kn' : Act → World → Prop} (h : SC P y Kn' Ke Kr N n0 fx env its) : SL P ops [] (fun a w => wp3 P fx.px y Kn' Ke Kr a w) N n0 fx env its := fun κ w hS => WL.nilThen (h κ w hS)
theorem SL.nilJ (h : ∀ a w, A N n0 fx env its a w → Kn a w) : SL P ops [] Kn N n0 fx env its := fun κ w hS => WL.nil fun a ha => h a w ⟨κ, ha, hS⟩
theorem SL.cutAt (k : Nat) (J : Act → World → Prop) (h1 : SL P ops (rest.take k) J N n0 fx env its) (h2 : ∀ a w, J a w → wpList P ops (QN fx.px Kn) (rest.drop k) a w) : SL P ops rest Kn N n0 fx env its := fun κ w hS => WL.cutAt k J (h1 κ w hS) h2

def lkE (t : Nat) : Env' → Option SV
  | [] => none
  | (d, v) :: l => match Nat.beq t d with
    | true => some v
    | false => lkE t l
def evS (e : Env') : Operand → Option SV
  | .tmp t => lkE t e
  | .const (.agg cs) => some (.g (cs.toList.map .v))
  | .const (.tuple vs) => match vs.toList with
    | [] => some (.u [])
    | _ => none
  | .const v => some (.c (.v v))
  | .global _ => none
  | .func f => some (.f f [])
theorem lkE_den {κ : List Conc} {t : Nat} {x : SV} : ∀ {e : Env'}, lkE t e = some x → lk t (denE κ e) = some (x.den κ)
  | (d, v) :: l, h => by
    simp only [lkE] at h
    simp only [denE, List.map_cons, lk]
    cases hb : Nat.beq t d with
    | true => rw [hb] at h; simp only [Option.some.injEq] at h; simp [h]
    | false => rw [hb] at h; exact lkE_den (e := l) h
theorem lkE_mem {t : Nat} {x : SV} : ∀ {e : Env'}, lkE t e = some x → (t, x) ∈ e
  | (d, v) :: l, h => by
    simp only [lkE] at h
    cases hb : Nat.beq t d with
    | true =>
      rw [hb] at h; simp only [Option.some.injEq] at h
      rw [Nat.eq_of_beq_eq_true hb, h]
      exact List.mem_cons_self ..
    | false => rw [hb] at h; exact List.mem_cons_of_mem _ (lkE_mem h)
theorem evS_den {κ : List Conc} {x : Operand} {v : SV} {e : Env'} (h : evS e x = some v) : ev (denE κ e) x = some (v.den κ) := by
  cases x with
  | tmp t => exact lkE_den h
  | const c =>
    cases c with
    | agg cs =>
      simp only [evS, Option.some.injEq] at h; subst h
      simp only [ev, SV.den, List.map_map]
      have : (Cell.den κ ∘ Cell.v) = id := rfl
      rw [this, List.map_id]
    | tuple vs =>
      simp only [evS] at h
      split at h
      · rename_i hv
        injection h with h; subst h
        simp only [ev, SV.den, List.map_nil]
        rw [← hv]
      · cases h
    | _ => simp only [evS, Option.some.injEq] at h; subst h; rfl
  | global g => cases h
  | func f => simp only [evS, Option.some.injEq] at h; subst h; rfl
theorem evS_lt {n : Nat} {x : Operand} {v : SV} {e : Env'} (hs : scE n e = true) (h : evS e x = some v) : v.lt n = true := by
  cases x with
  | tmp t =>
    unfold scE at hs
    rw [List.all_eq_true] at hs
    exact hs _ (lkE_mem h)
  | const c =>
    cases c with
    | agg cs =>
      simp only [evS, Option.some.injEq] at h; subst h
      simp [SV.lt, Cell.lt]
    | tuple vs =>
      simp only [evS] at h
      split at h
      · injection h with h; subst h; rfl
      · cases h
    | _ => simp only [evS, Option.some.injEq] at h; subst h; rfl
  | global g => cases h
  | func f => simp only [evS, Option.some.injEq] at h; subst h; rfl
end
end V
end Go.Proofs.YtladkmnfmpojiaaGreatDoor
namespace Go.Proofs.YtladkmnfmpojiaaGreatDoor
namespace V

/-! ### A table of types -/
structure TI where
  und : TypeDesc
  agg : Bool
  size : Nat
  zero : Option Value
  bytes : Nat
abbrev TT := List (Nat × TI)
def lkT (t : Nat) : TT → Option TI
  | [] => none
  | (d, v) :: l => match Nat.beq t d with
    | true => some v
    | false => lkT t l
structure TOk (P : Program) (t : TypeId) (ti : TI) : Prop where
  und : P.underlying t = some ti.und
  agg : ∀ w, (isAgg t).run P w = .ok ti.agg w
  size : ∀ w, (sizeOf t).run P w = .ok ti.size w
  info : ∃ i z, P.info? t = some i ∧ i.size = ti.size ∧ i.bytes = ti.bytes ∧ i.zero = some z ∧ z.cells.size = ti.size
  zero : ∀ z, ti.zero = some z → ∀ w, (zeroValue t).run P w = .ok z w
def TTOk (P : Program) (tt : TT) : Prop := ∀ p ∈ tt, TOk P p.1 p.2
theorem TTOk.get {P : Program} {t : Nat} {ti : TI} : ∀ {tt : TT}, TTOk P tt → lkT t tt = some ti → TOk P t ti
  | (d, v) :: l, h, h1 => by
    simp only [lkT] at h1
    cases hb : Nat.beq t d with
    | true =>
      rw [hb] at h1; simp only [Option.some.injEq] at h1
      rw [Nat.eq_of_beq_eq_true hb, ← h1]
      exact h _ (List.mem_cons_self ..)
    | false =>
      rw [hb] at h1
      exact TTOk.get (fun p hp => h p (List.mem_cons_of_mem _ hp)) h1

/-! ### Numbers -/
def wr (k : IntKind) (x : Int) : Int := match k with
  | .i64 => w64 x
  | .u64 => wu64 x
  | .u32 => wu32 x
  | .u16 => wu16 x
  | .u8 => wu8 x
  | k => k.wrap x
theorem wr_eq (k : IntKind) (x : Int) : k.wrap x = wr k x := by
  cases k
  case i64 => exact wrap_i64 x
  all_goals rfl
def keq : IntKind → IntKind → Bool
  | .i8, .i8 => true
  | .i16, .i16 => true
  | .i32, .i32 => true
  | .i64, .i64 => true
  | .u8, .u8 => true
  | .u16, .u16 => true
  | .u32, .u32 => true
  | .u64, .u64 => true
  | _, _ => false
theorem keq_eq : ∀ {k k' : IntKind}, keq k k' = true → k = k' := by intro k k' h; cases k <;> cases k' <;> first | rfl | cases h
def bin1 (k : IntKind) (m n : Int) : BinOp → Option SV
  | .add => some (vi k (wr k (m + n)))
  | .sub => some (vi k (wr k (m - n)))
  | .mul => some (vi k (wr k (m * n)))
  | .and => some (vi k (iand k m n))
  | .or => some (vi k (ior k m n))
  | .xor => some (vi k (ixor k m n))
  | .andNot => some (vi k (iandnot k m n))
  | .eql => some (vb (m == n))
  | .neq => some (vb (m != n))
  | .lss => some (vb (decide (m < n)))
  | .leq => some (vb (decide (m ≤ n)))
  | .gtr => some (vb (decide (m > n)))
  | .geq => some (vb (decide (m ≥ n)))
  | _ => none

/-! ### Cells of a value; parts put into cells -/
def okc (its : List Item) : Cell → Bool
  | .v x => x.oneCell'
  | .p i _ => match its[i]? with
    | some (.blk ..) => true
    | some (.elt ..) => true
    | _ => false
  | .s i => match its[i]? with
    | some (@Item.own _ _ _ _ _ _) => true
    | some (@Item.rd _ _ _ _ _) => true
    | _ => false
  | .t i => match its[i]? with
    | some (.str _) => true
    | _ => false
  | .m i => match its[i]? with
    | some (@Item.mp _ _ _ _ _ _) => true
    | _ => false
  | .w _ i _ => match its[i]? with
    | some (.blk ..) => true
    | _ => false
def SV.cells (its : List Item) : SV → Option (List Cell)
  | .c x => match okc its x with
    | true => some [x]
    | false => none
  | .g l => some l
  | _ => none
def fillC (its : List Item) (pl : Nat → Option (Nat × Nat)) (cs : List Cell) : List (Nat × SV) → Option (List Cell)
  | [] => some cs
  | (i, x) :: r => match pl i, x.cells its with
    | some (off, n), some c => (match Nat.beq c.length n && Nat.ble (off + c.length) cs.length with
      | true => fillC its pl (cs.take off ++ c ++ cs.drop (off + c.length)) r
      | false => none)
    | _, _ => none
def plT (tt : TT) (fs : List Field) : Option (List (Nat × Nat)) := fs.mapM fun f => (lkT f.type tt).map fun i => (f.offset, i.size)
def partsE (E : Operand → Option SV) (ps : List (Nat × Operand)) : Option (List (Nat × SV)) := ps.mapM fun p => (E p.2).map fun v => (p.1, v)
def strC (its : List Item) : Cell → Option (List Int)
  | .t i => match its[i]? with
    | some (.str s) => some s
    | _ => none
  | .v (.string s) => some (strOf s)
  | _ => none

def cellOf : SV → Option Cell
  | .c x => some x
  | _ => none
def load1 (its : List Item) (ld : Nat → Bool) (i o : Nat) (agg : Bool) (n : Nat) : Option SV :=
  match ld i, its[i]? with
  | true, some (.blk _ cs) => (match agg with
    | true => (match Nat.beq ((cs.drop o).take n).length n with
      | true => some (.g ((cs.drop o).take n))
      | false => none)
    | false => (cs[o]?).map .c)
  | true, some (.elt _ _ cs) => (match agg with
    | true => (match Nat.beq ((cs.drop o).take n).length n with
      | true => some (.g ((cs.drop o).take n))
      | false => none)
    | false => (cs[o]?).map .c)
  | _, _ => none

def sv1 (tt : TT) (ld : Nat → Bool) (its : List Item) (E : Operand → Option SV) : Op → Option SV
  | .move x => E x
  | .assign x => E x
  | .binOp op ty x y _ => match E x, E y with
    | some (.c (.v (.int k m))), some (.c (.v (.int k' n))) => (match keq k k' with
      | true => bin1 k m n op
      | false => none)
    | some (.c (.v (.bool m))), some (.c (.v (.bool n))) => (match lkT ty tt, op with
      | some ⟨.bool, _, _, _, _⟩, .eql => some (vb (m == n))
      | some ⟨.bool, _, _, _, _⟩, .neq => some (vb (m != n))
      | _, _ => none)
    | some (.c a), some (.c b) => (match strC its a, strC its b, op with
      | some s, some u, .eql => some (vb (s == u))
      | some s, some u, .neq => some (vb (s != u))
      | _, _, _ => none)
    | _, _ => none
  | .unOp .not _ x => match E x with
    | some (.c (.v (.bool b))) => some (vb (!b))
    | _ => none
  | .unOp .neg _ x => match E x with
    | some (.c (.v (.int k m))) => some (vi k (wr k (0 - m)))
    | _ => none
  | .convert src dst x => match E x, lkT src tt, lkT dst tt with
    | some (.c (.v (.int _ m))), some _, some ⟨.int k', _, _, _, _⟩ => some (vi k' (wr k' m))
    | _, _, _ => none
  | .extract x i => match E x with
    | some (.u l) => (match l[i]? with
      | some (.inl c) => some (.c c)
      | some (.inr l) => some (.g l)
      | none => none)
    | _ => none
  | .nilCheck x => match E x with
    | some (.c (.p i o)) => (match its[i]? with
      | some (.blk ..) => some (.c (.p i o))
      | some .adr => some (.c (.p i o))
      | some (.elt ..) => some (.c (.p i o))
      | _ => none)
    | _ => none
  | .fieldAddr s x f => match E x, lkT s tt with
    | some (.c (.p i o)), some ⟨.struct fs, _, _, _, _⟩ => (match its[i]?, fs[f]? with
      | some (.blk ..), some fd => (match lkT fd.type tt with
        | some ti => (match Nat.beq ti.size 0 with
          | false => some (.c (.p i (o + fd.offset)))
          | true => none)
        | none => none)
      | some .adr, some fd => (match lkT fd.type tt with
        | some ti => (match Nat.beq ti.size 0 with
          | false => some (.c (.p i (o + fd.offset)))
          | true => none)
        | none => none)
      | some (.elt ..), some fd => (match lkT fd.type tt with
        | some ti => (match Nat.beq ti.size 0 with
          | false => some (.c (.p i (o + fd.offset)))
          | true => none)
        | none => none)
      | _, _ => none)
    | _, _ => none
  | .indexAddr ty x y => match E x, E y, lkT ty tt with
    | some (.c (.p i o)), some (.c (.v (.int _ iv))), some ⟨.array n e, _, _, _, _⟩ => (match lkT e tt, decide (0 ≤ iv) && decide (iv < n) with
      | some te, true => (match its[i]? with
        | some (.blk ..) => some (.c (.p i (o + iv.toNat * te.size)))
        | some .adr => some (.c (.p i (o + iv.toNat * te.size)))
        | _ => none)
      | _, _ => none)
    | _, _, _ => none
  | .load ty x => match E x, lkT ty tt with
    | some (.c (.p i o)), some ti => load1 its ld i o ti.agg ti.size
    | _, _ => none
  | .field s x f => match E x, lkT s tt with
    | some (.g cs), some ⟨.struct fs, _, _, _, _⟩ => (match fs[f]? with
      | some fd => (match lkT fd.type tt with
        | some ⟨_, true, n, _, _⟩ => some (.g ((cs.drop fd.offset).take n))
        | some ⟨_, false, _, _, _⟩ => (cs[fd.offset]?).map .c
        | none => none)
      | none => none)
    | _, _ => none
  | .build s ps => match lkT s tt, partsE E ps.toList with
    | some ⟨.struct fs, _, _, some z, _⟩, some xs => (match plT tt fs.toList with
      | some pl => (fillC its (pl[·]?) (z.cells.toList.map .v) xs).map .g
      | none => none)
    | some ⟨.array _ e, _, _, some z, _⟩, some xs => (match lkT e tt with
      | some ti => (fillC its (fun i => some (i * ti.size, ti.size)) (z.cells.toList.map .v) xs).map .g
      | none => none)
    | _, _ => none
  | .call ⟨.builtin .len, as, ts⟩ => match as.toList, ts.toList with
    | [x], [ty] => (match E x, lkT ty tt with
      | some (.c (.v (.slice none 0 0))), some ⟨.slice _, _, _, _, _⟩ => some (vi .i64 0)
      | some (.c (.s i)), some ⟨.slice _, _, _, _, _⟩ => (match its[i]? with
        | some (@Item.own _ _ _ _ _ l) => some (vi .i64 (len l))
        | some (@Item.rd _ _ _ _ l) => some (vi .i64 (len l))
        | _ => none)
      | some (.c c), some ⟨.string, _, _, _, _⟩ => (strC its c).map fun s => vi .i64 (len s)
      | _, _ => none)
    | _, _ => none
  | .call ⟨.builtin .min, as, _⟩ => match as.toList with
    | [x, y] => (match E x, E y with
      | some (.c (.v (.int k m))), some (.c (.v (.int k' n))) => (match keq k k' with
        | true => some (vi k (imin m n))
        | false => none)
      | _, _ => none)
    | _ => none
  | .call ⟨.builtin .max, as, _⟩ => match as.toList with
    | [x, y] => (match E x, E y with
      | some (.c (.v (.int k m))), some (.c (.v (.int k' n))) => (match keq k k' with
        | true => some (vi k (imax m n))
        | false => none)
      | _, _ => none)
    | _ => none
  | .makeFunc (.func f) first cap => match first.toList, cap.toList.mapM E with
    | [], some xs => (xs.mapM cellOf).map (.f f)
    | _, _ => none
  | _ => none

section
variable {P : Program} {N n0 : Nat} {fx : Fx} {its : List Item} {κ : List Conc} {w : World} {tt : TT} {ld : Nat → Bool} {E : Operand → Option SV} {l : Env}
theorem ad_zero (ad : Addr) : ad.add 0 = ad := by simp [Addr.add]
theorem strC_ok (S : Kno its κ w) {c : Cell} {s : List Int} (h : strC its c = some s) : ∃ b, c.den κ = .string b ∧ strOf b = s := by
  cases c with
  | t i =>
    simp only [strC] at h
    split at h
    · rename_i s' he
      injection h with h; subst h
      obtain ⟨c, _, h1, h2⟩ := S _ _ he
      cases c with
      | s x => exact ⟨x, by simp [Cell.den, h1], h2⟩
      | _ => exact h2.elim
    · cases h
  | v x =>
    cases x with
    | string b => simp only [strC, Option.some.injEq] at h; exact ⟨b, rfl, h⟩
    | _ => cases h
  | _ => cases h
/-- A pointer into a variable or an element. -/
theorem ptr_ok (S : Kno its κ w) {i o : Nat} {it : Item} (h : its[i]? = some it) (hk : (∃ T cs, it = .blk T cs) ∨ (∃ s ow cs, it = .elt s ow cs) ∨ it = .adr) :
    ∃ ad : Addr, (Cell.p i o).den κ = .pointer (some (ad.add o)) ∧ ∀ m, (Cell.p i m).den κ = .pointer (some (ad.add m)) := by
  obtain ⟨c, _, h1, h2⟩ := S _ _ h
  rcases hk with ⟨T, cs, rfl⟩ | ⟨s, ow, cs, rfl⟩ | rfl
  · cases c with
    | b n => exact ⟨⟨n, 0, none⟩, by simp [Cell.den, h1, add_lit], fun m => by simp [Cell.den, h1, add_lit]⟩
    | _ => exact h2.elim
  · cases c with
    | a ad => exact ⟨ad, by simp [Cell.den, h1], fun m => by simp [Cell.den, h1]⟩
    | _ => cases s <;> exact h2.elim
  · cases c with
    | b n => exact ⟨⟨n, 0, none⟩, by simp [Cell.den, h1, add_lit], fun m => by simp [Cell.den, h1, add_lit]⟩
    | _ => exact h2.elim
theorem load1_ok (S : Kno its κ w) {i o : Nat} {ti : TI} {ty : TypeId} (ht : TOk P ty ti) {v : SV} {x : Operand} (hx : ev l x = some ((Cell.p i o).den κ)) (h : load1 its ld i o ti.agg ti.size = some v) {d : Option Nat} {t : TypeId} {ps : String} {af : Array Edge} {g : Option (Nat × Bool)} :
    RunV P N l ⟨d, .load ty x, t, ps, af, g⟩ w (v.den κ) := by
  unfold load1 at h
  split at h
  · rename_i T cs _ he
    obtain ⟨c, _, h1, h2⟩ := S _ _ he
    cases c with
    | b n =>
      simp only [Cell.den, h1] at hx
      simp only [OK] at h2
      split at h
      · rename_i ha
        split at h
        · rename_i hl
          injection h with h; subst h
          exact rv_loadN (by rw [← ha]; exact ht.agg) ht.size hx h2 rfl (by have := Nat.eq_of_beq_eq_true hl; simpa using this) |> fun q => by simpa [SV.den] using q
        · cases h
      · rename_i ha
        cases ho : cs[o]? with
        | none => simp [ho] at h
        | some c =>
          simp only [ho, Option.map_some, Option.some.injEq] at h; subst h
          exact rv_load1 (by rw [← ha]; exact ht.agg) hx h2 (by simp [ho, SV.den])
    | _ => exact h2.elim
  · rename_i src ow cs _ he
    obtain ⟨c, _, h1, h2⟩ := S _ _ he
    cases c with
    | a ad =>
      simp only [Cell.den, h1] at hx
      have h3 : ∃ U, At U w ad (cs.map (Cell.den κ)) := by
        cases src with
        | none => exact ⟨_, h2.1⟩
        | some q => exact ⟨_, h2.1⟩
      obtain ⟨U, h3⟩ := h3
      split at h
      · rename_i ha
        split at h
        · rename_i hl
          injection h with h; subst h
          exact rv_loadAN (by rw [← ha]; exact ht.agg) ht.size hx h3 rfl (by have := Nat.eq_of_beq_eq_true hl; simpa using this) |> fun q => by simpa [SV.den] using q
        · cases h
      · rename_i ha
        cases ho : cs[o]? with
        | none => simp [ho] at h
        | some c =>
          simp only [ho, Option.map_some, Option.some.injEq] at h; subst h
          exact rv_loadA1 (by rw [← ha]; exact ht.agg) hx h3 (by simp [ho, SV.den])
    | _ => cases src <;> exact h2.elim
  · cases h
theorem okc_ok (S : Kno its κ w) {c : Cell} (h : okc its c = true) : (c.den κ).oneCell' = true := by
  cases c with
  | v x => exact h
  | w fn i o => rfl
  | p i o =>
    simp only [okc] at h
    split at h
    · rename_i he
      obtain ⟨ad, h1, _⟩ := ptr_ok S (o := o) he (.inl ⟨_, _, rfl⟩)
      rw [h1]; rfl
    · rename_i he
      obtain ⟨ad, h1, _⟩ := ptr_ok S (o := o) he (.inr (.inl ⟨_, _, _, rfl⟩))
      rw [h1]; rfl
    · cases h
  | s i =>
    simp only [okc] at h
    split at h
    · rename_i he
      obtain ⟨c, _, h1, h2⟩ := S _ _ he
      cases c with
      | r A n c => simp [Cell.den, h1, Value.oneCell']
      | _ => exact h2.elim
    · rename_i he
      obtain ⟨c, _, h1, h2⟩ := S _ _ he
      cases c with
      | r A n c => simp [Cell.den, h1, Value.oneCell']
      | _ => exact h2.elim
    · cases h
  | m i =>
    simp only [okc] at h
    split at h
    · rename_i ow _ he
      obtain ⟨c, _, h1, h2⟩ := S _ _ he
      cases c with
      | m b => simp [Cell.den, h1, Value.oneCell']
      | _ => cases ow <;> exact h2.elim
    · cases h
  | t i =>
    simp only [okc] at h
    split at h
    · rename_i he
      obtain ⟨c, _, h1, h2⟩ := S _ _ he
      cases c with
      | s x => simp [Cell.den, h1, Value.oneCell']
      | _ => exact h2.elim
    · cases h
theorem cells_den (S : Kno its κ w) {x : SV} {c : List Cell} (h : x.cells its = some c) : (x.den κ).cells = (c.map (Cell.den κ)).toArray := by
  cases x with
  | c y =>
    simp only [SV.cells] at h
    split at h
    · rename_i ho
      injection h with h; subst h
      have := okc_ok S ho
      simp only [SV.den]
      cases hy : y.den κ with
      | agg vs => rw [hy] at this; cases this
      | _ => simp [Value.cells, hy]
    · cases h
  | g l =>
    simp only [SV.cells, Option.some.injEq] at h
    subst h
    rfl
  | _ => cases h
theorem fillC_ok (S : Kno its κ w) {pl : Nat → Option (Nat × Nat)} : ∀ (xs : List (Nat × SV)) (cs r : List Cell), fillC its pl cs xs = some r → Instr.fill pl (cs.map (Cell.den κ)).toArray (xs.map fun p => (p.1, p.2.den κ)) = some (r.map (Cell.den κ)).toArray
  | [], cs, r, h => by
    simp only [fillC, Option.some.injEq] at h
    subst h; rfl
  | (i, x) :: xs, cs, r, h => by
    simp only [fillC] at h
    split at h
    · rename_i off n c hp hc
      split at h
      · rename_i hb
        simp only [Bool.and_eq_true, Nat.beq_eq, Nat.ble_eq] at hb
        have hd := cells_den S hc
        have ih := fillC_ok S xs _ r h
        have hp2 := put_cells (c.map (Cell.den κ)) 0 off (cs.map (Cell.den κ)).toArray (by simp; omega)
        have hzi : (x.den κ).cells.zipIdx.foldl (fun cs (c, j) => cs.setIfInBounds (off + j) c) (cs.map (Cell.den κ)).toArray = ((c.map (Cell.den κ)).zipIdx 0).foldl (fun cs (x : Value × Nat) => cs.setIfInBounds (off + x.2) x.1) (cs.map (Cell.den κ)).toArray := by
          rw [hd, ← Array.foldl_toList, Array.toList_zipIdx]
        simp only [List.map_cons, Instr.fill, hp]
        rw [if_neg (by simp [hd, hb.1]; omega), ← ih, hzi]
        congr 1
        apply Array.ext'
        rw [hp2]
        simp [List.map_append, List.map_take, List.map_drop]
      · cases h
    · cases h
theorem plT_ok (htt : TTOk P tt) : ∀ (fs : List Field) {pl : List (Nat × Nat)}, plT tt fs = some pl → PlOf P fs = some pl
  | [], pl, h => by simpa [plT, PlOf] using h
  | f :: fs, pl, h => by
    simp only [plT, List.mapM_cons] at h
    cases hf : lkT f.type tt with
    | none => simp [hf] at h
    | some ti =>
      cases hr : plT tt fs with
      | none =>
        unfold plT at hr
        simp [hf, hr] at h
      | some q =>
        have h2 := plT_ok htt fs hr
        unfold plT at hr
        simp [hf, hr] at h
        subst h
        unfold PlOf at h2 ⊢
        obtain ⟨info, z, hi, h3, _⟩ := (htt.get hf).info
        simp [List.mapM_cons, hi, h2, h3]
theorem partsE_ok (hE : ∀ x v, E x = some v → ev l x = some (v.den κ)) : ∀ (ps : List (Nat × Operand)) {xs : List (Nat × SV)}, partsE E ps = some xs → ps.mapM (fun p => (ev l p.2).map fun v => (p.1, v)) = some (xs.map fun p => (p.1, p.2.den κ))
  | [], xs, h => by simp [partsE] at h; subst h; rfl
  | p :: ps, xs, h => by
    simp only [partsE, List.mapM_cons] at h
    cases hp : E p.2 with
    | none => simp [hp] at h
    | some v =>
      cases hr : partsE E ps with
      | none =>
        unfold partsE at hr
        simp [hp, hr] at h
      | some q =>
        have ih := partsE_ok hE ps hr
        unfold partsE at hr
        simp [hp, hr] at h
        subst h
        simp [List.mapM_cons, hE _ _ hp, ih]
theorem mapE_ok (hE : ∀ x v, E x = some v → ev l x = some (v.den κ)) : ∀ (ps : List Operand) {xs : List SV}, ps.mapM E = some xs → ps.mapM (ev l) = some (xs.map (SV.den κ))
  | [], xs, h => by simp at h; subst h; rfl
  | p :: ps, xs, h => by
    simp only [List.mapM_cons] at h
    cases hp : E p with
    | none => simp [hp] at h
    | some v =>
      cases hr : ps.mapM E with
      | none => simp [hp, hr] at h
      | some q =>
        simp [hp, hr] at h
        subst h
        simp [List.mapM_cons, hE _ _ hp, mapE_ok hE ps hr]
end
end V
end Go.Proofs.YtladkmnfmpojiaaGreatDoor
