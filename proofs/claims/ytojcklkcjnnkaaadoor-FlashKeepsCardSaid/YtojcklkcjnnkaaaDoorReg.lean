/-
  Whole statements without a choice, computed on descriptions; guards ('&&', '||') included.
-/
import Derived.Test.YtojcklkcjnnkaaaDoorSim2
namespace Go.Proofs.YtojcklkcjnnkaaaDoor
namespace V

/-- A slot's description under guards: the guards (slots and what they must hold), the same as one truth value. -/
structure Ent where
  pa : List (Nat × Bool)
  g : Bool
  x : SV
abbrev EnvC := List (Nat × Ent)
def lkC (t : Nat) : EnvC → Option Ent
  | [] => none
  | (d, v) :: l => match Nat.beq t d with
    | true => some v
    | false => lkC t l
def denX (κ : List Conc) (e : Ent) : Value := match e.g with
  | true => e.x.den κ
  | false => undef
def denC (κ : List Conc) (e : EnvC) : Env := e.map fun p => (p.1, denX κ p.2)
def beqB : Bool → Bool → Bool
  | true, true => true
  | false, false => true
  | _, _ => false
def beqP : List (Nat × Bool) → List (Nat × Bool) → Bool
  | [], [] => true
  | (s, b) :: p, (s', b') :: p' => Nat.beq s s' && (beqB b b' && beqP p p')
  | _, _ => false
/-- q is a tail of p. -/
def tail? (q : List (Nat × Bool)) : List (Nat × Bool) → Bool
  | [] => beqP q []
  | x :: p => beqP q (x :: p) || tail? q p
/-- An operand under guards: two ways may be known to be gone. -/
def evC (env : EnvC) (pa pb : List (Nat × Bool)) : Operand → Option SV
  | .tmp t => match lkC t env with
    | some e => (match tail? e.pa pa || tail? e.pa pb with
      | true => some e.x
      | false => none)
    | none => none
  | o => evS [] o
def gbit (b v : Bool) : Bool := match b with
  | true => v
  | false => !v
def gpath (ops : Array Oper) (env : EnvC) : Option (Nat × Bool) → Option (List (Nat × Bool) × Bool)
  | none => some ([], true)
  | some (j, b) => match (ops[j]?).bind (·.dst) with
    | some s => (match lkC s env with
      | some ⟨pa, g, .c (.v (.bool v))⟩ => some ((s, b) :: pa, (match pa with
        | [] => gbit b v
        | _ => g && gbit b v))
      | _ => none)
    | none => none
def pickV (x y : Operand) (v : Bool) : Option SV → Option SV → Option SV
  | some (.c (.v (.bool bx))), some (.c (.v (.bool by'))) => match x, y with
    | _, .const (.bool false) => some (vb (v && bx))
    | .const (.bool true), _ => some (vb (v || by'))
    | _, _ => some (vb (match v with | true => bx | false => by'))
  | _, _ => none
def free? (d : Nat) (env : EnvC) (pa : List (Nat × Bool)) : Bool := env.all (fun p => p.2.pa.all fun q => !Nat.beq q.1 d) && pa.all fun q => !Nat.beq q.1 d
/-- What a number or an element is known to be. -/
def evi (op : BinOp) (k : IntKind) (m n : Int) : Option Int := match op with
  | .quo => iquo k m n
  | .rem => irem m n
  | .shl => ishl k m n
  | .shr => ishr k m n
  | _ => none
inductive Evi where
  | bin (op : BinOp) (k : IntKind) (m n e : Int) (h : evi op k m n = some e)
  | ix (l : List Int) (i x : Int) (h : idx l i = some x)
  | el (j : Nat)
def beqOp : BinOp → BinOp → Bool
  | .quo, .quo => true
  | .rem, .rem => true
  | .shl, .shl => true
  | .shr, .shr => true
  | _, _ => false
def intsOf : List Cell → Option (IntKind × List Int)
  | [.v (.int k x)] => some (k, [x])
  | .v (.int k x) :: r => match intsOf r with
    | some (k', xs) => (match keq k k' with
      | true => some (k, x :: xs)
      | false => none)
    | none => none
  | _ => none
def svE (tt : TT) (its : List Item) (E : Operand → Option SV) : Op → Evi → Option (SV × List Int × List Int)
  | .binOp op _ x y _, .bin op' k m n e _ => match E x, E y with
    | some (.c (.v (.int k1 m'))), some (.c (.v (.int k2 n'))) => (match keq k k1 && (beqOp op op' && (keq k k2 || (beqOp op .shl || beqOp op .shr))) with
      | true => some (vi k e, [m', n'], [m, n])
      | false => none)
    | _, _ => none
  | .index s x i, .ix l iv e _ => match E x, E i, lkT s tt with
    | some (.g cs), some (.c (.v (.int _ iv'))), some ⟨.array n el, _, _, _, _⟩ => (match intsOf cs, lkT el tt with
      | some (k, l'), some ⟨_, false, 1, _, _⟩ => (match Nat.beq cs.length n && Nat.beq l.length l'.length with
        | true => some (vi k e, iv' :: l', iv :: l)
        | false => none)
      | _, _ => none)
    | _, _, _ => none
  | .indexAddr s x i, .el j => match E x, E i, lkT s tt, its[j]? with
    | some (.c (.s a)), some (.c (.v (.int _ iv))), some ⟨.slice el, _, _, _, _⟩, some (.elt (some (a', iv')) _ cs) => (match lkT el tt with
      | some ti => (match Nat.beq a a' && Nat.beq cs.length ti.size with
        | true => some (vp j 0, [iv], [iv'])
        | false => none)
      | none => none)
    | _, _, _, _ => none
  | _, _ => none
/-- Elements of the call's own rows are not known any more. -/
def Item.kill : Item → Item
  | .elt _ true _ => .gone
  | it => it
def kl (its : List Item) : List Item := match its.any Item.ow with
  | true => its.map Item.kill
  | false => its
def setB (its : List Item) (i : Nat) (T : TypeId) (cs : List Cell) : List Item := its.set i (.blk T cs)
/-- A store into a variable. -/
def stR (tt : TT) (its : List Item) (E : Operand → Option SV) : Op → Option (Nat × TypeId × List Cell)
  | .store ty x y => match E x, E y, lkT ty tt with
    | some (.c (.p i o)), some v, some ti => (match its[i]?, v.cells its with
      | some (.blk T cs), some vs => (match Nat.beq vs.length ti.size && (vs.all (okc its) && (vs.all (Cell.lt its.length) && Nat.ble (o + vs.length) cs.length)) with
        | true => some (i, T, cs.take o ++ vs ++ cs.drop (o + vs.length))
        | false => none)
      | _, _ => none)
    | _, _, _ => none
  | _ => none
def simR (N : Nat) (tt : TT) (ld : Nat → Bool) (ops : Array Oper) : List Oper → List Evi → EnvC → List Item → Option (EnvC × List Item × List Int × List Int)
  | [], _, env, its => some (env, its, [], [])
  | ⟨some d, op, _, _, _, gd⟩ :: r, evs, env, its => match gpath ops env gd with
    | none => none
    | some (pa, g) => match free? d env pa && Nat.blt d N with
      | false => none
      | true => match op with
        | .pick c x y => (match c, evC env pa pa c with
          | .tmp s, some (.c (.v (.bool v))) => (match lkC s env with
            | some ec => (match pickV x y v (evC env pa ((s, true) :: ec.pa) x) (evC env pa ((s, false) :: ec.pa) y) with
              | some z => simR N tt ld ops r evs ((d, ⟨pa, g, z⟩) :: env) its
              | none => none)
            | none => none)
          | _, _ => none)
        | op => match sv1 tt ld its (evC env pa pa) op with
          | some v => (match v.lt its.length with
            | true => simR N tt ld ops r evs ((d, ⟨pa, g, v⟩) :: env) its
            | false => none)
          | none => match evs, pa with
            | ev :: evs', [] => (match svE tt its (evC env [] []) op ev with
              | some (v, a, b) => (match v.lt its.length with
                | true => (simR N tt ld ops r evs' ((d, ⟨[], true, v⟩) :: env) its).map fun q => (q.1, q.2.1, a ++ q.2.2.1, b ++ q.2.2.2)
                | false => none)
              | none => none)
            | _, _ => none
  | ⟨none, op, _, _, _, none⟩ :: r, evs, env, its => match stR tt (kl its) (evC env [] []) op with
    | some (i, T, cs) => simR N tt ld ops r evs env (setB (kl its) i T cs)
    | none => match sv1 tt ld its (evC env [] []) op with
      | some _ => simR N tt ld ops r evs env its
      | none => none
  | _, _, _, _ => none
def toC (e : Env') : EnvC := e.map fun p => (p.1, ⟨[], true, p.2⟩)
def outE (env : EnvC) : List Nat → Option Env'
  | [] => some []
  | t :: ts => match lkC t env with
    | some ⟨[], _, x⟩ => (match outE env ts with
      | some e => some ((t, x) :: e)
      | none => none)
    | _ => none
def simT (N : Nat) (tt : TT) (ld : Nat → Bool) (ops : Array Oper) (r : List Oper) (evs : List Evi) (env : Env') (its : List Item) (ts : List Nat) : Option (Env' × List Item × List Int × List Int) :=
  (simR N tt ld ops r evs (toC env) its).bind fun q => (outE q.1 ts).map fun e => (e, q.2)

/-! ### It is right -/
/-- The guards of a frame fit together. -/
def WF (env : EnvC) : Prop := ∀ t e, lkC t env = some e → match e.pa with
  | [] => e.g = true
  | (s, b) :: p => ∃ g' v, lkC s env = some ⟨p, g', vb v⟩ ∧ e.g = (match p with
    | [] => gbit b v
    | _ => g' && gbit b v)
def scC (n : Nat) (env : EnvC) : Prop := ∀ t e, lkC t env = some e → e.x.lt n = true
theorem beqB_eq : ∀ {a b : Bool}, beqB a b = true → a = b := by intro a b h; cases a <;> cases b <;> first | rfl | cases h
theorem beqP_eq : ∀ {p q : List (Nat × Bool)}, beqP p q = true → p = q
  | [], [], _ => rfl
  | (s, b) :: p, (s', b') :: p', h => by
    simp only [beqP, Bool.and_eq_true] at h
    rw [Nat.eq_of_beq_eq_true h.1, beqB_eq h.2.1, beqP_eq h.2.2]
/-- 'the guards pa, which come to g' -/
def Fits (env : EnvC) (pa : List (Nat × Bool)) (g : Bool) : Prop := match pa with
  | [] => g = true
  | (s, b) :: p => ∃ g' v, lkC s env = some ⟨p, g', vb v⟩ ∧ g = (match p with
    | [] => gbit b v
    | _ => g' && gbit b v)
theorem Fits.step {env : EnvC} (hw : WF env) {s : Nat} {b : Bool} {p : List (Nat × Bool)} {g : Bool} (h : Fits env ((s, b) :: p) g) (hg : g = true) : ∃ v, lkC s env = some ⟨p, true, vb v⟩ ∧ gbit b v = true := by
  obtain ⟨g', v, h1, h2⟩ := h
  have := hw s _ h1
  cases p with
  | nil =>
    simp only at this
    subst this
    exact ⟨v, h1, by simpa [hg] using h2.symm⟩
  | cons q p =>
    simp only [hg] at h2
    have h3 : g' = true ∧ gbit b v = true := by simpa using h2.symm
    rw [h3.1] at h1
    exact ⟨v, h1, h3.2⟩
theorem Fits.tail {env : EnvC} (hw : WF env) {q : List (Nat × Bool)} : ∀ {pa : List (Nat × Bool)} {g : Bool}, Fits env pa g → g = true → tail? q pa = true → Fits env q true
  | [], g, h, hg, ht => by
    have := beqP_eq ht
    subst this
    exact rfl
  | (s, b) :: p, g, h, hg, ht => by
    simp only [tail?, Bool.or_eq_true] at ht
    rcases ht with ht | ht
    · have := beqP_eq ht
      subst this
      subst hg
      exact h
    · obtain ⟨v, h1, h2⟩ := h.step hw hg
      exact Fits.tail hw (hw s _ h1) rfl ht
theorem Fits.det {env : EnvC} {pa : List (Nat × Bool)} {g g' : Bool} (h : Fits env pa g) (h' : Fits env pa g') : g = g' := by
  cases pa with
  | nil => exact h.trans h'.symm
  | cons q p =>
    obtain ⟨g1, v1, h1, h2⟩ := h
    obtain ⟨g2, v2, h3, h4⟩ := h'
    rw [h1] at h3
    injection h3 with h3
    injection h3 with _ h3 h5
    subst h3
    have : v1 = v2 := by injection h5 with h5; injection h5 with h5; injection h5
    subst this
    exact h2.trans h4.symm
theorem lkC_den {κ : List Conc} {t : Nat} {x : Ent} : ∀ {e : EnvC}, lkC t e = some x → lk t (denC κ e) = some (denX κ x)
  | (d, v) :: l, h => by
    simp only [lkC] at h
    simp only [denC, List.map_cons, lk]
    cases hb : Nat.beq t d with
    | true => rw [hb] at h; simp only [Option.some.injEq] at h; simp [h]
    | false => rw [hb] at h; exact lkC_den (e := l) h
section
variable {P : Program} {N n0 : Nat} {fx : Fx} {its its' : List Item} {κ : List Conc} {w : World} {tt : TT} {ld : Nat → Bool} {ops : Array Oper} {Kn : Act → World → Prop}
theorem evC_ok {env : EnvC} (hw : WF env) {pa pb : List (Nat × Bool)} {ga gb : Bool} (ha : Fits env pa ga) (hga : ga = true) (hb : Fits env pb gb) (hgb : gb = true) : ∀ x v, evC env pa pb x = some v → ev (denC κ env) x = some (v.den κ) := by
  intro x v h
  cases x with
  | tmp t =>
    simp only [evC] at h
    split at h
    · rename_i e he
      split at h
      · rename_i ht
        injection h with h; subst h
        have hf : Fits env e.pa true := by
          rcases Bool.or_eq_true_iff.1 ht with ht | ht
          · exact ha.tail hw hga ht
          · exact hb.tail hw hgb ht
        have hg : e.g = true := Fits.det (hw t e he) hf
        simp only [ev, lkC_den he, denX, hg]
      · cases h
    · cases h
  | const c =>
    have := evS_den (κ := κ) (e := []) (x := .const c) h
    cases c <;> exact this
  | global g => cases h
  | func f => exact evS_den (κ := κ) (e := []) (x := .func f) h
theorem evC_lt {env : EnvC} {n : Nat} (hs : scC n env) {pa pb : List (Nat × Bool)} : ∀ x v, evC env pa pb x = some v → v.lt n = true := by
  intro x v h
  cases x with
  | tmp t =>
    simp only [evC] at h
    split at h
    · rename_i e he
      split at h
      · injection h with h; subst h
        exact hs t e he
      · cases h
    · cases h
  | const c => exact evS_lt (e := []) (x := .const c) rfl h
  | global g => cases h
  | func f => exact evS_lt (e := []) (x := .func f) rfl h
theorem lkC_cons_ne {s d : Nat} {e : Ent} {env : EnvC} (h : Nat.beq s d = false) : lkC s ((d, e) :: env) = lkC s env := by simp only [lkC, h]
theorem free_ne {d : Nat} {env : EnvC} {pa : List (Nat × Bool)} (h : free? d env pa = true) : (∀ t e, lkC t env = some e → ∀ s b p, e.pa = (s, b) :: p → Nat.beq s d = false) ∧ ∀ s b p, pa = (s, b) :: p → Nat.beq s d = false := by
  simp only [free?, Bool.and_eq_true] at h
  obtain ⟨h1, h2⟩ := h
  rw [List.all_eq_true] at h1
  refine ⟨fun t e he s b p hp => ?_, fun s b p hp => ?_⟩
  · have hm : ∀ {env : EnvC}, lkC t env = some e → (t, e) ∈ env := by
      intro env
      induction env with
      | nil => intro h; cases h
      | cons q l ih =>
        obtain ⟨d, v⟩ := q
        intro h
        simp only [lkC] at h
        cases hb : Nat.beq t d with
        | true =>
          rw [hb] at h; simp only [Option.some.injEq] at h
          rw [Nat.eq_of_beq_eq_true hb, h]
          exact List.mem_cons_self ..
        | false => rw [hb] at h; exact List.mem_cons_of_mem _ (ih h)
    have := h1 _ (hm he)
    rw [hp] at this
    simp only [List.all_cons, Bool.and_eq_true, Bool.not_eq_true'] at this
    exact this.1
  · rw [hp] at h2
    simp only [List.all_cons, Bool.and_eq_true, Bool.not_eq_true'] at h2
    exact h2.1
theorem Fits.push {env : EnvC} {pa : List (Nat × Bool)} {g : Bool} {d : Nat} {e : Ent} (h : Fits env pa g) (hd : ∀ s b p, pa = (s, b) :: p → Nat.beq s d = false) : Fits ((d, e) :: env) pa g := by
  cases pa with
  | nil => exact h
  | cons q p =>
    obtain ⟨s, b⟩ := q
    obtain ⟨g', v, h1, h2⟩ := h
    exact ⟨g', v, by rw [lkC_cons_ne (hd s b p rfl)]; exact h1, h2⟩
theorem WF.push {env : EnvC} (hw : WF env) {d : Nat} {pa : List (Nat × Bool)} {g : Bool} {x : SV} (hf : Fits env pa g) (hd : free? d env pa = true) : WF ((d, ⟨pa, g, x⟩) :: env) := by
  obtain ⟨h1, h2⟩ := free_ne hd
  intro t e he
  simp only [lkC] at he
  cases hb : Nat.beq t d with
  | true =>
    rw [hb] at he; simp only [Option.some.injEq] at he
    subst he
    exact Fits.push hf h2
  | false =>
    rw [hb] at he
    exact Fits.push (hw t e he) (h1 t e he)
theorem scC.push {env : EnvC} {n : Nat} (hs : scC n env) {d : Nat} {e : Ent} (he : e.x.lt n = true) : scC n ((d, e) :: env) := by
  intro t e' h
  simp only [lkC] at h
  cases hb : Nat.beq t d with
  | true => rw [hb] at h; simp only [Option.some.injEq] at h; subst h; exact he
  | false => rw [hb] at h; exact hs t e' h
theorem gpath_ok {env : EnvC} {gd : Option (Nat × Bool)} {pa : List (Nat × Bool)} {g : Bool} (h : gpath ops env gd = some (pa, g)) : Fits env pa g := by
  cases gd with
  | none =>
    simp only [gpath, Option.some.injEq, Prod.mk.injEq] at h
    obtain ⟨rfl, rfl⟩ := h
    exact rfl
  | some q =>
    obtain ⟨j, b⟩ := q
    simp only [gpath] at h
    split at h
    · split at h
      · rename_i s hs pa' g' v hl
        simp only [Option.some.injEq, Prod.mk.injEq] at h
        obtain ⟨rfl, rfl⟩ := h
        exact ⟨g', v, hl, rfl⟩
      · cases h
    · cases h
/-- One operation under its guards. -/
theorem step_val {env : EnvC} {rest : List Oper} {d : Nat} {op : Op} {t : TypeId} {ps : String} {af : Array Edge} {gd : Option (Nat × Bool)} {pa : List (Nat × Bool)} {g : Bool} {x : SV} (hw : WF env) (hp : gpath ops env gd = some (pa, g)) (hN : Nat.blt d N = true)
    (hr : g = true → RunV P N (denC κ env) ⟨some d, op, t, ps, af, none⟩ w (x.den κ)) (h : WL P fx.px ops rest Kn N (denC κ ((d, ⟨pa, g, x⟩) :: env)) w) : WL P fx.px ops (⟨some d, op, t, ps, af, gd⟩ :: rest) Kn N (denC κ env) w := by
  cases gd with
  | none =>
    simp only [gpath, Option.some.injEq, Prod.mk.injEq] at hp
    obtain ⟨rfl, rfl⟩ := hp
    exact WL.val (hr rfl) hN h
  | some q =>
    obtain ⟨j, b⟩ := q
    have hf := gpath_ok hp
    simp only [gpath] at hp
    split at hp
    · rename_i s hs
      split at hp
      · rename_i pa' g' v hl
        simp only [Option.some.injEq, Prod.mk.injEq] at hp
        obtain ⟨rfl, hg⟩ := hp
        have hls := lkC_den (κ := κ) hl
        have hwf := hw s _ hl
        cases hgg : g with
        | true =>
          obtain ⟨v', h1, h2⟩ := hf.step hw hgg
          rw [hl] at h1
          injection h1 with h1
          injection h1 with _ h3 h4
          subst h3
          have hvv : v = v' := by injection h4 with h4; injection h4 with h4; injection h4
          subst hvv
          simp only [denX, SV.den, Cell.den] at hls
          have hx : v = b := by cases b <;> cases v <;> simp_all [gbit]
          refine WL.yes hs hls hx (WL.val (hr hgg) hN ?_)
          rw [hgg] at h
          exact h
        | false =>
          rw [hgg] at h
          have hun : denC κ ((d, ⟨(s, b) :: pa', false, x⟩) :: env) = (d, undef) :: denC κ env := rfl
          rw [hun] at h
          cases hg' : g' with
          | true =>
            subst hg'
            simp only [denX, SV.den, Cell.den] at hls
            have hx : v = !b := by
              rw [hgg] at hg
              cases pa' <;> cases b <;> cases v <;> simp_all [gbit]
            exact WL.no hs hls hx hN h
          | false =>
            subst hg'
            simp only [denX] at hls
            exact WL.noU hs hls hN h
      · cases hp
    · cases hp
end
end V
end Go.Proofs.YtojcklkcjnnkaaaDoor
