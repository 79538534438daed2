/-
  Statements by reckoning.
-/
import Derived.Test.YtladkmnfmpojiaaGreatDoorLc
namespace Go.Proofs.YtladkmnfmpojiaaGreatDoor
namespace V
section
variable {P : Program} {N n0 : Nat} {fx : Fx} {env : Env'} {its : List Item} {κ : List Conc} {w : World} {tt : TT} {ld : Nat → Bool} {E : Operand → Option SV} {l : Env}
variable {d : Option Nat} {t : TypeId} {ps : String} {af : Array Edge} {g : Option (Nat × Bool)}
theorem bin1_ok {k : IntKind} {m n : Int} {op : BinOp} {ty ty2 : TypeId} {x y : Operand} {v : SV} (hx : ev l x = some (.int k m)) (hy : ev l y = some (.int k n)) (h : bin1 k m n op = some v) : RunV P N l ⟨d, .binOp op ty x y ty2, t, ps, af, g⟩ w (v.den κ) := by
  cases op <;> simp only [bin1, Option.some.injEq, reduceCtorEq] at h <;> subst h
  · exact rv_add hx hy (wr_eq k _)
  · exact rv_sub hx hy (wr_eq k _)
  · exact rv_mul hx hy (wr_eq k _)
  · exact rv_and hx hy
  · exact rv_or hx hy
  · exact rv_xor hx hy
  · exact rv_andNot hx hy
  · exact rv_eql hx hy
  · exact rv_neq hx hy
  · exact rv_lss hx hy
  · exact rv_leq hx hy
  · exact rv_gtr hx hy
  · exact rv_geq hx hy
theorem binOp_ok (htt : TTOk P tt) (S : Kno its κ w) (hE : ∀ x v, E x = some v → ev l x = some (v.den κ)) {op : BinOp} {ty ty2 : TypeId} {x y : Operand} {v : SV} (h : sv1 tt ld its E (.binOp op ty x y ty2) = some v) : RunV P N l ⟨d, .binOp op ty x y ty2, t, ps, af, g⟩ w (v.den κ) := by
  simp only [sv1] at h
  split at h
  · rename_i k m k' n hx hy
    split at h
    · rename_i hk
      have := keq_eq hk
      subst this
      exact bin1_ok (hE _ _ hx) (hE _ _ hy) h
    · cases h
  · rename_i m n hx hy
    split at h
    · rename_i ht
      injection h with h; subst h
      exact rv_eqlb (htt.get ht).und (hE _ _ hx) (hE _ _ hy)
    · rename_i ht
      injection h with h; subst h
      exact rv_neqb (htt.get ht).und (hE _ _ hx) (hE _ _ hy)
    · cases h
  · rename_i a b _ _ hx hy
    split at h
    · rename_i s u hs hu
      injection h with h; subst h
      obtain ⟨b1, h1, h2⟩ := strC_ok S hs
      obtain ⟨b2, h3, h4⟩ := strC_ok S hu
      have h5 := hE _ _ hx
      have h6 := hE _ _ hy
      simp only [SV.den, h1, h3] at h5 h6
      exact rv_eqlss' h2 h4 h5 h6
    · rename_i s u hs hu
      injection h with h; subst h
      obtain ⟨b1, h1, h2⟩ := strC_ok S hs
      obtain ⟨b2, h3, h4⟩ := strC_ok S hu
      have h5 := hE _ _ hx
      have h6 := hE _ _ hy
      simp only [SV.den, h1, h3] at h5 h6
      exact rv_neqss' h2 h4 h5 h6
    · cases h
  · cases h
theorem field_ok (htt : TTOk P tt) (hE : ∀ x v, E x = some v → ev l x = some (v.den κ)) {s : TypeId} {f : Nat} {x : Operand} {v : SV} (h : sv1 tt ld its E (.field s x f) = some v) : RunV P N l ⟨d, .field s x f, t, ps, af, g⟩ w (v.den κ) := by
  simp only [sv1] at h
  split at h
  · rename_i cs fs _ _ _ _ hx ht
    split at h
    · rename_i fd hf
      have hu := (htt.get ht).und
      split at h
      · rename_i u n z by' hti
        injection h with h; subst h
        have := rv_fieldN (N := N) (w := w) (d := d) (t := t) (ps := ps) (af := af) (g := g) hu hf (htt.get hti).agg (htt.get hti).size (hE _ _ hx) rfl
        simpa [SV.den, List.map_take, List.map_drop] using this
      · rename_i u n z by' hti
        cases hc : cs[fd.offset]? with
        | none => simp [hc] at h
        | some c =>
          simp only [hc, Option.map_some, Option.some.injEq] at h; subst h
          exact rv_field1 hu hf (htt.get hti).agg (hE _ _ hx) (by simp [hc, SV.den])
      · cases h
    · cases h
  · cases h
theorem build_ok (htt : TTOk P tt) (S : Kno its κ w) (hE : ∀ x v, E x = some v → ev l x = some (v.den κ)) {s : TypeId} {as : Array (Nat × Operand)} {v : SV} (h : sv1 tt ld its E (.build s as) = some v) : RunV P N l ⟨d, .build s as, t, ps, af, g⟩ w (v.den κ) := by
  have hid : ∀ z : Value, (z.cells.toList.map Cell.v).map (Cell.den κ) = z.cells.toList := fun z => by
    rw [List.map_map, show (Cell.den κ ∘ Cell.v) = id from rfl, List.map_id]
  obtain ⟨as⟩ := as
  simp only [sv1] at h
  split at h
  · rename_i fs _ _ z _ xs ht hp
    split at h
    · rename_i pl hpl
      cases hc : fillC its (pl[·]?) (z.cells.toList.map .v) xs with
      | none => simp [hc] at h
      | some r =>
        simp only [hc, Option.map_some, Option.some.injEq] at h; subst h
        have h1 := fillC_ok S xs _ r hc
        rw [hid] at h1
        obtain ⟨fs⟩ := fs
        exact rv_build ((htt.get ht).zero z rfl) (htt.get ht).und (plT_ok htt fs hpl) (partsE_ok hE as hp) (by simpa using h1)
    · cases h
  · rename_i n e _ _ z _ xs ht hp
    split at h
    · rename_i ti hti
      cases hc : fillC its (fun i => some (i * ti.size, ti.size)) (z.cells.toList.map .v) xs with
      | none => simp [hc] at h
      | some r =>
        simp only [hc, Option.map_some, Option.some.injEq] at h; subst h
        have h1 := fillC_ok S xs _ r hc
        rw [hid] at h1
        exact rv_buildArr ((htt.get ht).zero z rfl) (htt.get ht).und (htt.get hti).size (partsE_ok hE as hp) (by simpa using h1)
    · cases h
  · cases h
theorem fieldAddr_ok (htt : TTOk P tt) (S : Kno its κ w) (hE : ∀ x v, E x = some v → ev l x = some (v.den κ)) {s : TypeId} {f : Nat} {x : Operand} {v : SV} (h : sv1 tt ld its E (.fieldAddr s x f) = some v) : RunV P N l ⟨d, .fieldAddr s x f, t, ps, af, g⟩ w (v.den κ) := by
  have key : ∀ {i o : Nat} {it : Item} {fs : Array Field} {fd : Field} {ti : TI} {a : Bool} {n by' : Nat} {z : Option Value}, E x = some (.c (.p i o)) → its[i]? = some it → ((∃ T cs, it = .blk T cs) ∨ (∃ s ow cs, it = .elt s ow cs) ∨ it = .adr) → lkT s tt = some ⟨.struct fs, a, n, z, by'⟩ → fs[f]? = some fd → lkT fd.type tt = some ti → Nat.beq ti.size 0 = false →
      RunV P N l ⟨d, .fieldAddr s x f, t, ps, af, g⟩ w ((Cell.p i (o + fd.offset)).den κ) := by
    intro i o it fs fd ti a n by' z hx hi hk hs hf ht h0
    obtain ⟨ad, h1, h2⟩ := ptr_ok S (o := o) hi hk
    have h3 := hE _ _ hx
    simp only [SV.den, h1] at h3
    rw [h2]
    obtain ⟨info, z', hinf, hi, _⟩ := (htt.get ht).info
    refine rv_fieldAddr (fieldAt_of (htt.get hs).und hf hinf (fun e => ?_) rfl) h3 (add_add _ _ _)
    rw [← hi, e] at h0
    cases h0
  simp only [sv1] at h
  split at h
  · rename_i i o fs _ _ _ _ hx ht
    split at h
    · rename_i Ty cs fd hi hf
      split at h
      · rename_i ti hti
        split at h
        · rename_i h0
          injection h with h; subst h
          exact key hx hi (.inl ⟨_, _, rfl⟩) ht hf hti h0
        · cases h
      · cases h
    · rename_i fd hi hf
      split at h
      · rename_i ti hti
        split at h
        · rename_i h0
          injection h with h; subst h
          exact key hx hi (.inr (.inr rfl)) ht hf hti h0
        · cases h
      · cases h
    · rename_i Ty ow cs fd hi hf
      split at h
      · rename_i ti hti
        split at h
        · rename_i h0
          injection h with h; subst h
          exact key hx hi (.inr (.inl ⟨_, _, _, rfl⟩)) ht hf hti h0
        · cases h
      · cases h
    · cases h
  · cases h
theorem len_ok (htt : TTOk P tt) (S : Kno its κ w) (hE : ∀ x v, E x = some v → ev l x = some (v.den κ)) {as : Array Operand} {ts : Array TypeId} {v : SV} (h : sv1 tt ld its E (.call ⟨.builtin .len, as, ts⟩) = some v) : RunV P N l ⟨d, .call ⟨.builtin .len, as, ts⟩, t, ps, af, g⟩ w (v.den κ) := by
  obtain ⟨as⟩ := as
  obtain ⟨ts⟩ := ts
  simp only [sv1] at h
  split at h
  · rename_i x ty
    split at h
    · rename_i e _ _ _ _ hx ht
      injection h with h; subst h
      exact rv_len (dt := ([] : List Unit)) (htt.get ht).und (hE _ _ hx)
    · rename_i i e _ _ _ _ hx ht
      split at h
      · rename_i sz E' R _ l' hi
        injection h with h; subst h
        obtain ⟨c, _, h1, h2⟩ := S _ _ hi
        cases c with
        | r A n c =>
          have h3 := hE _ _ hx
          simp only [SV.den, Cell.den, h1] at h3
          rw [h2.1] at h3
          exact rv_len (htt.get ht).und h3
        | _ => exact h2.elim
      · rename_i sz R _ l' hi
        injection h with h; subst h
        obtain ⟨c, _, h1, h2⟩ := S _ _ hi
        cases c with
        | r A n c =>
          have h3 := hE _ _ hx
          simp only [SV.den, Cell.den, h1] at h3
          rw [h2.1] at h3
          exact rv_len (htt.get ht).und h3
        | _ => exact h2.elim
      · cases h
    · rename_i c _ _ _ _ hx ht
      cases hs : strC its c with
      | none => simp [hs] at h
      | some s =>
        simp only [hs, Option.map_some, Option.some.injEq] at h; subst h
        obtain ⟨b, h1, h2⟩ := strC_ok S hs
        have h3 := hE _ _ hx
        simp only [SV.den, h1] at h3
        subst h2
        exact rv_lens (htt.get ht).und h3
    · cases h
  · cases h
theorem minmax_ok (hE : ∀ x v, E x = some v → ev l x = some (v.den κ)) {as : Array Operand} {ts : Array TypeId} {v : SV} : (sv1 tt ld its E (.call ⟨.builtin .min, as, ts⟩) = some v → RunV P N l ⟨d, .call ⟨.builtin .min, as, ts⟩, t, ps, af, g⟩ w (v.den κ)) ∧ (sv1 tt ld its E (.call ⟨.builtin .max, as, ts⟩) = some v → RunV P N l ⟨d, .call ⟨.builtin .max, as, ts⟩, t, ps, af, g⟩ w (v.den κ)) := by
  obtain ⟨as⟩ := as
  constructor
  · intro h
    simp only [sv1] at h
    split at h
    · split at h
      · rename_i k m k' n hx hy
        split at h
        · rename_i hk
          have := keq_eq hk
          subst this
          injection h with h; subst h
          exact rv_min (hE _ _ hx) (hE _ _ hy)
        · cases h
      · cases h
    · cases h
  · intro h
    simp only [sv1] at h
    split at h
    · split at h
      · rename_i k m k' n hx hy
        split at h
        · rename_i hk
          have := keq_eq hk
          subst this
          injection h with h; subst h
          exact rv_max (hE _ _ hx) (hE _ _ hy)
        · cases h
      · cases h
    · cases h
theorem mapCell_ok : ∀ (xs : List SV) {cs : List Cell}, xs.mapM cellOf = some cs → xs.map (SV.den κ) = cs.map (Cell.den κ)
  | [], cs, h => by simp at h; subst h; rfl
  | x :: xs, cs, h => by
    simp only [List.mapM_cons] at h
    cases x with
    | c y =>
      cases hr : xs.mapM cellOf with
      | none => simp [cellOf, hr] at h
      | some q =>
        simp [cellOf, hr] at h
        subst h
        simp [mapCell_ok xs hr, SV.den]
    | _ => simp [cellOf] at h
theorem makeFunc_ok (hE : ∀ x v, E x = some v → ev l x = some (v.den κ)) {f : FuncId} {fi cap : Array Operand} {v : SV} (h : sv1 tt ld its E (.makeFunc (.func f) fi cap) = some v) : RunV P N l ⟨d, .makeFunc (.func f) fi cap, t, ps, af, g⟩ w (v.den κ) := by
  obtain ⟨fi⟩ := fi
  obtain ⟨cap⟩ := cap
  cases fi with
  | cons q fi => simp only [sv1] at h; cases h
  | nil =>
  simp only [sv1] at h
  split at h
  · rename_i xs hf hc
    cases hx : xs.mapM cellOf with
    | none => simp [hx] at h
    | some cs =>
      simp only [hx, Option.map_some, Option.some.injEq] at h
      subst h
      have := rv_makeFunc (P := P) (N := N) (w := w) (d := d) (t := t) (ps := ps) (af := af) (g := g) (f := f) (mapE_ok hE cap hc)
      rw [mapCell_ok xs hx] at this
      exact this
  · cases h
theorem ixArr_ok (htt : TTOk P tt) (S : Kno its κ w) (hE : ∀ x v, E x = some v → ev l x = some (v.den κ)) {ty : TypeId} {x y : Operand} {v : SV} (h : sv1 tt ld its E (.indexAddr ty x y) = some v) : RunV P N l ⟨d, .indexAddr ty x y, t, ps, af, g⟩ w (v.den κ) := by
  have key : ∀ {i o n : Nat} {k : IntKind} {iv : Int} {it : Item} {e : TypeId} {a : Bool} {z : Nat} {zz : Option Value} {by' : Nat} {te : TI}, E x = some (.c (.p i o)) → E y = some (.c (.v (.int k iv))) → its[i]? = some it → ((∃ T cs, it = .blk T cs) ∨ (∃ s ow cs, it = .elt s ow cs) ∨ it = .adr) → lkT ty tt = some ⟨.array n e, a, z, zz, by'⟩ → lkT e tt = some te → (decide (0 ≤ iv) && decide (iv < n)) = true →
      RunV P N l ⟨d, .indexAddr ty x y, t, ps, af, g⟩ w ((Cell.p i (o + iv.toNat * te.size)).den κ) := by
    intro i o n k iv it e a z zz by' te hx hy hi hk ht hte hd
    simp only [Bool.and_eq_true, decide_eq_true_eq] at hd
    obtain ⟨ad, h1, h2⟩ := ptr_ok S (o := o) hi hk
    have h3 := hE _ _ hx
    have h4 := hE _ _ hy
    simp only [SV.den, h1] at h3
    simp only [SV.den, Cell.den] at h4
    rw [h2]
    have hrun : ∀ w, (Instr.indexAt ty (.pointer (some (ad.add o))) (.int k iv)).run P w = .ok (.pointer (some (ad.add (o + iv.toNat * te.size)))) w := fun w => by
      rw [← add_add]
      simp [Instr.indexAt, Instr.sureAddr, asIntOf, run_underlying (htt.get ht).und, hd.1, hd.2, (htt.get hte).size]
    intro a' ha
    simp only [execOp, ha.ev h3, ha.ev h4, Sem.run_bind, hrun, Result.andThen_ok]; rfl
  simp only [sv1] at h
  split at h
  · rename_i i o k iv n e _ _ _ _ hx hy ht
    split at h
    · rename_i te hte hd
      split at h
      · rename_i hi
        injection h with h; subst h
        exact key hx hy hi (.inl ⟨_, _, rfl⟩) ht hte hd
      · rename_i hi
        injection h with h; subst h
        exact key hx hy hi (.inr (.inr rfl)) ht hte hd
      · cases h
    · cases h
  · cases h
theorem sv1_ok (htt : TTOk P tt) (S : Kno its κ w) (hE : ∀ x v, E x = some v → ev l x = some (v.den κ)) {op : Op} {v : SV} (h : sv1 tt ld its E op = some v) : RunV P N l ⟨d, op, t, ps, af, g⟩ w (v.den κ) := by
  cases op with
  | move x => exact rv_move (hE _ _ h)
  | assign x => exact rv_assign (hE _ _ h)
  | binOp op ty x y ty2 => exact binOp_ok htt S hE h
  | unOp op ty x =>
    cases op with
    | not =>
      simp only [sv1] at h
      split at h
      · rename_i b hx
        injection h with h; subst h
        exact rv_not (hE _ _ hx)
      · cases h
    | neg =>
      simp only [sv1] at h
      split at h
      · rename_i k m hx
        injection h with h; subst h
        exact rv_neg (hE _ _ hx) (wr_eq k _)
      · cases h
    | _ => cases h
  | convert src dst x =>
    simp only [sv1] at h
    split at h
    · rename_i k m sd k' _ _ _ _ hx hs hd
      injection h with h; subst h
      exact rv_conv (htt.get hs).und (htt.get hd).und (hE _ _ hx) (wr_eq k' _)
    · cases h
  | extract x i =>
    simp only [sv1] at h
    split at h
    · rename_i u hx
      split at h
      · rename_i c hc
        injection h with h; subst h
        exact rv_extract (hE _ _ hx) (by simp [hc, tel, SV.den])
      · rename_i c hc
        injection h with h; subst h
        exact rv_extract (hE _ _ hx) (by simp [hc, tel, SV.den])
      · cases h
    · cases h
  | nilCheck x =>
    simp only [sv1] at h
    split at h
    · rename_i i o hx
      split at h
      · rename_i hi
        injection h with h; subst h
        obtain ⟨ad, h1, _⟩ := ptr_ok S (o := o) hi (.inl ⟨_, _, rfl⟩)
        have h3 := hE _ _ hx
        simp only [SV.den, h1] at h3 ⊢
        exact rv_nilCheck h3
      · rename_i hi
        injection h with h; subst h
        obtain ⟨ad, h1, _⟩ := ptr_ok S (o := o) hi (.inr (.inr rfl))
        have h3 := hE _ _ hx
        simp only [SV.den, h1] at h3 ⊢
        exact rv_nilCheck h3
      · rename_i hi
        injection h with h; subst h
        obtain ⟨ad, h1, _⟩ := ptr_ok S (o := o) hi (.inr (.inl ⟨_, _, _, rfl⟩))
        have h3 := hE _ _ hx
        simp only [SV.den, h1] at h3 ⊢
        exact rv_nilCheck h3
      · cases h
    · cases h
  | fieldAddr s x f => exact fieldAddr_ok htt S hE h
  | indexAddr ty x y => exact ixArr_ok htt S hE h
  | load ty x =>
    simp only [sv1] at h
    split at h
    · rename_i i o ti hx ht
      exact load1_ok S (htt.get ht) (hE _ _ hx) h
    · cases h
  | field s x f => exact field_ok htt hE h
  | build s as => exact build_ok htt S hE h
  | call c =>
    obtain ⟨cal, as, ts⟩ := c
    cases cal with
    | builtin b =>
      cases b with
      | len => exact len_ok htt S hE h
      | min => exact (minmax_ok hE).1 h
      | max => exact (minmax_ok hE).2 h
      | _ => cases h
    | _ => cases h
  | makeFunc fn fi cap =>
    cases fn with
    | func f => exact makeFunc_ok hE h
    | _ => cases h
  | _ => cases h

/-! ### Scopes of what is computed -/
theorem all_take {α : Type} {p : α → Bool} {l : List α} (h : l.all p = true) (n : Nat) : (l.take n).all p = true := by
  rw [List.all_eq_true] at h ⊢
  exact fun x hx => h x (List.mem_of_mem_take hx)
theorem all_drop {α : Type} {p : α → Bool} {l : List α} (h : l.all p = true) (n : Nat) : (l.drop n).all p = true := by
  rw [List.all_eq_true] at h ⊢
  exact fun x hx => h x (List.mem_of_mem_drop hx)
theorem all_get {α : Type} {p : α → Bool} {l : List α} (h : l.all p = true) {i : Nat} {x : α} (hx : l[i]? = some x) : p x = true := by
  rw [List.all_eq_true] at h
  exact h x (List.mem_of_getElem? hx)
end
end V
end Go.Proofs.YtladkmnfmpojiaaGreatDoor
namespace Go.Proofs.YtladkmnfmpojiaaGreatDoor
namespace V

/-- A slot's description under guards: the guards (slots and what they must hold), the same as one truth value. -/
structure Ent where
  pa : List (Nat × Bool)
  g : Bool
  x : SV
abbrev EnvC := List (Nat × Ent)
def lkC (t : Nat) : EnvC → Option Ent
  | [] => none
  | (d, v) :: l => match Nat.beq t d with
    | true => some v
    | false => lkC t l
def denX (κ : List Conc) (e : Ent) : Value := match e.g with
  | true => e.x.den κ
  | false => undef
def denC (κ : List Conc) (e : EnvC) : Env := e.map fun p => (p.1, denX κ p.2)
def beqB : Bool → Bool → Bool
  | true, true => true
  | false, false => true
  | _, _ => false
def beqP : List (Nat × Bool) → List (Nat × Bool) → Bool
  | [], [] => true
  | (s, b) :: p, (s', b') :: p' => Nat.beq s s' && (beqB b b' && beqP p p')
  | _, _ => false
/-- q is a tail of p. -/
def tail? (q : List (Nat × Bool)) : List (Nat × Bool) → Bool
  | [] => beqP q []
  | x :: p => beqP q (x :: p) || tail? q p
/-- An operand under guards: two ways may be known to be gone. -/
def evC (env : EnvC) (pa pb : List (Nat × Bool)) : Operand → Option SV
  | .tmp t => match lkC t env with
    | some e => (match tail? e.pa pa || tail? e.pa pb with
      | true => some e.x
      | false => none)
    | none => none
  | o => evS [] o
def gbit (b v : Bool) : Bool := match b with
  | true => v
  | false => !v
def gpath (ops : Array Oper) (env : EnvC) : Option (Nat × Bool) → Option (List (Nat × Bool) × Bool)
  | none => some ([], true)
  | some (j, b) => match (ops[j]?).bind (·.dst) with
    | some s => (match lkC s env with
      | some ⟨pa, g, .c (.v (.bool v))⟩ => some ((s, b) :: pa, (match pa with
        | [] => gbit b v
        | _ => g && gbit b v))
      | _ => none)
    | none => none
def pickV (x y : Operand) (v : Bool) : Option SV → Option SV → Option SV
  | some (.c (.v (.bool bx))), some (.c (.v (.bool by'))) => match x, y with
    | _, .const (.bool false) => some (vb (v && bx))
    | .const (.bool true), _ => some (vb (v || by'))
    | _, _ => some (vb (match v with | true => bx | false => by'))
  | _, _ => none
def free? (d : Nat) (env : EnvC) (pa : List (Nat × Bool)) : Bool := env.all (fun p => p.2.pa.all fun q => !Nat.beq q.1 d) && pa.all fun q => !Nat.beq q.1 d
/-- What a number or an element is known to be. -/
def evi (op : BinOp) (k : IntKind) (m n : Int) : Option Int := match op with
  | .quo => iquo k m n
  | .rem => irem m n
  | .shl => ishl k m n
  | .shr => ishr k m n
  | _ => none
inductive Evi where
  | bin (op : BinOp) (k : IntKind) (m n e : Int) (h : evi op k m n = some e)
  | ix (l : List Int) (i x : Int) (h : idx l i = some x)
  | el (j : Nat)
def beqOp : BinOp → BinOp → Bool
  | .quo, .quo => true
  | .rem, .rem => true
  | .shl, .shl => true
  | .shr, .shr => true
  | _, _ => false
def intsOf : List Cell → Option (IntKind × List Int)
  | [.v (.int k x)] => some (k, [x])
  | .v (.int k x) :: r => match intsOf r with
    | some (k', xs) => (match keq k k' with
      | true => some (k, x :: xs)
      | false => none)
    | none => none
  | _ => none
def svE (tt : TT) (its : List Item) (E : Operand → Option SV) : Op → Evi → Option (SV × List Int × List Int)
  | .binOp op _ x y _, .bin op' k m n e _ => match E x, E y with
    | some (.c (.v (.int k1 m'))), some (.c (.v (.int k2 n'))) => (match keq k k1 && (beqOp op op' && (keq k k2 || (beqOp op .shl || beqOp op .shr))) with
      | true => some (vi k e, [m', n'], [m, n])
      | false => none)
    | _, _ => none
  | .index s x i, .ix l iv e _ => match E x, E i, lkT s tt with
    | some (.g cs), some (.c (.v (.int _ iv'))), some ⟨.array n el, _, _, _, _⟩ => (match intsOf cs, lkT el tt with
      | some (k, l'), some ⟨_, false, 1, _, _⟩ => (match Nat.beq cs.length n && Nat.beq l.length l'.length with
        | true => some (vi k e, iv' :: l', iv :: l)
        | false => none)
      | _, _ => none)
    | _, _, _ => none
  | .indexAddr s x i, .el j => match E x, E i, lkT s tt, its[j]? with
    | some (.c (.s a)), some (.c (.v (.int _ iv))), some ⟨.slice el, _, _, _, _⟩, some (.elt (some (a', iv')) _ cs) => (match lkT el tt with
      | some ti => (match Nat.beq a a' && Nat.beq cs.length ti.size with
        | true => some (vp j 0, [iv], [iv'])
        | false => none)
      | none => none)
    | _, _, _, _ => none
  | _, _ => none
/-- Elements of the call's own rows are not known any more. -/
def Item.kill : Item → Item
  | .elt _ true _ => .gone
  | it => it
def kl (its : List Item) : List Item := match its.any Item.ow with
  | true => its.map Item.kill
  | false => its
def setB (its : List Item) (i : Nat) (T : TypeId) (cs : List Cell) : List Item := its.set i (.blk T cs)
/-- A store into a variable. -/
def stR (tt : TT) (its : List Item) (E : Operand → Option SV) : Op → Option (Nat × TypeId × List Cell)
  | .store ty x y => match E x, E y, lkT ty tt with
    | some (.c (.p i o)), some v, some ti => (match its[i]?, v.cells its with
      | some (.blk T cs), some vs => (match Nat.beq vs.length ti.size && (vs.all (okc its) && (vs.all (Cell.lt its.length) && Nat.ble (o + vs.length) cs.length)) with
        | true => some (i, T, cs.take o ++ vs ++ cs.drop (o + vs.length))
        | false => none)
      | _, _ => none)
    | _, _, _ => none
  | _ => none
def simR (N : Nat) (tt : TT) (ld : Nat → Bool) (ops : Array Oper) : List Oper → List Evi → EnvC → List Item → Option (EnvC × List Item × List Int × List Int)
  | [], _, env, its => some (env, its, [], [])
  | ⟨some d, op, _, _, _, gd⟩ :: r, evs, env, its => match gpath ops env gd with
    | none => none
    | some (pa, g) => match free? d env pa && Nat.blt d N with
      | false => none
      | true => match op with
        | .pick c x y => (match c, evC env pa pa c with
          | .tmp s, some (.c (.v (.bool v))) => (match lkC s env with
            | some ec => (match pickV x y v (evC env pa ((s, true) :: ec.pa) x) (evC env pa ((s, false) :: ec.pa) y) with
              | some z => simR N tt ld ops r evs ((d, ⟨pa, g, z⟩) :: env) its
              | none => none)
            | none => none)
          | _, _ => none)
        | op => match sv1 tt ld its (evC env pa pa) op with
          | some v => (match v.lt its.length with
            | true => simR N tt ld ops r evs ((d, ⟨pa, g, v⟩) :: env) its
            | false => none)
          | none => match evs, pa with
            | ev :: evs', [] => (match svE tt its (evC env [] []) op ev with
              | some (v, a, b) => (match v.lt its.length with
                | true => (simR N tt ld ops r evs' ((d, ⟨[], true, v⟩) :: env) its).map fun q => (q.1, q.2.1, a ++ q.2.2.1, b ++ q.2.2.2)
                | false => none)
              | none => none)
            | _, _ => none
  | ⟨none, op, _, _, _, none⟩ :: r, evs, env, its => match stR tt (kl its) (evC env [] []) op with
    | some (i, T, cs) => simR N tt ld ops r evs env (setB (kl its) i T cs)
    | none => match sv1 tt ld its (evC env [] []) op with
      | some _ => simR N tt ld ops r evs env its
      | none => none
  | _, _, _, _ => none
def toC (e : Env') : EnvC := e.map fun p => (p.1, ⟨[], true, p.2⟩)
def outE (env : EnvC) : List Nat → Option Env'
  | [] => some []
  | t :: ts => match lkC t env with
    | some ⟨[], _, x⟩ => (match outE env ts with
      | some e => some ((t, x) :: e)
      | none => none)
    | _ => none
def simT (N : Nat) (tt : TT) (ld : Nat → Bool) (ops : Array Oper) (r : List Oper) (evs : List Evi) (env : Env') (its : List Item) (ts : List Nat) : Option (Env' × List Item × List Int × List Int) :=
  (simR N tt ld ops r evs (toC env) its).bind fun q => (outE q.1 ts).map fun e => (e, q.2)

/-! ### It is right -/
/-- The guards of a frame fit together. -/
def WF (env : EnvC) : Prop := ∀ t e, lkC t env = some e → match e.pa with
  | [] => e.g = true
  | (s, b) :: p => ∃ g' v, lkC s env = some ⟨p, g', vb v⟩ ∧ e.g = (match p with
    | [] => gbit b v
    | _ => g' && gbit b v)
def scC (n : Nat) (env : EnvC) : Prop := ∀ t e, lkC t env = some e → e.x.lt n = true
theorem beqB_eq : ∀ {a b : Bool}, beqB a b = true → a = b := by intro a b h; cases a <;> cases b <;> first | rfl | cases h
theorem beqP_eq : ∀ {p q : List (Nat × Bool)}, beqP p q = true → p = q
  | [], [], _ => rfl
  | (s, b) :: p, (s', b') :: p', h => by
    simp only [beqP, Bool.and_eq_true] at h
    rw [Nat.eq_of_beq_eq_true h.1, beqB_eq h.2.1, beqP_eq h.2.2]
/-- 'the guards pa, which come to g' -/
def Fits (env : EnvC) (pa : List (Nat × Bool)) (g : Bool) : Prop := match pa with
  | [] => g = true
  | (s, b) :: p => ∃ g' v, lkC s env = some ⟨p, g', vb v⟩ ∧ g = (match p with
    | [] => gbit b v
    | _ => g' && gbit b v)
theorem Fits.step {env : EnvC} (hw : WF env) {s : Nat} {b : Bool} {p : List (Nat × Bool)} {g : Bool} (h : Fits env ((s, b) :: p) g) (hg : g = true) : ∃ v, lkC s env = some ⟨p, true, vb v⟩ ∧ gbit b v = true := by
  obtain ⟨g', v, h1, h2⟩ := h
  have := hw s _ h1
  cases p with
  | nil =>
    simp only at this
    subst this
    exact ⟨v, h1, by simpa [hg] using h2.symm⟩
  | cons q p =>
    simp only [hg] at h2
    have h3 : g' = true ∧ gbit b v = true := by simpa using h2.symm
    rw [h3.1] at h1
    exact ⟨v, h1, h3.2⟩
theorem Fits.tail {env : EnvC} (hw : WF env) {q : List (Nat × Bool)} : ∀ {pa : List (Nat × Bool)} {g : Bool}, Fits env pa g → g = true → tail? q pa = true → Fits env q true
  | [], g, h, hg, ht => by
    have := beqP_eq ht
    subst this
    exact rfl
  | (s, b) :: p, g, h, hg, ht => by
    simp only [tail?, Bool.or_eq_true] at ht
    rcases ht with ht | ht
    · have := beqP_eq ht
      subst this
      subst hg
      exact h
    · obtain ⟨v, h1, h2⟩ := h.step hw hg
      exact Fits.tail hw (hw s _ h1) rfl ht
theorem Fits.det {env : EnvC} {pa : List (Nat × Bool)} {g g' : Bool} (h : Fits env pa g) (h' : Fits env pa g') : g = g' := by
  cases pa with
  | nil => exact h.trans h'.symm
  | cons q p =>
    obtain ⟨g1, v1, h1, h2⟩ := h
    obtain ⟨g2, v2, h3, h4⟩ := h'
    rw [h1] at h3
    injection h3 with h3
    injection h3 with _ h3 h5
    subst h3
    have : v1 = v2 := by injection h5 with h5; injection h5 with h5; injection h5
    subst this
    exact h2.trans h4.symm
theorem lkC_den {κ : List Conc} {t : Nat} {x : Ent} : ∀ {e : EnvC}, lkC t e = some x → lk t (denC κ e) = some (denX κ x)
  | (d, v) :: l, h => by
    simp only [lkC] at h
    simp only [denC, List.map_cons, lk]
    cases hb : Nat.beq t d with
    | true => rw [hb] at h; simp only [Option.some.injEq] at h; simp [h]
    | false => rw [hb] at h; exact lkC_den (e := l) h
section
variable {P : Program} {N n0 : Nat} {fx : Fx} {its its' : List Item} {κ : List Conc} {w : World} {tt : TT} {ld : Nat → Bool} {ops : Array Oper} {Kn : Act → World → Prop}
theorem evC_ok {env : EnvC} (hw : WF env) {pa pb : List (Nat × Bool)} {ga gb : Bool} (ha : Fits env pa ga) (hga : ga = true) (hb : Fits env pb gb) (hgb : gb = true) : ∀ x v, evC env pa pb x = some v → ev (denC κ env) x = some (v.den κ) := by
  intro x v h
  cases x with
  | tmp t =>
    simp only [evC] at h
    split at h
    · rename_i e he
      split at h
      · rename_i ht
        injection h with h; subst h
        have hf : Fits env e.pa true := by
          rcases Bool.or_eq_true_iff.1 ht with ht | ht
          · exact ha.tail hw hga ht
          · exact hb.tail hw hgb ht
        have hg : e.g = true := Fits.det (hw t e he) hf
        simp only [ev, lkC_den he, denX, hg]
      · cases h
    · cases h
  | const c =>
    have := evS_den (κ := κ) (e := []) (x := .const c) h
    cases c <;> exact this
  | global g => cases h
  | func f => exact evS_den (κ := κ) (e := []) (x := .func f) h
theorem evC_lt {env : EnvC} {n : Nat} (hs : scC n env) {pa pb : List (Nat × Bool)} : ∀ x v, evC env pa pb x = some v → v.lt n = true := by
  intro x v h
  cases x with
  | tmp t =>
    simp only [evC] at h
    split at h
    · rename_i e he
      split at h
      · injection h with h; subst h
        exact hs t e he
      · cases h
    · cases h
  | const c => exact evS_lt (e := []) (x := .const c) rfl h
  | global g => cases h
  | func f => exact evS_lt (e := []) (x := .func f) rfl h
theorem lkC_cons_ne {s d : Nat} {e : Ent} {env : EnvC} (h : Nat.beq s d = false) : lkC s ((d, e) :: env) = lkC s env := by simp only [lkC, h]
theorem free_ne {d : Nat} {env : EnvC} {pa : List (Nat × Bool)} (h : free? d env pa = true) : (∀ t e, lkC t env = some e → ∀ s b p, e.pa = (s, b) :: p → Nat.beq s d = false) ∧ ∀ s b p, pa = (s, b) :: p → Nat.beq s d = false := by
  simp only [free?, Bool.and_eq_true] at h
  obtain ⟨h1, h2⟩ := h
  rw [List.all_eq_true] at h1
  refine ⟨fun t e he s b p hp => ?_, fun s b p hp => ?_⟩
  · have hm : ∀ {env : EnvC}, lkC t env = some e → (t, e) ∈ env := by
      intro env
      induction env with
      | nil => intro h; cases h
      | cons q l ih =>
        obtain ⟨d, v⟩ := q
        intro h
        simp only [lkC] at h
        cases hb : Nat.beq t d with
        | true =>
          rw [hb] at h; simp only [Option.some.injEq] at h
          rw [Nat.eq_of_beq_eq_true hb, h]
          exact List.mem_cons_self ..
        | false => rw [hb] at h; exact List.mem_cons_of_mem _ (ih h)
    have := h1 _ (hm he)
    rw [hp] at this
    simp only [List.all_cons, Bool.and_eq_true, Bool.not_eq_true'] at this
    exact this.1
  · rw [hp] at h2
    simp only [List.all_cons, Bool.and_eq_true, Bool.not_eq_true'] at h2
    exact h2.1
theorem Fits.push {env : EnvC} {pa : List (Nat × Bool)} {g : Bool} {d : Nat} {e : Ent} (h : Fits env pa g) (hd : ∀ s b p, pa = (s, b) :: p → Nat.beq s d = false) : Fits ((d, e) :: env) pa g := by
  cases pa with
  | nil => exact h
  | cons q p =>
    obtain ⟨s, b⟩ := q
    obtain ⟨g', v, h1, h2⟩ := h
    exact ⟨g', v, by rw [lkC_cons_ne (hd s b p rfl)]; exact h1, h2⟩
theorem WF.push {env : EnvC} (hw : WF env) {d : Nat} {pa : List (Nat × Bool)} {g : Bool} {x : SV} (hf : Fits env pa g) (hd : free? d env pa = true) : WF ((d, ⟨pa, g, x⟩) :: env) := by
  obtain ⟨h1, h2⟩ := free_ne hd
  intro t e he
  simp only [lkC] at he
  cases hb : Nat.beq t d with
  | true =>
    rw [hb] at he; simp only [Option.some.injEq] at he
    subst he
    exact Fits.push hf h2
  | false =>
    rw [hb] at he
    exact Fits.push (hw t e he) (h1 t e he)
theorem scC.push {env : EnvC} {n : Nat} (hs : scC n env) {d : Nat} {e : Ent} (he : e.x.lt n = true) : scC n ((d, e) :: env) := by
  intro t e' h
  simp only [lkC] at h
  cases hb : Nat.beq t d with
  | true => rw [hb] at h; simp only [Option.some.injEq] at h; subst h; exact he
  | false => rw [hb] at h; exact hs t e' h
theorem gpath_ok {env : EnvC} {gd : Option (Nat × Bool)} {pa : List (Nat × Bool)} {g : Bool} (h : gpath ops env gd = some (pa, g)) : Fits env pa g := by
  cases gd with
  | none =>
    simp only [gpath, Option.some.injEq, Prod.mk.injEq] at h
    obtain ⟨rfl, rfl⟩ := h
    exact rfl
  | some q =>
    obtain ⟨j, b⟩ := q
    simp only [gpath] at h
    split at h
    · split at h
      · rename_i s hs pa' g' v hl
        simp only [Option.some.injEq, Prod.mk.injEq] at h
        obtain ⟨rfl, rfl⟩ := h
        exact ⟨g', v, hl, rfl⟩
      · cases h
    · cases h
/-- One operation under its guards. -/
theorem step_val {env : EnvC} {rest : List Oper} {d : Nat} {op : Op} {t : TypeId} {ps : String} {af : Array Edge} {gd : Option (Nat × Bool)} {pa : List (Nat × Bool)} {g : Bool} {x : SV} (hw : WF env) (hp : gpath ops env gd = some (pa, g)) (hN : Nat.blt d N = true)
    (hr : g = true → RunV P N (denC κ env) ⟨some d, op, t, ps, af, none⟩ w (x.den κ)) (h : WL P fx.px ops rest Kn N (denC κ ((d, ⟨pa, g, x⟩) :: env)) w) : WL P fx.px ops (⟨some d, op, t, ps, af, gd⟩ :: rest) Kn N (denC κ env) w := by
  cases gd with
  | none =>
    simp only [gpath, Option.some.injEq, Prod.mk.injEq] at hp
    obtain ⟨rfl, rfl⟩ := hp
    exact WL.val (hr rfl) hN h
  | some q =>
    obtain ⟨j, b⟩ := q
    have hf := gpath_ok hp
    simp only [gpath] at hp
    split at hp
    · rename_i s hs
      split at hp
      · rename_i pa' g' v hl
        simp only [Option.some.injEq, Prod.mk.injEq] at hp
        obtain ⟨rfl, hg⟩ := hp
        have hls := lkC_den (κ := κ) hl
        have hwf := hw s _ hl
        cases hgg : g with
        | true =>
          obtain ⟨v', h1, h2⟩ := hf.step hw hgg
          rw [hl] at h1
          injection h1 with h1
          injection h1 with _ h3 h4
          subst h3
          have hvv : v = v' := by injection h4 with h4; injection h4 with h4; injection h4
          subst hvv
          simp only [denX, SV.den, Cell.den] at hls
          have hx : v = b := by cases b <;> cases v <;> simp_all [gbit]
          refine WL.yes hs hls hx (WL.val (hr hgg) hN ?_)
          rw [hgg] at h
          exact h
        | false =>
          rw [hgg] at h
          have hun : denC κ ((d, ⟨(s, b) :: pa', false, x⟩) :: env) = (d, undef) :: denC κ env := rfl
          rw [hun] at h
          cases hg' : g' with
          | true =>
            subst hg'
            simp only [denX, SV.den, Cell.den] at hls
            have hx : v = !b := by
              rw [hgg] at hg
              cases pa' <;> cases b <;> cases v <;> simp_all [gbit]
            exact WL.no hs hls hx hN h
          | false =>
            subst hg'
            simp only [denX] at hls
            exact WL.noU hs hls hN h
      · cases hp
    · cases hp
end
end V
end Go.Proofs.YtladkmnfmpojiaaGreatDoor
namespace Go.Proofs.YtladkmnfmpojiaaGreatDoor
namespace V
section
variable {P : Program} {N n0 : Nat} {fx : Fx} {its its' : List Item} {κ : List Conc} {w : World} {tt : TT} {ld : Nat → Bool} {ops : Array Oper} {Kn : Act → World → Prop}
variable {d : Option Nat} {t : TypeId} {ps : String} {af : Array Edge} {gd : Option (Nat × Bool)} {E : Operand → Option SV} {l : Env}
theorem pick_ok {env : EnvC} (hw : WF env) {pa : List (Nat × Bool)} {g v : Bool} {s : Nat} {x y : Operand} {ec : Ent} {z : SV} (hf : Fits env pa g) (hg : g = true) (hc : evC env pa pa (.tmp s) = some (.c (.v (.bool v)))) (hs : lkC s env = some ec)
    (h : pickV x y v (evC env pa ((s, true) :: ec.pa) x) (evC env pa ((s, false) :: ec.pa) y) = some z) : RunV P N (denC κ env) ⟨d, .pick (.tmp s) x y, t, ps, af, gd⟩ w (z.den κ) := by
  have hc0 : ec.x = vb v ∧ tail? ec.pa pa = true := by
    simp only [evC, hs] at hc
    split at hc
    · rename_i ht
      injection hc with hc
      exact ⟨hc, by simpa using ht⟩
    · cases hc
  obtain ⟨hx0, htl⟩ := hc0
  have hec : Fits env ec.pa true := hf.tail hw hg htl
  have hgc : ec.g = true := Fits.det (hw s _ hs) hec
  have hce : lkC s env = some ⟨ec.pa, true, vb v⟩ := by rw [hs, ← hx0, ← hgc]
  have hsl := lkC_den (κ := κ) hce
  simp only [denX, SV.den, Cell.den] at hsl
  have way : ∀ b, gbit b v = true → Fits env ((s, b) :: ec.pa) true := fun b hb => ⟨true, v, hce, by cases ec.pa <;> simp [hb]⟩
  have out : ∀ q, (v = true → (∃ u, evC env pa ((s, true) :: ec.pa) x = some u ∧ u.den κ = q)) → (v = false → (∃ u, evC env pa ((s, false) :: ec.pa) y = some u ∧ u.den κ = q)) → RunV P N (denC κ env) ⟨d, .pick (.tmp s) x y, t, ps, af, gd⟩ w q := by
    intro q h1 h2
    cases hv : v with
    | true =>
      obtain ⟨u, hu, rfl⟩ := h1 hv
      exact rv_pick_t hsl hv (evC_ok hw hf hg (way true (by simp [gbit, hv])) rfl _ _ hu)
    | false =>
      obtain ⟨u, hu, rfl⟩ := h2 hv
      exact rv_pick_f hsl hv (evC_ok hw hf hg (way false (by simp [gbit, hv])) rfl _ _ hu)
  unfold pickV at h
  split at h
  · rename_i bx by' hbx hby
    split at h
    · injection h with h; subst h
      refine out _ (fun hv => ⟨_, hbx, by simp [SV.den, Cell.den, hv]⟩) (fun hv => ⟨_, hby, ?_⟩)
      simp only [evC, evS, Option.some.injEq] at hby
      injection hby with hby; injection hby with hby; injection hby with hby
      simp [SV.den, Cell.den, hv, ← hby]
    · injection h with h; subst h
      refine out _ (fun hv => ⟨_, hbx, ?_⟩) (fun hv => ⟨_, hby, by simp [SV.den, Cell.den, hv]⟩)
      simp only [evC, evS, Option.some.injEq] at hbx
      injection hbx with hbx; injection hbx with hbx; injection hbx with hbx
      simp [SV.den, Cell.den, hv, ← hbx]
    · injection h with h; subst h
      exact out _ (fun hv => ⟨_, hbx, by subst hv; rfl⟩) (fun hv => ⟨_, hby, by subst hv; rfl⟩)
  · cases h
theorem intsOf_ok : ∀ (cs : List Cell) {k : IntKind} {xs : List Int}, intsOf cs = some (k, xs) → cs.map (Cell.den κ) = xs.map (Value.int k)
  | [], k, xs, h => by cases h
  | c :: r, k, xs, h => by
    unfold intsOf at h
    split at h
    · rename_i k' x heq
      injection heq with h1 h2
      subst h1; subst h2
      simp only [Option.some.injEq, Prod.mk.injEq] at h
      obtain ⟨rfl, rfl⟩ := h
      rfl
    · rename_i k' x r' _ heq
      injection heq with h1 h2
      subst h1; subst h2
      split at h
      · rename_i k2 xs2 hi
        split at h
        · rename_i hk
          have := keq_eq hk
          subst this
          simp only [Option.some.injEq, Prod.mk.injEq] at h
          obtain ⟨rfl, rfl⟩ := h
          simp only [List.map_cons, intsOf_ok r hi, Cell.den]
        · cases h
      · cases h
    · cases h
theorem svE_len {op : Op} {e : Evi} {v : SV} {a b : List Int} (h : svE tt its E op e = some (v, a, b)) : a.length = b.length := by
  unfold svE at h
  split at h
  · split at h
    · split at h
      · simp only [Option.some.injEq, Prod.mk.injEq] at h
        obtain ⟨_, rfl, rfl⟩ := h
        rfl
      · cases h
    · cases h
  · split at h
    · split at h
      · split at h
        · rename_i hb
          simp only [Option.some.injEq, Prod.mk.injEq] at h
          obtain ⟨_, rfl, rfl⟩ := h
          simp only [Bool.and_eq_true, Nat.beq_eq] at hb
          simp [hb.2]
        · cases h
      · cases h
    · cases h
  · split at h
    · split at h
      · split at h
        · simp only [Option.some.injEq, Prod.mk.injEq] at h
          obtain ⟨_, rfl, rfl⟩ := h
          rfl
        · cases h
      · cases h
    · cases h
  · cases h
theorem svE_ok (htt : TTOk P tt) (S : Kno its κ w) (hE : ∀ x v, E x = some v → ev l x = some (v.den κ)) {op : Op} {e : Evi} {v : SV} {a : List Int} (h : svE tt its E op e = some (v, a, a)) : RunV P N l ⟨d, op, t, ps, af, gd⟩ w (v.den κ) := by
  unfold svE at h
  split at h
  · rename_i op ty0 x y ty2 op' k m n e he
    split at h
    · rename_i k1 m' k2 n' hx hy
      split at h
      · rename_i hb
        simp only [Option.some.injEq, Prod.mk.injEq] at h
        obtain ⟨rfl, h1, h2⟩ := h
        rw [← h1] at h2
        injection h2 with h2 h3
        injection h3 with h3
        subst h2; subst h3
        simp only [Bool.and_eq_true, Bool.or_eq_true] at hb
        obtain ⟨hk, ho, hk2⟩ := hb
        have hk' := keq_eq hk
        subst hk'
        have hx' := hE _ _ hx
        have hy' := hE _ _ hy
        simp only [SV.den, Cell.den] at hx' hy' ⊢
        have hqr : (op = .quo ∨ op = .rem) → k = k2 := by
          intro hq
          rcases hk2 with h | h
          · exact keq_eq h
          · exfalso; rcases hq with rfl | rfl <;> rcases h with h | h <;> cases h
        cases op <;> cases op' <;> first | cases ho | skip
        · have := hqr (.inl rfl); subst this; exact rv_quo hx' hy' he
        · have := hqr (.inr rfl); subst this; exact rv_rem hx' hy' he
        · exact rv_shl hx' hy' he
        · exact rv_shr hx' hy' he
      · cases h
    · cases h
  · rename_i s x i l0 iv e he
    split at h
    · rename_i cs k0 iv' n el _ _ _ _ hx hi hs
      split at h
      · rename_i k l' z by' hc hel
        split at h
        · rename_i hb
          simp only [Option.some.injEq, Prod.mk.injEq] at h
          obtain ⟨rfl, h1, h2⟩ := h
          rw [← h1] at h2
          injection h2 with h2 h3
          subst h2; subst h3
          simp only [Bool.and_eq_true, Nat.beq_eq] at hb
          have hx' := hE _ _ hx
          simp only [SV.den, intsOf_ok cs hc] at hx'
          have hlen : l0.length = n := by
            have := congrArg List.length (intsOf_ok (κ := κ) cs hc)
            simp at this
            omega
          exact rv_index1 (htt.get hs).und (htt.get hel).agg (htt.get hel).size hx' (hE _ _ hi) (by simpa using hlen) (idx_map he)
        · cases h
      · cases h
    · cases h
  · rename_i s x i j
    split at h
    · rename_i a0 k iv el _ _ _ _ a' iv' ow cs hx hi hs hj
      split at h
      · rename_i ti hel
        split at h
        · rename_i hb
          simp only [Option.some.injEq, Prod.mk.injEq] at h
          obtain ⟨rfl, h1, h2⟩ := h
          rw [← h1] at h2
          injection h2 with h2 h3
          subst h2
          simp only [Bool.and_eq_true, Nat.beq_eq] at hb
          obtain ⟨ha, hn⟩ := hb
          subst ha
          obtain ⟨c, _, hc1, hc2⟩ := S _ _ hj
          cases c with
          | a ad =>
            obtain ⟨_, _, A0, n', c', hk, had, h0, h1'⟩ := hc2
            have hx' := hE _ _ hx
            have hi' := hE _ _ hi
            simp only [SV.den, Cell.den, hk] at hx' hi' ⊢
            rw [hc1]
            simp only [ad_zero]
            subst had
            rw [hn]
            intro ac ha
            simp only [execOp, ha.ev hx', ha.ev hi', Sem.run_bind, run_indexAt (htt.get hs).und (htt.get hel).size h0 h1', Result.andThen_ok]; rfl
          | _ => exact hc2.elim
        · cases h
      · cases h
    · cases h
  · cases h

theorem kill_lt {n : Nat} {it : Item} (h : it.lt n = true) : it.kill.lt n = true := by
  cases it with
  | elt s ow cs => cases ow <;> first | exact h | rfl
  | _ => exact h
theorem kill_ow (it : Item) : it.kill.ow = false := by
  cases it with
  | elt s ow cs => cases ow <;> rfl
  | _ => rfl
theorem kl_length (its : List Item) : (kl its).length = its.length := by unfold kl; split <;> simp
theorem kl_get {i : Nat} {it : Item} (h : (kl its)[i]? = some it) : ∃ it0, its[i]? = some it0 ∧ it.ow = false ∧ (it = it0 ∨ it = .gone) := by
  unfold kl at h
  split at h
  · rw [List.getElem?_map] at h
    cases h0 : its[i]? with
    | none => simp [h0] at h
    | some it0 =>
      simp only [h0, Option.map_some, Option.some.injEq] at h
      subst h
      refine ⟨it0, rfl, kill_ow it0, ?_⟩
      cases it0 with
      | elt s ow cs => cases ow <;> first | exact .inl rfl | exact .inr rfl
      | _ => exact .inl rfl
  · rename_i ha
    refine ⟨it, h, ?_, .inl rfl⟩
    have : ∀ x ∈ its, x.ow = false := by
      intro x hx
      cases hx' : x.ow with
      | false => rfl
      | true =>
        exfalso
        have : its.any Item.ow = true := List.any_eq_true.2 ⟨x, hx, hx'⟩
        rw [this] at ha
        cases ha
    exact this it (List.mem_of_getElem? h)
theorem Lof_kl (its : List Item) (κ : List Conc) : Lof (kl its) κ = Lof its κ := by
  unfold kl
  split
  · unfold Lof
    rw [List.zipWith_map_left]
    congr 1
    funext it c
    cases it with
    | elt s ow cs => cases ow <;> cases c <;> rfl
    | _ => rfl
  · rfl
theorem St.kill {env : Env'} (S : St n0 fx env its κ w) : St n0 fx env (kl its) κ w := by
  refine ⟨by rw [kl_length]; exact S.len, S.pre, S.n0, by rw [kl_length]; exact S.sce, ?_, by rw [Lof_kl]; exact S.ctx, fun i it c h1 h2 => ?_⟩
  · rw [kl_length]
    unfold scI
    rw [List.all_eq_true]
    intro it hit
    obtain ⟨i, hi⟩ := List.getElem?_of_mem hit
    obtain ⟨it0, h0, _, h⟩ := kl_get hi
    have hs := S.sci
    unfold scI at hs
    rw [List.all_eq_true] at hs
    rcases h with rfl | rfl
    · exact hs _ (List.mem_of_getElem? h0)
    · rfl
  · rw [Lof_kl]
    obtain ⟨it0, h0, _, h⟩ := kl_get h1
    rcases h with rfl | rfl
    · exact S.ok i _ c h0 h2
    · cases c <;> trivial
/-- A variable is written. -/
theorem St.setB {env : Env'} (S : St n0 fx env its κ w) (how : ∀ it ∈ its, it.ow = false) {i b : Nat} {T : TypeId} {cs cs' : List Cell} {w' : World} (hi : its[i]? = some (.blk T cs)) (hc : κ[i]? = some (.b b)) (hl : cs'.all (Cell.lt its.length) = true)
    (h : Stored fx.U0 fx.X0 fx.w0 (Lof its κ) w b T (cs'.map (Cell.den κ)) w') : St n0 fx env (setB its i T cs') κ w' := by
  obtain ⟨hb, C, Tr⟩ := h
  have hil : i < its.length := (List.getElem?_eq_some_iff.1 hi).1
  have hL : Lof (V.setB its i T cs') κ = Lof its κ := by
    unfold V.setB
    apply List.ext_getElem?
    intro j
    by_cases hj : j = i
    · subst hj
      have h1 : (its.set j (.blk T cs'))[j]? = some (.blk T cs') := by rw [List.getElem?_set_self hil]
      rw [Lof_get h1 hc, Lof_get hi hc]
      rfl
    · unfold Lof
      rw [List.getElem?_zipWith, List.getElem?_zipWith, List.getElem?_set_ne (fun e => hj e.symm)]
  have key := S.next (env' := env) (its' := V.setB its i T cs') (κx := []) (w' := w') (X := [some b]) (fun j => j = i) (by simp [V.setB, S.len]) (by simpa [V.setB] using S.sce)
    (by
      unfold V.setB scI
      rw [List.length_set, List.all_eq_true]
      intro it hit
      have hs := S.sci
      unfold scI at hs
      rw [List.all_eq_true] at hs
      rcases List.mem_or_eq_of_mem_set hit with h | h
      · exact hs _ h
      · subst h; exact hl)
    (by rw [List.append_nil, hL]; exact C) (by rw [List.append_nil, hL]; exact Tr)
    (fun j it hj hne hit => by
      unfold V.setB at hit
      rw [List.getElem?_set_ne (fun e => hne e.symm)] at hit
      refine ⟨hit, how _ (List.mem_of_getElem? hit), fun c b' hc' hb' hm => ?_⟩
      rw [List.mem_singleton] at hm
      injection hm with hm
      subst hm
      have h1 := Lof_get hit hc'
      rw [hb'] at h1
      have h2 := Lof_get hi hc
      exact S.ctx.sep j i b' hne h1 h2)
    (fun j it c hj hit hc' => by
      rw [List.append_nil] at hc'
      rcases hj with hj | rfl
      · have := (List.getElem?_eq_some_iff.1 hit).1
        simp only [V.setB, List.length_set] at this
        omega
      · unfold V.setB at hit
        rw [List.getElem?_set_self hil] at hit
        injection hit with hit
        subst hit
        rw [hc] at hc'
        injection hc' with hc'
        subst hc'
        simpa [OK] using hb)
  rwa [List.append_nil] at key
theorem stR_ok {env0 : Env'} (htt : TTOk P tt) (S : St n0 fx env0 its κ w) (how : ∀ it ∈ its, it.ow = false) (hE : ∀ x v, E x = some v → ev l x = some (v.den κ)) {op : Op} {i : Nat} {T : TypeId} {cs : List Cell} (h : stR tt its E op = some (i, T, cs)) :
    RunSK P N l ⟨none, op, t, ps, af, gd⟩ w (fun w' => St n0 fx env0 (setB its i T cs) κ w') := by
  unfold stR at h
  split at h
  · rename_i ty x y
    split at h
    · rename_i i' o v ti hx hy ht
      split at h
      · rename_i T' cs0 vs hi hv
        split at h
        · rename_i hb
          simp only [Option.some.injEq, Prod.mk.injEq] at h
          obtain ⟨rfl, rfl, rfl⟩ := h
          simp only [Bool.and_eq_true, Nat.beq_eq, Nat.ble_eq] at hb
          obtain ⟨h1, h2, h3, h4⟩ := hb
          obtain ⟨c, hc1, hc2⟩ := S.conc hi
          cases c with
          | b b =>
            have hx' := hE _ _ hx
            simp only [SV.den, Cell.den, hc1] at hx'
            have hL : (Lof its κ)[i']? = some (some b) := by have := Lof_get hi hc1; exact this
            have hrun := rs_store (P := P) (N := N) (t := t) (ps := ps) (af := af) (g := gd) (htt.get ht).size hx' (hE _ _ hy) (cells_den S.kno hv) (by simpa using h1)
              (by
                rw [List.all_map, List.all_eq_true]
                intro c hc
                rw [List.all_eq_true] at h2
                exact okc_ok S.kno (h2 c hc)) hc2 hL S.ctx (by simp; omega) (cs' := (cs0.take o ++ vs ++ cs0.drop (o + vs.length)).map (Cell.den κ)) (by simp [List.map_append, List.map_take, List.map_drop])
            intro a ha
            obtain ⟨w', hr, hst⟩ := hrun a ha
            refine ⟨w', hr, S.setB how hi hc1 ?_ hst⟩
            have hsc : cs0.all (Cell.lt its.length) = true := by
              have hs := S.sci
              unfold scI at hs
              rw [List.all_eq_true] at hs
              exact hs _ (List.mem_of_getElem? hi)
            rw [List.all_append, List.all_append, all_take hsc, all_drop hsc, h3]
            rfl
          | _ => exact hc2.elim
        · cases h
      · cases h
    · cases h
  · cases h
end
end V
end Go.Proofs.YtladkmnfmpojiaaGreatDoor
namespace Go.Proofs.YtladkmnfmpojiaaGreatDoor
namespace V
section
variable {P : Program} {N n0 : Nat} {fx : Fx} {its its' : List Item} {κ : List Conc} {w : World} {tt : TT} {ld : Nat → Bool} {ops : Array Oper} {Kn : Act → World → Prop}
theorem append_inj_len {α : Type} {a b c d : List α} (h : a ++ c = b ++ d) (hl : a.length = b.length) : a = b ∧ c = d := List.append_inj h hl
theorem WL.storeS {rest : List Oper} {l : Env} {op : Op} {t : TypeId} {ps : String} {af : Array Edge} {K : World → Prop} (hr : RunSK P N l ⟨none, op, t, ps, af, none⟩ w K) (h : ∀ w', K w' → WL P fx.px ops rest Kn N l w') : WL P fx.px ops (⟨none, op, t, ps, af, none⟩ :: rest) Kn N l w := WL.storeK hr h
theorem kl_ow : ∀ it ∈ kl its, it.ow = false := fun it hit => by
  obtain ⟨i, hi⟩ := List.getElem?_of_mem hit
  obtain ⟨_, _, h, _⟩ := kl_get hi
  exact h
theorem St.env {env env' : Env'} (S : St n0 fx env its κ w) (h : scE its.length env' = true) : St n0 fx env' its κ w := ⟨S.len, S.pre, S.n0, h, S.sci, S.ctx, S.ok⟩
theorem stR_length {E : Operand → Option SV} {op : Op} {q : Nat × TypeId × List Cell} (_h : stR tt its E op = some q) : (setB its q.1 q.2.1 q.2.2).length = its.length := by simp [setB]
theorem simR_ok (htt : TTOk P tt) (rest : List Oper) : ∀ (r : List Oper) (evs : List Evi) (env : EnvC) (its : List Item) (env1 : EnvC) (its1 : List Item) (p : List Int), simR N tt ld ops r evs env its = some (env1, its1, p, p) → WF env → scC its.length env →
    (∀ κ w, St n0 fx [] its1 κ w → WF env1 → scC its1.length env1 → WL P fx.px ops rest Kn N (denC κ env1) w) → ∀ κ w, St n0 fx [] its κ w → WL P fx.px ops (r ++ rest) Kn N (denC κ env) w
  | [], evs, env, its, env1, its1, p, h, hw, hs, hk, κ, w, S => by
    simp only [simR, Option.some.injEq, Prod.mk.injEq] at h
    obtain ⟨rfl, rfl, _⟩ := h
    exact hk κ w S hw hs
  | ⟨some d, op, t, ps, af, gd⟩ :: r, evs, env, its, env1, its1, p, h, hw, hs, hk, κ, w, S => by
    simp only [List.cons_append]
    unfold simR at h
    split at h
    · cases h
    · rename_i pa g hp
      split at h
      · cases h
      · rename_i hfr
        simp only [Bool.and_eq_true] at hfr
        obtain ⟨hfr, hN⟩ := hfr
        have hf := gpath_ok hp
        split at h
        · rename_i c x y
          split at h
          · rename_i s v hcx
            split at h
            · rename_i ec hec
              split at h
              · rename_i z hz
                have hzl : z.lt its.length = true := by
                  unfold pickV at hz
                  split at hz
                  · split at hz <;> (injection hz with hz; subst hz; rfl)
                  · cases hz
                exact step_val hw hp hN (fun hg => pick_ok hw hf hg hcx hec hz) (simR_ok htt rest r evs _ its env1 its1 p h (hw.push hf hfr) (hs.push hzl) hk κ w S)
              · cases h
            · cases h
          · cases h
        · split at h
          · rename_i v hv
            split at h
            · rename_i hvl
              exact step_val hw hp hN (fun hg => sv1_ok htt S.kno (evC_ok hw hf hg hf hg) hv) (simR_ok htt rest r evs _ its env1 its1 p h (hw.push hf hfr) (hs.push hvl) hk κ w S)
            · cases h
          · split at h
            · rename_i e evs' _
              have hg : g = true := hf
              subst hg
              split at h
              · rename_i v a b hv
                split at h
                · rename_i hvl
                  cases hr : simR N tt ld ops r evs' ((d, ⟨[], true, v⟩) :: env) its with
                  | none => simp [hr] at h
                  | some q =>
                    obtain ⟨e1, i1, q1, q2⟩ := q
                    simp only [hr, Option.map_some, Option.some.injEq, Prod.mk.injEq] at h
                    obtain ⟨rfl, rfl, h1, h2⟩ := h
                    rw [← h1] at h2
                    obtain ⟨h3, h4⟩ := append_inj_len h2 (svE_len hv).symm
                    subst h3; subst h4
                    exact step_val hw hp hN (fun hg => svE_ok htt S.kno (evC_ok hw (pa := []) (pb := []) rfl rfl rfl rfl) hv) (simR_ok htt rest r evs' _ its _ _ _ hr (hw.push hf hfr) (hs.push hvl) hk κ w S)
                · cases h
              · cases h
            · cases h
  | ⟨none, op, t, ps, af, none⟩ :: r, evs, env, its, env1, its1, p, h, hw, hs, hk, κ, w, S => by
    simp only [List.cons_append]
    unfold simR at h
    have hE : ∀ κ x v, evC env [] [] x = some v → ev (denC κ env) x = some (v.den κ) := fun κ => evC_ok hw (pa := []) (pb := []) rfl rfl rfl rfl
    split at h
    · rename_i i T cs hst
      refine WL.storeS (stR_ok htt S.kill kl_ow (hE κ) hst) fun w' S' => ?_
      have hl := stR_length hst
      simp only [kl_length] at hl
      exact simR_ok htt rest r evs env _ env1 its1 p h hw (by rw [hl]; exact hs) hk κ w' S'
    · split at h
      · rename_i v hv
        exact WL.val0 (sv1_ok htt S.kno (hE κ) hv) (simR_ok htt rest r evs env its env1 its1 p h hw hs hk κ w S)
      · cases h
  | ⟨none, op, t, ps, af, some q⟩ :: r, evs, env, its, env1, its1, p, h, hw, hs, hk, κ, w, S => by
    unfold simR at h
    cases h
theorem lkC_toC {t : Nat} : ∀ {env : Env'} {e : Ent}, lkC t (toC env) = some e → lkE t env = some e.x ∧ e.pa = [] ∧ e.g = true
  | (d, v) :: l, e, h => by
    simp only [toC, List.map_cons, lkC] at h
    simp only [lkE]
    cases hb : Nat.beq t d with
    | true => rw [hb] at h; simp only [Option.some.injEq] at h; subst h; exact ⟨rfl, rfl, rfl⟩
    | false => rw [hb] at h; exact lkC_toC (env := l) h
theorem WF_toC (env : Env') : WF (toC env) := fun t e h => by
  obtain ⟨_, h1, h2⟩ := lkC_toC h
  rw [h1]; exact h2
theorem denC_toC (κ : List Conc) (env : Env') : denC κ (toC env) = denE κ env := by
  unfold denC toC denE
  rw [List.map_map]
  rfl
theorem outE_sub {κ : List Conc} {env : EnvC} (hw : WF env) : ∀ (ts : List Nat) {e : Env'}, outE env ts = some e → Sub (denC κ env) (denE κ e)
  | [], e, h => by simp only [outE, Option.some.injEq] at h; subst h; trivial
  | t :: ts, e, h => by
    simp only [outE] at h
    split at h
    · rename_i g x hl
      split at h
      · rename_i e' he
        injection h with h; subst h
        have hg := hw t _ hl
        simp only at hg
        subst hg
        exact ⟨lkC_den hl, outE_sub hw ts he⟩
      · cases h
    · cases h
theorem outE_sc {n : Nat} {env : EnvC} (hs : scC n env) : ∀ (ts : List Nat) {e : Env'}, outE env ts = some e → scE n e = true
  | [], e, h => by simp only [outE, Option.some.injEq] at h; subst h; rfl
  | t :: ts, e, h => by
    simp only [outE] at h
    split at h
    · rename_i g x hl
      split at h
      · rename_i e' he
        injection h with h; subst h
        have h1 := hs t _ hl
        have h2 := outE_sc hs ts he
        unfold scE at h2 ⊢
        simp [h1, h2]
      · cases h
    · cases h
section
variable {Ke : Nat → Act → World → Prop} {Kr : Act → World → Prop} {env env' : Env'} {rest : List Oper}
theorem SL.simX (htt : TTOk P tt) {r rest : List Oper} {evs : List Evi} {q : List Int} {ts : List Nat} (h : simT N tt ld ops r evs env its ts = some (env', its', q, q)) (hk : SL P ops rest Kn N n0 fx env' its') : SL P ops (r ++ rest) Kn N n0 fx env its := by
  unfold simT at h
  cases hr : simR N tt ld ops r evs (toC env) its with
  | none => simp [hr] at h
  | some z =>
    obtain ⟨e1, i1, q1, q2⟩ := z
    cases ho : outE e1 ts with
    | none => simp [hr, ho] at h
    | some e2 =>
      simp only [hr, ho, Option.bind_some, Option.map_some, Option.some.injEq, Prod.mk.injEq] at h
      obtain ⟨rfl, rfl, rfl, rfl⟩ := h
      intro κ w S
      rw [← denC_toC]
      refine simR_ok htt rest r evs (toC env) its e1 _ _ hr (WF_toC env) (fun t e he => ?_) (fun κ w S' hw hs => ?_) κ w (S.env rfl)
      · have h1 := S.sce
        unfold scE at h1
        rw [List.all_eq_true] at h1
        exact h1 _ (lkE_mem (lkC_toC he).1)
      · exact WL.prune (outE_sub hw ts ho) (hk κ w (S'.env (outE_sc hs ts ho)))
/-- A whole statement; what follows it goes on. -/
theorem SC.r (htt : TTOk P tt) {id : Nat} {os : List Oper} {y : Code} (env' : Env') (ch : List (Nat × TypeId × List Cell)) (evs : List Evi) (q : List Int)
    (h : simT N tt (fun _ => true) os.toArray os evs env its (env'.map (·.1)) = some (env', ch.foldl (fun i c => setB i c.1 c.2.1 c.2.2) its, q, q)) (hk : SC P y Kn Ke Kr N n0 fx env' (ch.foldl (fun i c => setB i c.1 c.2.1 c.2.2) its)) : SC P (.seq (.region id os.toArray false) y) Kn Ke Kr N n0 fx env its :=
  SC.seq (SC.reg (by
    have := SL.simX (rest := []) htt h (SL.nilThen hk)
    rwa [List.append_nil] at this))
/-- The first k operations of a statement. -/
theorem SL.sim (htt : TTOk P tt) (k : Nat) (env' : Env') (ch : List (Nat × TypeId × List Cell)) (evs : List Evi) (q : List Int)
    (h : simT N tt (fun _ => true) ops (rest.take k) evs env its (env'.map (·.1)) = some (env', ch.foldl (fun i c => setB i c.1 c.2.1 c.2.2) its, q, q)) (hk : SL P ops (rest.drop k) Kn N n0 fx env' (ch.foldl (fun i c => setB i c.1 c.2.1 c.2.2) its)) : SL P ops rest Kn N n0 fx env its := by
  have := SL.simX htt h hk
  rwa [List.take_append_drop] at this
theorem SC.if' {c : Operand} {x y : Code} {α : Type} {e : Bool} {X Y : Option α} {r : α} (hc : evS env c = some (vb e)) (hp : (if e = true then X else Y) = some r) (ht : X = some r → SC P x Kn Ke Kr N n0 fx env its) (hf : Y = some r → SC P y Kn Ke Kr N n0 fx env its) : SC P (.cond c x y) Kn Ke Kr N n0 fx env its := fun κ w S =>
  WC.cond (t := e) (evS_den hc) (fun he => ht (if_t hp he) κ w S) (fun he => hf (if_f hp he) κ w S)
/-- A branch that is known. -/
theorem SC.ift {c : Operand} {x y : Code} (hc : evS env c = some (vb true)) (ht : SC P x Kn Ke Kr N n0 fx env its) : SC P (.cond c x y) Kn Ke Kr N n0 fx env its := fun κ w S =>
  WC.cond (t := true) (evS_den hc) (fun _ => ht κ w S) (fun he => by cases he)
theorem SC.iff {c : Operand} {x y : Code} (hc : evS env c = some (vb false)) (hf : SC P y Kn Ke Kr N n0 fx env its) : SC P (.cond c x y) Kn Ke Kr N n0 fx env its := fun κ w S =>
  WC.cond (t := false) (evS_den hc) (fun he => by cases he) (fun _ => hf κ w S)
end
end
end V
end Go.Proofs.YtladkmnfmpojiaaGreatDoor
