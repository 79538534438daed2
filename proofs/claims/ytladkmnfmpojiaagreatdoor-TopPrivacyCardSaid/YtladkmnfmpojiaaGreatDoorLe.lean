/-
  Effects on descriptions.
-/
import Derived.Test.YtladkmnfmpojiaaGreatDoorLd
namespace Go.Proofs.YtladkmnfmpojiaaGreatDoor
namespace V

/-- What one operation does. -/
def Does (P : Program) (e : Operand → Value) (o : Oper) (w : World) (K : Option Value → World → Prop) : Prop :=
  (∃ v w', (execOp e o).run P w = .ok (.value v) w' ∧ K (some v) w') ∨ (∃ w', (execOp e o).run P w = .ok .skip w' ∧ K none w') ∨
  ∃ f args, (execOp e o).run P w = .ok (.enter f args) w ∧ Calls P f args w fun e w' => ∃ v, e = .returned v ∧ K (some v) w'
/-- An operation, described: the value, the memory behind it. -/
def Eff (P : Program) (N n0 : Nat) (fx : Fx) (env : Env') (its : List Item) (o : Oper) (v : Option SV) (its' : List Item) : Prop :=
  ∀ κ w, St n0 fx env its κ w → ∀ a, Holds N (denE κ env) a → Does P a.eval o w fun ov w' => ∃ κx, (∀ x, v = some x → ov = some (x.den (κ ++ κx))) ∧ St n0 fx env its' (κ ++ κx) w'

section
variable {P : Program} {N n0 : Nat} {fx : Fx} {its its' : List Item} {κ : List Conc} {w : World} {tt : TT} {ops : Array Oper} {rest : List Oper} {Kn : Act → World → Prop} {env : Env'}
theorem WL.does {l : Env} {d : Option Nat} {op : Op} {t : TypeId} {ps : String} {af : Array Edge} (h : ∀ a, Holds N l a → Does P a.eval ⟨d, op, t, ps, af, none⟩ w fun ov w' => ∀ a', (match d, ov with
    | some d, some v => a' = a.put (some d) v
    | none, _ => a' = a
    | some _, none => False) → wpList P ops (QN fx.px Kn) rest a' w') (hne : ∀ d', d = some d' → ∀ a, Holds N l a → Does P a.eval ⟨d, op, t, ps, af, none⟩ w fun ov _ => ov ≠ none) : WL P fx.px ops (⟨d, op, t, ps, af, none⟩ :: rest) Kn N l w := fun a ha =>
  wpList_plain rfl fun K hK => by
    unfold Oper.wp
    rcases h a ha with ⟨v, w', h1, h2⟩ | ⟨w', h1, h2⟩ | ⟨f, args, h1, h2⟩
    · rw [h1]
      refine hK _ _ (h2 _ ?_)
      cases d <;> rfl
    · rw [h1]
      cases d with
      | none => exact hK _ _ (h2 _ rfl)
      | some d =>
        exfalso
        rcases hne d rfl a ha with ⟨v, w', h3, h4⟩ | ⟨w', h3, h4⟩ | ⟨f, args, h3, h4⟩
        · rw [h1] at h3; cases h3
        · exact h4 rfl
        · rw [h1] at h3; cases h3
    · rw [h1]
      refine Calls.mono h2 fun e w' hq => ?_
      obtain ⟨v, rfl, hv⟩ := hq
      refine hK _ _ (hv _ ?_)
      cases d <;> rfl
theorem SL.eff {d : Nat} {op : Op} {t : TypeId} {ps : String} {af : Array Edge} {v : SV} (h : Eff P N n0 fx env its ⟨some d, op, t, ps, af, none⟩ (some v) its') (hd : Nat.blt d N = true) (hv : v.lt its'.length = true) (hk : SL P ops rest Kn N n0 fx ((d, v) :: env) its') :
    SL P ops (⟨some d, op, t, ps, af, none⟩ :: rest) Kn N n0 fx env its := fun κ w S => by
  refine WL.does (fun a ha => ?_) (fun d' _ a ha => ?_)
  · have key : ∀ ov w', (∃ κx, (∀ x, some v = some x → ov = some (x.den (κ ++ κx))) ∧ St n0 fx env its' (κ ++ κx) w') → ∀ a', (match some d, ov with
      | some d, some v => a' = a.put (some d) v
      | none, _ => a' = a
      | some _, none => False) → wpList P ops (QN fx.px Kn) rest a' w' := by
      rintro ov w' ⟨κx, h1, S'⟩ a' ha'
      have := h1 v rfl
      subst this
      simp only at ha'
      subst ha'
      have hk' := hk (κ ++ κx) w' (S'.env (by
        have := S'.sce
        unfold scE at this ⊢
        simp [hv, this]))
      refine hk' _ ?_
      have h2 : denE (κ ++ κx) ((d, v) :: env) = (d, v.den (κ ++ κx)) :: denE κ env := by
        show (d, v.den (κ ++ κx)) :: denE (κ ++ κx) env = _
        rw [denE_app (by rw [S.len]; exact S.sce)]
      rw [h2]
      exact ha.put hd
    rcases h κ w S a ha with ⟨v, w', h1, h2⟩ | ⟨w', h1, h2⟩ | ⟨f, args, h1, h2⟩
    · exact .inl ⟨v, w', h1, key _ _ h2⟩
    · exact .inr (.inl ⟨w', h1, key _ _ h2⟩)
    · exact .inr (.inr ⟨f, args, h1, Calls.mono h2 fun e w' ⟨v, hv, hq⟩ => ⟨v, hv, key _ _ hq⟩⟩)
  · rcases h κ w S a ha with ⟨v, w', h1, h2⟩ | ⟨w', h1, h2⟩ | ⟨f, args, h1, h2⟩
    · exact .inl ⟨v, w', h1, by simp⟩
    · obtain ⟨κx, h3, _⟩ := h2
      exact absurd (h3 v rfl) (by simp)
    · exact .inr (.inr ⟨f, args, h1, Calls.mono h2 fun e w' ⟨v, hv, hq⟩ => ⟨v, hv, by simp⟩⟩)
theorem SL.eff0 {op : Op} {t : TypeId} {ps : String} {af : Array Edge} {v : Option SV} (h : Eff P N n0 fx env its ⟨none, op, t, ps, af, none⟩ v its') (hk : SL P ops rest Kn N n0 fx env its') :
    SL P ops (⟨none, op, t, ps, af, none⟩ :: rest) Kn N n0 fx env its := fun κ w S => by
  refine WL.does (fun a ha => ?_) (fun d' hd => by cases hd)
  have key : ∀ ov w', (∃ κx, (∀ x, v = some x → ov = some (x.den (κ ++ κx))) ∧ St n0 fx env its' (κ ++ κx) w') → ∀ a', (match (none : Option Nat), ov with
      | some d, some v => a' = a.put (some d) v
      | none, _ => a' = a
      | some _, none => False) → wpList P ops (QN fx.px Kn) rest a' w' := by
    rintro ov w' ⟨κx, h1, S'⟩ a' ha'
    have ha'' : a' = a := by cases ov <;> exact ha'
    subst ha''
    refine hk (κ ++ κx) w' S' _ ?_
    rw [denE_app (by rw [S.len]; exact S.sce)]
    exact ha
  rcases h κ w S a ha with ⟨v, w', h1, h2⟩ | ⟨w', h1, h2⟩ | ⟨f, args, h1, h2⟩
  · exact .inl ⟨v, w', h1, key _ _ h2⟩
  · exact .inr (.inl ⟨w', h1, key _ _ h2⟩)
  · exact .inr (.inr ⟨f, args, h1, Calls.mono h2 fun e w' ⟨v, hv, hq⟩ => ⟨v, hv, key _ _ hq⟩⟩)

/-! ### What is owned, in another order -/
theorem Ctx.of {U0 : Nat → Prop} {X0 : List (Option Nat)} {w0 w : World} {L L' : List (Option Nat)} (C : Ctx U0 X0 w0 L w) (f : Nat → Nat) (hf : ∀ (i b : Nat), L'[i]? = some (some b) → L[f i]? = some (some b)) (hi : ∀ (i j b : Nat), L'[i]? = some (some b) → L'[j]? = some (some b) → f i = f j → i = j) : Ctx U0 X0 w0 L' w :=
  ⟨C.step, C.u0, fun b hb => by
    obtain ⟨i, h⟩ := List.getElem?_of_mem hb
    exact C.live b (List.mem_of_getElem? (hf i b h)), fun i j b hij h1 h2 => C.sep (f i) (f j) b (fun e => hij (hi i j b h1 h2 e)) (hf i b h1) (hf j b h2)⟩
theorem TR.out {U0 : Nat → Prop} {w w' : World} {L L2 L' X : List (Option Nat)} (T : TR U0 L w L2 w' X) (h : ∀ b, some b ∈ L' → some b ∈ L2) : TR U0 L w L' w' X := ⟨T.size, T.block, T.xin, fun b hb hM => T.mono b hb (Mu.weaken h b hM)⟩
theorem rot_get {α : Type} {x : α} {l : List α} {i : Nat} {y : α} (h : (l ++ [x])[i]? = some y) : (x :: l)[if i = l.length then 0 else i + 1]? = some y := by
  by_cases e : i = l.length
  · subst e; rw [List.getElem?_append_right (Nat.le_refl _)] at h; simpa using h
  · rw [if_neg e]
    rcases Nat.lt_or_ge i l.length with hlt | hge
    · rw [List.getElem?_append_left hlt] at h; simpa using h
    · rw [List.getElem?_append_right hge] at h
      have : ([x] : List α)[i - l.length]? = none := by rw [List.getElem?_eq_none]; simp; omega
      rw [this] at h; cases h
theorem Ctx.rot {U0 : Nat → Prop} {X0 : List (Option Nat)} {w0 w : World} {x : Option Nat} {L : List (Option Nat)} (C : Ctx U0 X0 w0 (x :: L) w) : Ctx U0 X0 w0 (L ++ [x]) w :=
  C.of (fun i => if i = L.length then 0 else i + 1) (fun i b h => rot_get h) (fun i j b h1 h2 e => by
    by_cases h3 : i = L.length <;> by_cases h4 : j = L.length <;> simp [h3, h4] at e <;> omega)
theorem TR.rot {U0 : Nat → Prop} {w w' : World} {x : Option Nat} {L0 L X : List (Option Nat)} (T : TR U0 L0 w (x :: L) w' X) : TR U0 L0 w (L ++ [x]) w' X := T.out fun b h => by simp at h ⊢; exact h.symm
theorem Lof_snoc {it : Item} {c : Conc} (h : κ.length = its.length) : Lof (its ++ [it]) (κ ++ [c]) = Lof its κ ++ [own1 it c] := by
  unfold Lof
  rw [List.zipWith_append (by omega)]
  rfl
theorem noOw {its : List Item} (h : its.any Item.ow = false) : ∀ it ∈ its, it.ow = false := fun x hx => by
  cases hx' : x.ow with
  | false => rfl
  | true =>
    exfalso
    have : its.any Item.ow = true := List.any_eq_true.2 ⟨x, hx, hx'⟩
    rw [this] at h
    cases h
/-- One more item. -/
theorem St.push (S : St n0 fx env its κ w) (how : its.any Item.ow = false) {it : Item} {c : Conc} {w' : World} (C : Ctx fx.U0 fx.X0 fx.w0 (Lof its κ ++ [own1 it c]) w') (T : TR fx.U0 (Lof its κ) w (Lof its κ ++ [own1 it c]) w' []) (hlt : it.lt (its.length + 1) = true)
    (ok : OK (κ ++ [c]) (Mu fx.U0 (Lof its κ ++ [own1 it c])) w' it c) : St n0 fx env (its ++ [it]) (κ ++ [c]) w' := by
  have hL := Lof_snoc (it := it) (c := c) S.len
  refine S.next (fun _ => False) (by simp [S.len]) (by rw [List.length_append]; exact scE_mono (by simp) S.sce) ?_ (by rw [hL]; exact C) (by rw [hL]; exact T) ?_ ?_
  · have h1 := scI_mono (m := its.length + 1) (by omega) S.sci
    unfold scI at h1 ⊢
    simp [h1, hlt]
  · intro i it' hi _ h
    rw [List.getElem?_append_left hi] at h
    exact ⟨h, noOw how _ (List.mem_of_getElem? h), fun _ _ _ _ => by simp⟩
  · intro i it' c' hi h1 h2
    have hi : its.length ≤ i := hi.elim id False.elim
    have e : i = its.length := by
      have := (List.getElem?_eq_some_iff.1 h1).1
      simp at this
      omega
    subst e
    rw [List.getElem?_append_right (Nat.le_refl _)] at h1
    rw [List.getElem?_append_right (by rw [S.len]; exact Nat.le_refl _), S.len] at h2
    simp at h1 h2
    subst h1; subst h2
    rw [hL]
    exact ok
theorem Does.of_runW {l : Env} {o : Oper} {a : Act} {K : Value → World → Prop} {K' : Option Value → World → Prop} (h : RunW P N l o w K) (ha : Holds N l a) (hk : ∀ v w', K v w' → K' (some v) w') : Does P a.eval o w K' := by
  obtain ⟨v, w', h1, h2⟩ := h a ha
  exact .inl ⟨v, w', h1, hk v w' h2⟩

/-! ### New variables -/
theorem newBlk_st (S : St n0 fx env its κ w) (how : its.any Item.ow = false) {E : TypeId} {cs : List Cell} (hl : cs.all (Cell.lt its.length) = true) {v : Value} {w' : World} (h : NewBlk fx.U0 fx.X0 fx.w0 (Lof its κ) w E (cs.map (Cell.den κ)) v w') :
    ∃ κx, (∀ x, some (vp its.length 0) = some x → some v = some (x.den (κ ++ κx))) ∧ St n0 fx env (its ++ [.blk E cs]) (κ ++ κx) w' := by
  obtain ⟨b, rfl, hb, C, Tr⟩ := h
  refine ⟨[.b b], fun x hx => ?_, S.push how (it := .blk E cs) (c := .b b) C.rot Tr.rot (cells_lt_mono (by omega) hl) ?_⟩
  · injection hx with hx; subst hx
    simp only [SV.den, Cell.den]
    rw [List.getElem?_append_right (by rw [S.len]; exact Nat.le_refl _), S.len]
    simp
  · simp only [OK]
    rw [cells_app (by rw [S.len]; exact hl)]
    exact hb
def boxC (env : Env') (its : List Item) : Op → Option (TypeId × List Cell)
  | .box E x => match evS env x with
    | some v => (match v.cells its with
      | some cs => (match cs.all (Cell.lt its.length) && !its.any Item.ow with
        | true => some (E, cs)
        | false => none)
      | none => none)
    | none => none
  | _ => none
theorem e_box {d : Option Nat} {t : TypeId} {ps : String} {af : Array Edge} {g : Option (Nat × Bool)} {op : Op} {E : TypeId} (cs : List Cell) (h : boxC env its op = some (E, cs)) : Eff P N n0 fx env its ⟨d, op, t, ps, af, g⟩ (some (vp its.length 0)) (its ++ [.blk E cs]) := fun κ w S a ha => by
  unfold boxC at h
  split at h
  · split at h
    · rename_i v hx
      split at h
      · rename_i cs' hc
        split at h
        · rename_i hb
          simp only [Option.some.injEq, Prod.mk.injEq] at h
          obtain ⟨rfl, rfl⟩ := h
          simp only [Bool.and_eq_true, Bool.not_eq_true'] at hb
          exact Does.of_runW (rw_box (evS_den hx) (cells_den S.kno hc) S.ctx) ha fun v w' hk => newBlk_st S hb.2 hb.1 hk
        · cases h
      · cases h
    · cases h
  · cases h
def allocC (tt : TT) (its : List Item) : Op → Option (TypeId × List Cell)
  | .alloc E => match lkT E tt with
    | some ⟨_, _, _, some z, _⟩ => (match its.any Item.ow with
      | false => some (E, z.cells.toList.map .v)
      | true => none)
    | _ => none
  | _ => none
theorem e_alloc {d : Option Nat} {t : TypeId} {ps : String} {af : Array Edge} {g : Option (Nat × Bool)} {op : Op} {E : TypeId} (htt : TTOk P tt) (cs : List Cell) (h : allocC tt its op = some (E, cs)) : Eff P N n0 fx env its ⟨d, op, t, ps, af, g⟩ (some (vp its.length 0)) (its ++ [.blk E cs]) := fun κ w S a ha => by
  unfold allocC at h
  split at h
  · split at h
    · rename_i E' u ag n z bt ht
      split at h
      · rename_i hb
        simp only [Option.some.injEq, Prod.mk.injEq] at h
        obtain ⟨rfl, rfl⟩ := h
        have hz : z.cells = (((z.cells.toList.map Cell.v).map (Cell.den κ))).toArray := by
          rw [List.map_map, show (Cell.den κ ∘ Cell.v) = id from rfl, List.map_id]
        exact Does.of_runW (rw_alloc ((htt.get ht).zero z rfl) hz S.ctx) ha fun v w' hk => newBlk_st S hb (by simp [Cell.lt]) hk
      · cases h
    · cases h
  · cases h

/-! ### Rows of the call's own -/
section
variable {α : Type} {sz : Nat} {E : TypeId} {R : RT α} [GRep R]
theorem newOwn_st (S : St n0 fx env its κ w) (how : its.any Item.ow = false) {l : List α} {v : Value} {w' : World} (h : OwnNew sz E R fx.U0 fx.X0 fx.w0 (Lof its κ) w [] (fun y => y :: Lof its κ) l v w') :
    ∃ κx, (∀ x, some (vs its.length) = some x → some v = some (x.den (κ ++ κx))) ∧ St n0 fx env (its ++ [.own sz E R l]) (κ ++ κx) w' := by
  obtain ⟨A, c, rfl, ho, C, Tr⟩ := h
  refine ⟨[.r A l.length c], fun x hx => ?_, S.push how (it := .own sz E R l) (c := .r A l.length c) C.rot Tr.rot rfl ⟨rfl, ?_⟩⟩
  · injection hx with hx; subst hx
    simp only [SV.den, Cell.den]
    rw [List.getElem?_append_right (by rw [S.len]; exact Nat.le_refl _), S.len]
    simp
  · exact ho.mu (Mu.weaken fun b h => by simp at h ⊢; exact h.symm)
/-- What a slice that is read holds now. -/
inductive Sx {α : Type} (its : List Item) (sz : Nat) (R : RT α) [GRep R] (l : List α) : SV → Prop
  | o {j : Nat} (E : TypeId) (h : its[j]? = some (.own sz E R l)) : Sx its sz R l (vs j)
  | r {j : Nat} (h : its[j]? = some (.rd sz R l)) : Sx its sz R l (vs j)
  | n (h : l = []) : Sx its sz R l vn
theorem Sx.src {l : List α} {v : SV} (S : St n0 fx env its κ w) (h : Sx its sz R l v) : ∃ A n c, v.den κ = .slice A n c ∧ n = l.length ∧ Src sz R (Mu fx.U0 (Lof its κ)) w A l := by
  cases h with
  | @o j E h =>
    obtain ⟨c, h1, h2⟩ := S.conc h
    cases c with
    | r A n c => exact ⟨A, n, c, by simp [SV.den, Cell.den, h1], h2.1, h2.2.src⟩
    | _ => exact h2.elim
  | @r j h =>
    obtain ⟨c, h1, h2⟩ := S.conc h
    cases c with
    | r A n c => exact ⟨A, n, c, by simp [SV.den, Cell.den, h1], h2.1, h2.2.src⟩
    | _ => exact h2.elim
  | n h =>
    subst h
    exact ⟨none, 0, 0, rfl, rfl, (Sl.nil0 : Sl sz R _ _ none 0 []).src⟩
def TRow (tt : TT) (ty E : TypeId) (sz by_ : Nat) : Bool := match lkT ty tt, lkT E tt with
  | some ⟨.slice E', _, _, _, _⟩, some ti => Nat.beq E E' && (Nat.beq ti.size sz && (Nat.beq ti.bytes by_ && Nat.blt 0 sz))
  | _, _ => false
theorem trow_get (htt : TTOk P tt) {ty : TypeId} {by_ : Nat} (h : TRow tt ty E sz by_ = true) : P.underlying ty = some (.slice E) ∧ (∃ i z, P.info? E = some i ∧ i.size = sz ∧ i.bytes = by_ ∧ i.zero = some z ∧ z.cells.size = sz) ∧ Nat.blt 0 sz = true ∧ (∀ w, (sizeOf E).run P w = .ok sz w) := by
  unfold TRow at h
  split at h
  · rename_i E' _ _ _ _ ti h1 h2
    simp only [Bool.and_eq_true, Nat.beq_eq] at h
    obtain ⟨rfl, rfl, rfl, h3⟩ := h
    exact ⟨(htt.get h1).und, (htt.get h2).info, h3, (htt.get h2).size⟩
  · cases h
theorem appended_st2 (S : St n0 fx env its κ w) (how : its.any Item.ow = false) {i n c : Nat} {A : Option Addr} {l l' : List α} {it0 : Item} (hl0 : ∀ m, it0.lt m = true) (hn0 : own1 it0 (.r A n c) = none) (hk0 : ∀ κ U w, OK κ U w it0 (.r A n c)) (hi : its[i]? = some (.own sz E R l)) (hc : κ[i]? = some (.r A n c)) {u : Value} {w' : World} (h : OwnNew sz E R fx.U0 fx.X0 fx.w0 (Lof its κ) w [ob A] ((Lof its κ).set i) l' u w') :
    ∃ κx, (∀ x, some (vs its.length) = some x → some u = some (x.den (κ ++ κx))) ∧ St n0 fx env (its.set i it0 ++ [.own sz E R l']) (κ ++ κx) w' := by
  have hil : i < its.length := (List.getElem?_eq_some_iff.1 hi).1
  have hL : (Lof its κ)[i]? = some (ob A) := Lof_get hi hc
  obtain ⟨A', c', rfl, ho', C, Tr⟩ := h
  have hlen : (Lof its κ).length = its.length := by simp [Lof, S.len]
  have hL' : Lof (its.set i it0 ++ [.own sz E R l']) (κ ++ [.r A' l'.length c']) = (Lof its κ).set i none ++ [ob A'] := by
    rw [Lof_snoc (by simp [S.len])]
    congr 1
    apply List.ext_getElem?
    intro j
    by_cases hj : j = i
    · subst hj
      rw [List.getElem?_set_self (by rw [hlen]; exact hil)]
      rw [Lof_get (by rw [List.getElem?_set_self hil]) hc, hn0]
    · rw [List.getElem?_set_ne (fun e => hj e.symm)]
      unfold Lof
      rw [List.getElem?_zipWith, List.getElem?_zipWith, List.getElem?_set_ne (fun e => hj e.symm)]
  have hin : ∀ b, some b ∈ (Lof its κ).set i none ++ [ob A'] → some b ∈ (Lof its κ).set i (ob A') := by
    intro b hb
    rcases List.mem_append.1 hb with h | h
    · obtain ⟨j, hj⟩ := List.getElem?_of_mem h
      by_cases e : j = i
      · subst e
        rw [List.getElem?_set_self (by rw [hlen]; exact hil)] at hj
        cases hj
      · rw [List.getElem?_set_ne (fun h => e h.symm)] at hj
        exact List.mem_of_getElem? (i := j) (by rw [List.getElem?_set_ne (fun h => e h.symm)]; exact hj)
    · rw [List.mem_singleton] at h
      exact List.mem_of_getElem? (i := i) (by rw [List.getElem?_set_self (by rw [hlen]; exact hil), h])
  refine ⟨[.r A' l'.length c'], fun x hx => ?_, ?_⟩
  · injection hx with hx; subst hx
    simp only [SV.den, Cell.den]
    rw [List.getElem?_append_right (by rw [S.len]; exact Nat.le_refl _), S.len]
    simp
  · refine S.next (fun j => j = i) (by simp [S.len]) (by rw [List.length_append, List.length_set]; exact scE_mono (by simp) S.sce) ?_ ?_ (X := [ob A]) (by rw [hL']; exact Tr.out hin) ?_ ?_
    · unfold scI
      rw [List.all_eq_true]
      intro it hit
      have h1 := scI_mono (m := its.length + 1) (by omega) S.sci
      unfold scI at h1
      rw [List.all_eq_true] at h1
      rw [List.length_append, List.length_set]
      rcases List.mem_append.1 hit with h | h
      · rcases List.mem_or_eq_of_mem_set h with h | h
        · exact h1 _ h
        · subst h; exact hl0 _
      · rw [List.mem_singleton] at h; subst h; rfl
    · rw [hL']
      refine C.of (fun j => if j = its.length then i else j) (fun j b h => ?_) (fun j k b h1 h2 e => ?_)
      · by_cases e : j = its.length
        · subst e
          rw [List.getElem?_append_right (by simp [hlen])] at h
          simp [hlen] at h
          simp only [if_true]
          rw [List.getElem?_set_self (by rw [hlen]; exact hil), h]
        · rw [if_neg e]
          rcases Nat.lt_or_ge j its.length with hlt | hge
          · rw [List.getElem?_append_left (by simp [hlen, hlt])] at h
            by_cases ej : j = i
            · subst ej
              rw [List.getElem?_set_self (by rw [hlen]; exact hil)] at h
              cases h
            · rw [List.getElem?_set_ne (fun h => ej h.symm)] at h ⊢
              exact h
          · have := (List.getElem?_eq_some_iff.1 h).1
            simp [hlen] at this
            omega
      · have hne : ∀ j, ((Lof its κ).set i none ++ [ob A'])[j]? = some (some b) → j ≠ i := by
          intro j h e
          subst e
          rw [List.getElem?_append_left (by simp [hlen, hil]), List.getElem?_set_self (by rw [hlen]; exact hil)] at h
          cases h
        have h3 := hne j h1
        have h4 := hne k h2
        by_cases e1 : j = its.length <;> by_cases e2 : k = its.length <;> simp [e1, e2] at e ⊢ <;> omega
    · intro j it hj hne hit
      rw [List.getElem?_append_left (by simpa using hj), List.getElem?_set_ne (fun h => hne h.symm)] at hit
      refine ⟨hit, noOw how _ (List.mem_of_getElem? hit), fun c0 b hc0 hb hm => ?_⟩
      rw [List.mem_singleton] at hm
      have h1 := Lof_get hit hc0
      rw [hb, hm] at h1
      rw [← hm] at hL
      rw [← hm] at h1
      exact S.ctx.sep j i b hne h1 hL
    · intro j it c0 hj hit hc0
      rcases hj with hj | rfl
      · have e : j = its.length := by
          have := (List.getElem?_eq_some_iff.1 hit).1
          simp at this
          omega
        subst e
        rw [List.getElem?_append_right (by simp)] at hit
        rw [List.getElem?_append_right (by rw [S.len]; exact Nat.le_refl _), S.len] at hc0
        simp at hit hc0
        subst hit; subst hc0
        rw [hL']
        exact ⟨rfl, ho'.mu (Mu.weaken hin)⟩
      · rw [List.getElem?_append_left (by simpa using hil), List.getElem?_set_self hil] at hit
        injection hit with hit
        rw [List.getElem?_append_left (List.getElem?_eq_some_iff.1 hc).1, hc] at hc0
        injection hc0 with hc0
        subst hc0
        subst hit
        exact hk0 _ _ _
theorem appended_st (S : St n0 fx env its κ w) (how : its.any Item.ow = false) {i n c : Nat} {A : Option Addr} {l l' : List α} (hi : its[i]? = some (.own sz E R l)) (hc : κ[i]? = some (.r A n c)) {u : Value} {w' : World} (h : OwnNew sz E R fx.U0 fx.X0 fx.w0 (Lof its κ) w [ob A] ((Lof its κ).set i) l' u w') :
    ∃ κx, (∀ x, some (vs its.length) = some x → some u = some (x.den (κ ++ κx))) ∧ St n0 fx env (its.set i .gone ++ [.own sz E R l']) (κ ++ κx) w' :=
  appended_st2 (it0 := .gone) S how (fun _ => rfl) rfl (fun _ _ _ => trivial) hi hc h
/-- Of a row only how long it is. -/
def RU : RT Unit := fun _ _ cs _ => cs = []
instance : GRep RU := ⟨fun h _ _ => h, fun h u hu => by unfold RU at h; subst h; simp at hu⟩
theorem els_unit {U : Nat → Prop} {w : World} : ∀ (l : List Unit), Els 0 RU U w [] l
  | [] => rfl
  | _ :: l => ⟨[], [], rfl, rfl, rfl, els_unit l⟩
theorem e_app (htt : TTOk P tt) {d : Option Nat} {t : TypeId} {ps : String} {af : Array Edge} {g : Option (Nat × Bool)} {ty : TypeId} {x y : Operand} {by_ i : Nat} {l m l' : List α} {v : SV} (hx : evS env x = some (vs i)) (hi : its[i]? = some (.own sz E R l)) (hy : evS env y = some v) (hm : Sx its sz R m v)
    (ha : app by_ l m = some l') (hT : (TRow tt ty E sz by_ && !its.any Item.ow) = true) :
    Eff P N n0 fx env its ⟨d, .call { callee := .builtin .append, args := #[x, y], argTypes := #[ty, ty] }, t, ps, af, g⟩ (some (vs its.length)) (its.set i .gone ++ [.own sz E R l']) := fun κ w S a haa => by
  simp only [Bool.and_eq_true, Bool.not_eq_true'] at hT
  obtain ⟨hT, how⟩ := hT
  obtain ⟨hu, ⟨info, z, hinf, h1, h2, h3, h4⟩, hpos, _⟩ := trow_get htt hT
  obtain ⟨c, hc, hok⟩ := S.conc hi
  obtain ⟨B, nb, cb, hv, hnb, hs⟩ := hm.src S
  cases c with
  | r A n c =>
    obtain ⟨hn, ho⟩ := hok
    subst hn
    have hx' := evS_den (κ := κ) hx
    have hy' := evS_den (κ := κ) hy
    simp only [SV.den, Cell.den, hc] at hx'
    rw [hv] at hy'
    have hL : (Lof its κ)[i]? = some (ob A) := Lof_get hi hc
    refine Does.of_runW (rw_append hu hinf h3 h1 h2 h4 hpos hx' hy' hnb ho hs ha hL S.ctx) haa ?_
    exact fun u w' h => appended_st S how hi hc h
  | _ => exact hok.elim
theorem e_appk (htt : TTOk P tt) {d : Option Nat} {t : TypeId} {ps : String} {af : Array Edge} {g : Option (Nat × Bool)} {ty : TypeId} {x y : Operand} {by_ i : Nat} {l m l' : List α} {v : SV} (hx : evS env x = some (vs i)) (hi : its[i]? = some (.own sz E R l)) (hy : evS env y = some v) (hm : Sx its sz R m v)
    (ha : app by_ l m = some l') (hT : (TRow tt ty E sz by_ && !its.any Item.ow) = true) :
    Eff P N n0 fx env its ⟨d, .call { callee := .builtin .append, args := #[x, y], argTypes := #[ty, ty] }, t, ps, af, g⟩ (some (vs its.length)) (its.set i (.rd 0 RU (lens l)) ++ [.own sz E R l']) := fun κ w S a haa => by
  simp only [Bool.and_eq_true, Bool.not_eq_true'] at hT
  obtain ⟨hT, how⟩ := hT
  obtain ⟨hu, ⟨info, z, hinf, h1, h2, h3, h4⟩, hpos, _⟩ := trow_get htt hT
  obtain ⟨c, hc, hok⟩ := S.conc hi
  obtain ⟨B, nb, cb, hv, hnb, hs⟩ := hm.src S
  cases c with
  | r A n c =>
    obtain ⟨hn, ho⟩ := hok
    subst hn
    have hx' := evS_den (κ := κ) hx
    have hy' := evS_den (κ := κ) hy
    simp only [SV.den, Cell.den, hc] at hx'
    rw [hv] at hy'
    have hL : (Lof its κ)[i]? = some (ob A) := Lof_get hi hc
    refine Does.of_runW (rw_append hu hinf h3 h1 h2 h4 hpos hx' hy' hnb ho hs ha hL S.ctx) haa ?_
    exact fun u w' h => appended_st2 (it0 := .rd 0 RU (lens l)) S how (fun _ => rfl) rfl (fun κ U w => ⟨by simp [lens], by
      rcases own_form ho with ⟨_, rfl, rfl⟩ | ⟨_, _, _, _, _, _, _, _, h1, h2, _⟩
      · exact ⟨Nat.le_refl _, Nat.zero_le _, [], rfl, fun j u hu => by simp at hu⟩
      · exact ⟨by simpa [lens] using h1, h2, [], els_unit _, fun j u hu => by simp at hu⟩⟩) hi hc h
  | _ => exact hok.elim
/-- A slice that is nil becomes a row of the call's own. -/
theorem SL.nil (sz : Nat) (E : TypeId) (R : RT α) [GRep R] (how : its.any Item.ow = false) (t : Nat) (ht : lkE t env = some vn) (hk : SL P ops rest Kn N n0 fx ((t, vs its.length) :: env) (its ++ [.own sz E R []])) : SL P ops rest Kn N n0 fx env its := fun κ w S => by
  have C : Ctx fx.U0 fx.X0 fx.w0 (Lof its κ ++ [ob none]) w := S.ctx.addNone.1.rot
  have T : TR fx.U0 (Lof its κ) w (Lof its κ ++ [ob none]) w [] := S.ctx.addNone.2.rot
  have S' := S.push how (it := .own sz E R []) (c := .r none 0 0) C T rfl ⟨rfl, Own.nil⟩
  intro a ha
  refine hk _ _ (S'.env (by
    have h1 := S'.sce
    unfold scE at h1 ⊢
    rw [List.all_cons, h1, Bool.and_true]
    simp [SV.lt, Cell.lt])) a ?_
  refine ⟨ha.size, ha.defers, fun u v hu => ?_⟩
  simp only [denE, List.map_cons, lk] at hu
  cases hb : Nat.beq u t with
  | true =>
    rw [hb] at hu
    injection hu with hu
    have h1 : (vs its.length).den (κ ++ [Conc.r none 0 0]) = .slice none 0 0 := by
      simp only [SV.den, Cell.den]
      rw [List.getElem?_append_right (by rw [S.len]; exact Nat.le_refl _), S.len]
      simp
    rw [Nat.eq_of_beq_eq_true hb, ← hu, h1]
    exact ha.get t _ (lkE_den ht)
  | false =>
    rw [hb] at hu
    refine ha.get u v ?_
    rw [← hu, ← denE_app (κx := [Conc.r none 0 0]) (by rw [S.len]; exact S.sce)]
    rfl
/-- 'make'. -/
theorem e_make (htt : TTOk P tt) {d : Option Nat} {t : TypeId} {ps : String} {af : Array Edge} {g : Option (Nat × Bool)} {ty : TypeId} {x y : Operand} {by_ : Nat} {k k' : IntKind} {n : Int} {z : Value} {e : α} {l : List α} (hx : evS env x = some (vi k n)) (hy : evS env y = some (vi k' n)) (hz : (lkT E tt).bind (·.zero) = some z) (hr : ∀ U w, R U w z.cells.toList e)
    (hm : mk by_ e n = some l) (hT : (TRow tt ty E sz by_ && !its.any Item.ow) = true) :
    Eff P N n0 fx env its ⟨d, .makeSlice ty x y, t, ps, af, g⟩ (some (vs its.length)) (its ++ [.own sz E R l]) := fun κ w S a haa => by
  simp only [Bool.and_eq_true, Bool.not_eq_true'] at hT
  obtain ⟨hT, how⟩ := hT
  obtain ⟨hu, ⟨info, z', hinf, h1, h2, h3, h4⟩, hpos, _⟩ := trow_get htt hT
  have hzz : z' = z := by
    cases ht : lkT E tt with
    | none => simp [ht] at hz
    | some ti =>
      simp [ht] at hz
      have := (htt.get ht).zero z hz
      have h5 : ∀ w, (zeroValue E).run P w = .ok z' w := fun w => by
        simp [zeroValue, typeInfo, hinf, h3]
      have h6 := (this w).symm.trans (h5 w)
      injection h6 with h6
      exact h6.symm
  subst hzz
  exact Does.of_runW (rw_make hu hinf h3 h1 h2 (by simp) (by simpa using h4) (evS_den hx) (evS_den hy) hr hm S.ctx) haa fun v w' hk => newOwn_st S how hk
theorem e_makec (htt : TTOk P tt) {d : Option Nat} {t : TypeId} {ps : String} {af : Array Edge} {g : Option (Nat × Bool)} {ty : TypeId} {x y : Operand} {by_ : Nat} {k k' : IntKind} {n c : Int} {z : Value} {e : α} {l : List α} (hx : evS env x = some (vi k n)) (hy : evS env y = some (vi k' c)) (hz : (lkT E tt).bind (·.zero) = some z) (hr : ∀ U w, R U w z.cells.toList e)
    (hm : mkc by_ e n c = some l) (hT : (TRow tt ty E sz by_ && !its.any Item.ow) = true) :
    Eff P N n0 fx env its ⟨d, .makeSlice ty x y, t, ps, af, g⟩ (some (vs its.length)) (its ++ [.own sz E R l]) := fun κ w S a haa => by
  simp only [Bool.and_eq_true, Bool.not_eq_true'] at hT
  obtain ⟨hT, how⟩ := hT
  obtain ⟨hu, ⟨info, z', hinf, h1, h2, h3, h4⟩, hpos, _⟩ := trow_get htt hT
  have hzz : z' = z := by
    cases ht : lkT E tt with
    | none => simp [ht] at hz
    | some ti =>
      simp [ht] at hz
      have := (htt.get ht).zero z hz
      have h5 : ∀ w, (zeroValue E).run P w = .ok z' w := fun w => by
        simp [zeroValue, typeInfo, hinf, h3]
      have h6 := (this w).symm.trans (h5 w)
      injection h6 with h6
      exact h6.symm
  subst hzz
  exact Does.of_runW (rw_makec hu hinf h3 h1 h2 (by simp) (by simpa using h4) (evS_den hx) (evS_den hy) hr hm S.ctx) haa fun v w' hk => newOwn_st S how hk
end
end
end V
end Go.Proofs.YtladkmnfmpojiaaGreatDoor
namespace Go.Proofs.YtladkmnfmpojiaaGreatDoor
namespace V
section
variable {P : Program} {N n0 : Nat} {fx : Fx} {its its' : List Item} {κ : List Conc} {w : World} {tt : TT} {ops : Array Oper} {rest : List Oper} {Kn : Act → World → Prop} {env : Env'}
theorem OK.ext {κx : List Conc} {it : Item} {c : Conc} {U U' : Nat → Prop} (hsc : it.lt κ.length = true) (hU : ∀ b, U' b → U b) (h : OK κ U w it c) : OK (κ ++ κx) U' w it c := by
  cases it with
  | blk Ty cs => cases c with
    | b n =>
      simp only [OK] at h ⊢
      rw [cells_app hsc]
      exact h
    | _ => exact h.elim
  | elt src ow cs => cases c with
    | a ad =>
      cases src with
      | none =>
        simp only [OK] at h ⊢
        rw [cells_app (by simpa [Item.lt] using hsc)]
        exact ⟨h.1.mu hU, h.2⟩
      | some q =>
        obtain ⟨i, iv⟩ := q
        simp only [Item.lt, Bool.and_eq_true, Nat.blt_eq] at hsc
        simp only [OK] at h ⊢
        rw [cells_app hsc.2]
        obtain ⟨h1, h2, A, n, c, h3, h4⟩ := h
        exact ⟨h1.mu (fun b hb => ⟨hb.1, hU b hb.2⟩), h2, A, n, c, by rw [List.getElem?_append_left hsc.1]; exact h3, h4⟩
    | _ => cases src <;> exact h.elim
  | own sz E R l => cases c with
    | r A n c =>
      simp only [OK] at h ⊢
      exact ⟨h.1, h.2.mu hU⟩
    | _ => exact h.elim
  | rd sz R l => cases c with
    | r A n c =>
      simp only [OK] at h ⊢
      exact ⟨h.1, h.2.mu hU⟩
    | _ => exact h.elim
  | mp k R ow l => cases c with
    | m b =>
      cases ow with
      | true =>
        simp only [OK] at h ⊢
        obtain ⟨n, rfl, hm⟩ := h
        exact ⟨n, rfl, hm.step rfl (fun _ _ _ => rfl) (fun b _ => hU b)⟩
      | false =>
        simp only [OK] at h ⊢
        rcases h with h | ⟨n, rfl, hn, hm⟩
        · exact .inl h
        · exact .inr ⟨n, rfl, fun q => hn (hU n q), hm.step rfl (fun _ _ _ => rfl) (fun b _ => hU b)⟩
    | _ => cases ow <;> exact h.elim
  | lm k l => cases c with
    | m b =>
      simp only [OK] at h ⊢
      obtain ⟨n, rfl, hm⟩ := h
      have e : (l.map fun p => (p.1, p.2.den (κ ++ κx))) = l.map fun p => (p.1, p.2.den κ) := List.map_congr_left fun p hp => by
        simp only [Item.lt, List.all_eq_true] at hsc
        rw [den_app (hsc p hp)]
      rw [e]
      exact ⟨n, rfl, hm.step rfl (fun _ _ _ => rfl) (fun b _ => hU b)⟩
    | _ => exact h.elim
  | str s => cases c with
    | s x => exact h
    | _ => exact h.elim
  | adr => cases c with
    | b n => exact h
    | _ => exact h.elim
  | gone => trivial
theorem none_get {l : List (Option Nat)} (h : ∀ x ∈ l, x = none) {i b : Nat} : l[i]? ≠ some (some b) := fun e => by
  have := h _ (List.mem_of_getElem? e)
  cases this
/-- More is known of the same memory. -/
theorem St.more (S : St n0 fx env its κ w) {its2 : List Item} {κ2 : List Conc} (hl : κ2.length = its2.length) (hn : ∀ (i : Nat) it c, its2[i]? = some it → κ2[i]? = some c → own1 it c = none) (hs : its2.all (Item.lt (its.length + its2.length)) = true)
    (hok : ∀ (i : Nat) it c, its2[i]? = some it → κ2[i]? = some c → OK (κ ++ κ2) (Mu fx.U0 (Lof its κ)) w it c) : St n0 fx env (its ++ its2) (κ ++ κ2) w := by
  have hL : Lof (its ++ its2) (κ ++ κ2) = Lof its κ ++ Lof its2 κ2 := by
    unfold Lof
    rw [List.zipWith_append (by rw [S.len])]
  have hnone : ∀ x ∈ Lof its2 κ2, x = none := by
    intro x hx
    obtain ⟨i, hi⟩ := List.getElem?_of_mem hx
    cases x with
    | none => rfl
    | some b =>
      obtain ⟨it, c, h1, h2, h3⟩ := Lof_inv hi
      rw [hn i it c h1 h2] at h3
      cases h3
  have hmem : ∀ b, some b ∈ Lof its κ ++ Lof its2 κ2 → some b ∈ Lof its κ := by
    intro b hb
    rcases List.mem_append.1 hb with h | h
    · exact h
    · exact absurd (hnone _ h) (by simp)
  have hget : ∀ (i b : Nat), (Lof its κ ++ Lof its2 κ2)[i]? = some (some b) → (Lof its κ)[i]? = some (some b) := by
    intro i b h
    rcases Nat.lt_or_ge i (Lof its κ).length with hlt | hge
    · rwa [List.getElem?_append_left hlt] at h
    · rw [List.getElem?_append_right hge] at h
      exact absurd h (none_get hnone)
  refine ⟨by simp [S.len, hl], ?_, by rw [List.length_append]; have := S.n0; omega, by rw [List.length_append]; exact scE_mono (by omega) S.sce, ?_, ?_, fun i it c h1 h2 => ?_⟩
  · rw [List.take_append_of_le_length S.n0]; exact S.pre
  · have h1 := scI_mono (m := its.length + its2.length) (by omega) S.sci
    unfold scI at h1 ⊢
    rw [List.length_append, List.all_append, h1, hs]
    rfl
  · rw [hL]
    exact S.ctx.of id (fun i b h => hget i b h) (fun i j b _ _ e => e)
  · rw [hL]
    have hU : ∀ b, Mu fx.U0 (Lof its κ ++ Lof its2 κ2) b → Mu fx.U0 (Lof its κ) b := Mu.weaken hmem
    rcases Nat.lt_or_ge i its.length with hlt | hge
    · rw [List.getElem?_append_left hlt] at h1
      rw [List.getElem?_append_left (by rw [S.len]; exact hlt)] at h2
      have hsc : it.lt κ.length = true := by
        have h3 := S.sci
        unfold scI at h3
        rw [List.all_eq_true] at h3
        rw [S.len]
        exact h3 _ (List.mem_of_getElem? h1)
      exact OK.ext hsc hU (S.ok i it c h1 h2)
    · rw [List.getElem?_append_right hge] at h1
      rw [List.getElem?_append_right (by rw [S.len]; exact hge), S.len] at h2
      have h3 := hok _ it c h1 h2
      have hlt2 : it.lt (κ ++ κ2).length = true := by
        rw [List.all_eq_true] at hs
        rw [List.length_append, S.len, hl]
        exact hs _ (List.mem_of_getElem? h1)
      have h4 := OK.ext (κ := κ ++ κ2) (κx := []) hlt2 hU h3
      rwa [List.append_nil] at h4

/-- More is known, with nothing done. -/
def Pre (n0 : Nat) (fx : Fx) (env : Env') (its its2 : List Item) : Prop := ∀ κ w, St n0 fx env its κ w → ∃ κx, St n0 fx env its2 (κ ++ κx) w
theorem SL.pre (h : Pre n0 fx env its its') (hk : SL P ops rest Kn N n0 fx env its') : SL P ops rest Kn N n0 fx env its := fun κ w S => by
  obtain ⟨κx, S'⟩ := h κ w S
  have := hk _ _ S'
  rwa [denE_app (by rw [S.len]; exact S.sce)] at this
theorem SC.pre {Ke : Nat → Act → World → Prop} {Kr : Act → World → Prop} {c : Code} (h : Pre n0 fx env its its') (hk : SC P c Kn Ke Kr N n0 fx env its') : SC P c Kn Ke Kr N n0 fx env its := fun κ w S => by
  obtain ⟨κx, S'⟩ := h κ w S
  have := hk _ _ S'
  rwa [denE_app (by rw [S.len]; exact S.sce)] at this

/-! ### Elements laid open -/
class GOpen {α : Type} (R : RT α) [GRep R] where
  cells : α → Nat → List Cell
  its : α → List Item
  op : ∀ {U : Nat → Prop} {w : World} {cs : List Value} {x : α}, R U w cs x → ∃ κs : List Conc, κs.length = (its x).length ∧ (∀ κ : List Conc, cs = (cells x κ.length).map (Cell.den (κ ++ κs))) ∧
    (∀ n, (cells x n).all (Cell.lt (n + (its x).length)) = true) ∧ ∀ (i : Nat) it c, (its x)[i]? = some it → κs[i]? = some c → own1 it c = none ∧ (∀ n, it.lt n = true) ∧ ∀ κ, OK κ U w it c
instance (k : IntKind) : GOpen (RInt k) := ⟨fun x _ => [ci k x], fun _ => [], fun h => ⟨[], rfl, fun _ => h, fun _ => rfl, fun i it c h => by simp at h⟩⟩
instance : GOpen RBool := ⟨fun x _ => [cb x], fun _ => [], fun h => ⟨[], rfl, fun _ => h, fun _ => rfl, fun i it c h => by simp at h⟩⟩
theorem get_new {κ κs : List Conc} (i : Nat) : (κ ++ κs)[κ.length + i]? = κs[i]? := by
  rw [List.getElem?_append_right (by omega)]
  congr 1
  omega
theorem get_new0 {κ κs : List Conc} : (κ ++ κs)[κ.length]? = κs[0]? := get_new 0
theorem one_get {α : Type 1} {β : Type} {P : α → β → Prop} {x : α} {y : β} (h : P x y) : ∀ (i : Nat) a b, [x][i]? = some a → [y][i]? = some b → P a b := fun i a b h1 h2 => by
  cases i with
  | zero => simp at h1 h2; subst h1; subst h2; exact h
  | succ i => simp at h1
instance : GOpen RStr := ⟨fun _ n => [.t n], fun s => [.str s], fun {U w cs x} h => by
  obtain ⟨b, rfl, hb⟩ := h
  refine ⟨[.s b], rfl, fun κ => ?_, fun n => by simp [Cell.lt], ?_⟩
  · simp [Cell.den]
  · exact one_get (P := fun (it : Item) (c : Conc) => own1 it c = none ∧ (∀ n, it.lt n = true) ∧ ∀ κ, OK κ U w it c) ⟨rfl, fun _ => rfl, fun _ => hb⟩⟩
instance {α : Type} (sz : Nat) (R : RT α) [GRep R] : GOpen (RSl sz R) := ⟨fun _ n => [.s n], fun l => [.rd sz R l], fun {U w cs x} h => by
  obtain ⟨A, c, rfl, hb⟩ := h
  refine ⟨[.r A x.length c], rfl, fun κ => ?_, fun n => by simp [Cell.lt], ?_⟩
  · simp [Cell.den]
  · exact one_get (P := fun (it : Item) (c : Conc) => own1 it c = none ∧ (∀ n, it.lt n = true) ∧ ∀ κ, OK κ U w it c) ⟨rfl, fun _ => rfl, fun _ => ⟨rfl, hb⟩⟩⟩
theorem el_more {α : Type} {R : RT α} [GRep R] [GOpen R] (S : St n0 fx env its κ w) {i : Nat} {iv : Int} {ow : Bool} {x : α} {ad : Addr} {es : List Value} (hU : At (fun b => ow = false ∧ Mu fx.U0 (Lof its κ) b) w ad es) (hne : es ≠ []) (hr : R (Mu fx.U0 (Lof its κ)) w es x)
    (hi : i < its.length) (ho : ∃ A n c, κ[i]? = some (.r (some A) n c) ∧ ad = A.add (iv.toNat * es.length) ∧ 0 ≤ iv ∧ iv < n) : ∃ κx, St n0 fx env (its ++ (.elt (some (i, iv)) ow (GOpen.cells R x (its.length + 1)) :: GOpen.its R x)) (κ ++ κx) w := by
  obtain ⟨κs, h1, h2, h3, h4⟩ := GOpen.op hr
  have hcs : es = (GOpen.cells R x (its.length + 1)).map (Cell.den (κ ++ .a ad :: κs)) := by
    have := h2 (κ ++ [.a ad])
    rw [List.length_append, List.length_singleton, S.len, List.append_assoc] at this
    exact this
  have hlen : es.length = (GOpen.cells R x (its.length + 1)).length := by rw [hcs]; simp
  refine ⟨.a ad :: κs, S.more (by simp [h1]) ?_ ?_ ?_⟩
  · intro j it c hj hc
    cases j with
    | zero => simp at hj hc; subst hj; subst hc; rfl
    | succ j => simp at hj hc; exact (h4 j it c hj hc).1
  · rw [List.all_cons, Bool.and_eq_true]
    constructor
    · simp only [Item.lt, List.length_cons, Bool.and_eq_true, Nat.blt_eq]
      refine ⟨by omega, cells_lt_mono ?_ (h3 (its.length + 1))⟩
      omega
    · rw [List.all_eq_true]
      intro it hit
      obtain ⟨j, hj⟩ := List.getElem?_of_mem hit
      have hjl : j < κs.length := by rw [h1]; exact (List.getElem?_eq_some_iff.1 hj).1
      exact (h4 j it _ hj (List.getElem?_eq_getElem hjl)).2.1 _
  · intro j it c hj hc
    cases j with
    | zero =>
      simp at hj hc; subst hj; subst hc
      obtain ⟨A, n, c, h5, h6, h7⟩ := ho
      simp only [OK]
      rw [← hcs]
      refine ⟨hU, fun e => hne (by rw [hcs, e]; rfl), A, n, c, ?_, by rw [← hlen]; exact h6, h7⟩
      rw [List.getElem?_append_left (by rw [S.len]; exact hi)]
      exact h5
    | succ j => simp at hj hc; exact (h4 j it c hj hc).2.2 _
section
variable {α : Type} {sz : Nat} {E : TypeId} {R : RT α} [GRep R]
/-- An element of a slice that is read. -/
theorem pre_ix [GOpen R] {i : Nat} {iv : Int} {l : List α} {x : α} (hi : its[i]? = some (.rd sz R l)) (hpos : Nat.blt 0 sz = true) (he : idx l iv = some x) : Pre n0 fx env its (its ++ (.elt (some (i, iv)) false (GOpen.cells R x (its.length + 1)) :: GOpen.its R x)) := fun κ w S => by
  obtain ⟨c, hc, hok⟩ := S.conc hi
  have hpos' : 0 < sz := by simpa [Nat.blt_eq] using hpos
  cases c with
  | r A n c =>
    obtain ⟨hn, hsl⟩ := hok
    obtain ⟨h0, h1, hx⟩ := idx_some he
    obtain ⟨_, _, es, hes, hm⟩ := hsl
    obtain ⟨e1, hl1, hr, hcell⟩ := Els.get l es iv.toNat x hes hx
    have hne : e1 ≠ [] := fun e => by rw [e] at hl1; simp at hl1; omega
    have hA : ∃ ad, A = some ad := by
      match e1, hne with
      | u :: e1, _ =>
        obtain ⟨ad, hA, _⟩ := hm _ u (hcell 0 u rfl)
        exact ⟨ad, hA⟩
    obtain ⟨ad, rfl⟩ := hA
    have hall : ∀ j u, e1[j]? = some u → ¬ Mu fx.U0 (Lof its κ) ad.block ∧ w.cell? ((ad.add (iv.toNat * sz)).add j) = some u := fun j u hu => by
      obtain ⟨ad', h1, h2, h3⟩ := hm _ u (hcell j u hu)
      injection h1 with h1
      subst h1
      rw [add_add]
      exact ⟨h2, h3⟩
    have hat : At (fun b => false = false ∧ Mu fx.U0 (Lof its κ) b) w (ad.add (iv.toNat * sz)) e1 := ⟨fun h => by
      rw [block_add] at h
      match e1, hne with
      | u :: e1, _ => exact (hall 0 u rfl).1 h.2, fun j u hu => (hall j u hu).2⟩
    exact el_more (ow := false) S hat hne hr (List.getElem?_eq_some_iff.1 hi).1 ⟨ad, n, c, hc, by rw [hl1], h0, by omega⟩
  | _ => exact hok.elim
/-- An element of a row of the call's own. -/
theorem pre_ixo [GOpen R] {i : Nat} {iv : Int} {l : List α} {x : α} (hi : its[i]? = some (.own sz E R l)) (hpos : Nat.blt 0 sz = true) (he : idx l iv = some x) : Pre n0 fx env its (its ++ (.elt (some (i, iv)) true (GOpen.cells R x (its.length + 1)) :: GOpen.its R x)) := fun κ w S => by
  obtain ⟨c, hc, hok⟩ := S.conc hi
  have hpos' : 0 < sz := by simpa [Nat.blt_eq] using hpos
  cases c with
  | r A n c =>
    obtain ⟨hn, ho⟩ := hok
    obtain ⟨h0, h1, hx⟩ := idx_some he
    rcases own_form ho with ⟨rfl, rfl, rfl⟩ | ⟨b, pre, cur, post, fz, rfl, _, hg, _, _, hsz, hes⟩
    · simp at hx
    obtain ⟨e1, hl1, hr, hcell⟩ := Els.get l _ iv.toNat x hes hx
    have hne : e1 ≠ [] := fun e => by rw [e] at hl1; simp at hl1; omega
    have hcl : ∀ j u, e1[j]? = some u → w.cell? (((⟨b, pre.length, none⟩ : Addr).add (iv.toNat * sz)).add j) = some u := by
      intro j u hu
      have := hcell j u hu
      rw [add_add, add_lit]
      rw [List.getElem?_take] at this
      split at this
      · have hj := (List.getElem?_eq_some_iff.1 this).1
        simp only [World.cell?, hg]
        rw [← this, ← row_get (pre := pre) (post := post) hj]
        simp
      · cases this
    have hat : At (fun b => true = false ∧ Mu fx.U0 (Lof its κ) b) w ((⟨b, pre.length, none⟩ : Addr).add (iv.toNat * sz)) e1 := ⟨fun h => (by cases h.1), hcl⟩
    exact el_more (ow := true) S hat hne hr (List.getElem?_eq_some_iff.1 hi).1 ⟨_, n, c, hc, by rw [hl1], h0, by omega⟩
  | _ => exact hok.elim
/-- Elements of the call's own rows are forgotten. -/
theorem SL.kill (hk : SL P ops rest Kn N n0 fx env (kl its)) : SL P ops rest Kn N n0 fx env its := fun κ w S => hk κ w S.kill

/-! ### Cells that read as a datum -/
def Clo (its : List Item) (R : RT α) (cs : List Cell) (x : α) : Prop := ∀ {n0 : Nat} {fx : Fx} {env : Env'} {κ : List Conc} {w : World}, St n0 fx env its κ w → R (Mu fx.U0 (Lof its κ)) w (cs.map (Cell.den κ)) x
theorem Clo.sl {j : Nat} {l : List α} (h : its[j]? = some (.rd sz R l)) : Clo its (RSl sz R) [.s j] l := fun S => by
  obtain ⟨c, h1, h2⟩ := S.conc h
  cases c with
  | r A n c =>
    obtain ⟨rfl, h3⟩ := h2
    exact ⟨A, c, by simp [Cell.den, h1], h3⟩
  | _ => exact h2.elim
theorem Clo.nl {β : Type} {z : Nat} {R' : RT β} (l : List β) (h : l = []) : Clo its (RSl z R') [nl] l := fun S => by
  subst h
  exact ⟨none, 0, rfl, Sl.nil0⟩
theorem Clo.int {k : IntKind} {x : Int} : Clo its (RInt k) [ci k x] x := fun _ => rfl
theorem Clo.bool {x : Bool} : Clo its RBool [cb x] x := fun _ => rfl
theorem Clo.str {c : Cell} {s : List Int} (h : strC its c = some s) : Clo its RStr [c] s := fun S => by
  obtain ⟨b, h1, h2⟩ := strC_ok S.kno h
  exact ⟨b, by simp [h1], h2⟩
def CloL (its : List Item) (sz : Nat) (R : RT α) : List (List Cell) → List α → Prop
  | [], [] => True
  | c :: cs, x :: xs => Clo its R c x ∧ CloL its sz R cs xs
  | _, _ => False
theorem CloL.els {β : Type} {z : Nat} {R' : RT β} (S : St n0 fx env its κ w) : ∀ (cs : List (List Cell)) (l : List β), CloL its z R' cs l → (cs.all fun c => Nat.beq c.length z) = true → Els z R' (Mu fx.U0 (Lof its κ)) w (cs.map (fun c => c.map (Cell.den κ))).flatten l
  | [], [], _, _ => rfl
  | c :: cs, x :: xs, h, hl => by
    simp only [List.all_cons, Bool.and_eq_true, Nat.beq_eq] at hl
    exact ⟨c.map (Cell.den κ), _, rfl, by simpa using hl.1, h.1 S, CloL.els S cs xs h.2 hl.2⟩
  | [], x :: xs, h, _ => h.elim
  | c :: cs, [], h, _ => h.elim
def partsC (env : Env') (its : List Item) (k : Nat) : List (Nat × Operand) → Option (List (List Cell))
  | [] => some []
  | (i, x) :: r => match Nat.beq i k, evS env x with
    | true, some v => (match v.cells its, partsC env its (k + 1) r with
      | some c, some cs => some (c :: cs)
      | _, _ => none)
    | _, _ => none
theorem partsC_ok (S : St n0 fx env its κ w) : ∀ (ps : List (Nat × Operand)) (k : Nat) {cs : List (List Cell)}, partsC env its k ps = some cs →
    ∃ vs : List Value, ps.mapM (fun p => ev (denE κ env) p.2) = some vs ∧ ps.map (·.1) = List.range' k ps.length ∧ vs.length = ps.length ∧ vs.map (·.cells.toList) = cs.map (fun c => c.map (Cell.den κ))
  | [], k, cs, h => by
    simp only [partsC, Option.some.injEq] at h
    subst h
    exact ⟨[], rfl, rfl, rfl, rfl⟩
  | (i, x) :: r, k, cs, h => by
    simp only [partsC] at h
    split at h
    · rename_i v hb hx
      split at h
      · rename_i c cs' hc hr
        injection h with h; subst h
        obtain ⟨vs, h1, h2, h3, h4⟩ := partsC_ok S r (k + 1) hr
        refine ⟨v.den κ :: vs, by simp [List.mapM_cons, evS_den hx, h1], ?_, by simp [h3], ?_⟩
        · simp only [List.map_cons, List.length_cons, List.range'_succ, Nat.eq_of_beq_eq_true hb]
          rw [h2]
        · simp [h4, cells_den S.kno hc]
      · cases h
    · cases h
/-- A slice literal. -/
theorem e_lit (htt : TTOk P tt) {d : Option Nat} {t : TypeId} {ps : String} {af : Array Edge} {g : Option (Nat × Bool)} {ty : TypeId} {by_ n : Nat} {parts : Array (Nat × Operand)} {z : Value} (cs : List (List Cell)) (l : List α) (hp : partsC env its 0 parts.toList = some cs) (hc : CloL its sz R cs l)
    (hz : (lkT E tt).bind (·.zero) = some z) (hT : (TRow tt ty E sz by_ && !its.any Item.ow) = true) (hn : (Nat.beq cs.length n && (Nat.beq l.length n && ((cs.all fun c => Nat.beq c.length sz) && Nat.ble (n * sz) 16777216))) = true) :
    Eff P N n0 fx env its ⟨d, .buildSlice ty n parts, t, ps, af, g⟩ (some (vs its.length)) (its ++ [.own sz E R l]) := fun κ w S a haa => by
  simp only [Bool.and_eq_true, Bool.not_eq_true', Nat.beq_eq] at hT hn
  obtain ⟨hT, how⟩ := hT
  obtain ⟨hn1, hn2, hn3, hn4⟩ := hn
  obtain ⟨hu, _, hpos, hs⟩ := trow_get htt hT
  obtain ⟨parts⟩ := parts
  obtain ⟨vs, h1, h2, h3, h4⟩ := partsC_ok S parts 0 hp
  have hz' : ∀ w, (zeroValue E).run P w = .ok z w := by
    cases ht : lkT E tt with
    | none => simp [ht] at hz
    | some ti =>
      simp [ht] at hz
      exact (htt.get ht).zero z hz
  have hlen : vs.length = n := by
    have := congrArg List.length h4
    simp at this
    omega
  have hvs : vs.all (fun v => Nat.beq v.cells.size sz) = true := by
    rw [List.all_eq_true]
    intro v hv
    have h5 : v.cells.toList ∈ cs.map (fun c => c.map (Cell.den κ)) := by rw [← h4]; exact List.mem_map_of_mem hv
    obtain ⟨c, hc1, hc2⟩ := List.mem_map.1 h5
    rw [List.all_eq_true] at hn3
    have h6 := hn3 c hc1
    simp only [Nat.beq_eq] at h6 ⊢
    have := congrArg List.length hc2
    simp at this
    omega
  exact Does.of_runW (rw_buildSlice hu hs hz' hpos hlen hn2 hn4 h2 h1 hvs (by rw [h4]) (CloL.els S cs l hc hn3) S.ctx) haa fun v w' hk => newOwn_st S how hk
/-- A row of the call's own holds something else of the same length. -/
theorem ownTurned_st (S : St n0 fx env its κ w) (how : its.any Item.ow = false) {i n c : Nat} {A : Option Addr} {l l' : List α} (hi : its[i]? = some (.own sz E R l)) (hc : κ[i]? = some (.r A n c)) (hn : n = l.length) (hl : l'.length = l.length) {w' : World} (h : OwnTurned sz E R fx.U0 fx.X0 fx.w0 (Lof its κ) w A c l' w') :
    St n0 fx env (its.set i (.own sz E R l')) κ w' := by
  obtain ⟨ho, C, Tr⟩ := h
  have hil : i < its.length := (List.getElem?_eq_some_iff.1 hi).1
  have hL : Lof (its.set i (.own sz E R l')) κ = Lof its κ := by
    apply List.ext_getElem?
    intro j
    by_cases hj : j = i
    · subst hj
      have h1 : (its.set j (.own sz E R l'))[j]? = some (.own sz E R l') := by rw [List.getElem?_set_self hil]
      rw [Lof_get h1 hc, Lof_get hi hc]
      rfl
    · unfold Lof
      rw [List.getElem?_zipWith, List.getElem?_zipWith, List.getElem?_set_ne (fun e => hj e.symm)]
  have key := S.next (env' := env) (its' := its.set i (.own sz E R l')) (κx := []) (w' := w') (X := [ob A]) (fun j => j = i) (by simp [S.len]) (by simpa using S.sce)
    (by
      unfold scI
      rw [List.length_set, List.all_eq_true]
      intro it hit
      have hs := S.sci
      unfold scI at hs
      rw [List.all_eq_true] at hs
      rcases List.mem_or_eq_of_mem_set hit with h | h
      · exact hs _ h
      · subst h; rfl)
    (by rw [List.append_nil, hL]; exact C) (by rw [List.append_nil, hL]; exact Tr)
    (fun j it hj hne hit => by
      rw [List.getElem?_set_ne (fun e => hne e.symm)] at hit
      refine ⟨hit, noOw how _ (List.mem_of_getElem? hit), fun c b' hc' hb' hm => ?_⟩
      rw [List.mem_singleton] at hm
      have h1 := Lof_get hit hc'
      rw [hb'] at h1
      have h2 := Lof_get hi hc
      simp only [own1] at h2
      rw [← hm] at h2
      exact S.ctx.sep j i b' hne h1 h2)
    (fun j it c' hj hit hc' => by
      rw [List.append_nil] at hc'
      rcases hj with hj | rfl
      · have := (List.getElem?_eq_some_iff.1 hit).1
        simp only [List.length_set] at this
        omega
      · rw [List.getElem?_set_self hil] at hit
        injection hit with hit
        subst hit
        rw [hc] at hc'
        injection hc' with hc'
        subst hc'
        rw [List.append_nil, hL]
        exact ⟨by omega, ho⟩)
  rwa [List.append_nil] at key
/-- 'copy' onto a row of the call's own. -/
theorem e_copy (htt : TTOk P tt) {d : Option Nat} {t : TypeId} {ps : String} {af : Array Edge} {g : Option (Nat × Bool)} {ty ty2 : TypeId} {x y : Operand} {by_ i : Nat} {l m : List α} {v : SV} (hx : evS env x = some (vs i)) (hi : its[i]? = some (.own 1 E R l)) (hy : evS env y = some v) (hm : Sx its 1 R m v) (hT : (TRow tt ty E 1 by_ && !its.any Item.ow) = true) :
    Eff P N n0 fx env its ⟨d, .call { callee := .builtin .copy, args := #[x, y], argTypes := #[ty, ty2] }, t, ps, af, g⟩ (some (vi .i64 (imin (len m) (len l)))) (its.set i (.own 1 E R (cpy l m))) := fun κ w S a haa => by
  simp only [Bool.and_eq_true, Bool.not_eq_true'] at hT
  obtain ⟨hT, how⟩ := hT
  obtain ⟨hu, ⟨info, z, hinf, h1, h2, h3, h4⟩, hpos, _⟩ := trow_get htt hT
  obtain ⟨c, hc, hok⟩ := S.conc hi
  obtain ⟨B, nb, cb, hv, hnb, hs⟩ := hm.src S
  cases c with
  | r A n c =>
    obtain ⟨hn, ho⟩ := hok
    have hx' := evS_den (κ := κ) hx
    have hy' := evS_den (κ := κ) hy
    simp only [SV.den, Cell.den, hc] at hx'
    rw [hv] at hy'
    rw [hn] at hx'
    have hL : (Lof its κ)[i]? = some (ob A) := Lof_get hi hc
    refine Does.of_runW (rw_copy hu (by rw [hinf]; simp [h1]) hx' hy' hnb ho hs hL S.ctx) haa ?_
    rintro u w' ⟨rfl, ho'⟩
    exact ⟨[], fun x hx => (by injection hx with hx; subst hx; rfl), by rw [List.append_nil]; exact ownTurned_st S how hi hc hn cpy_eq ho'⟩
  | _ => exact hok.elim
/-- A part of a slice that is read. -/
def bndC (env : Env') (l : Int) : Option Operand → Option Int
  | none => some l
  | some x => match evS env x with
    | some (.c (.v (.int _ n))) => some n
    | _ => none
theorem e_sub (htt : TTOk P tt) {d : Option Nat} {t : TypeId} {ps : String} {af : Array Edge} {g : Option (Nat × Bool)} {ty : TypeId} {x : Operand} {lo hi' : Option Operand} {by_ : Nat} {a b : Int} {l l' : List α} {v : SV} (hx : evS env x = some v) (hv : (∃ j, v = vs j ∧ its[j]? = some (.rd sz R l)) ∨ (v = vn ∧ l = [])) (hlo : bndC env 0 lo = some a) (hhi : bndC env (len l) hi' = some b)
    (hs : sub l a b = some l') (hT : TRow tt ty E sz by_ = true) : Eff P N n0 fx env its ⟨d, .slice ty x lo hi' none, t, ps, af, g⟩ (some (vs its.length)) (its ++ [.rd sz R l']) := fun κ w S ac haa => by
  obtain ⟨hu, _, hpos, hsz⟩ := trow_get htt hT
  have hsl : ∃ A n c, v.den κ = .slice A n c ∧ n = l.length ∧ Sl sz R (Mu fx.U0 (Lof its κ)) w A c l := by
    rcases hv with ⟨j, rfl, hj⟩ | ⟨rfl, rfl⟩
    · obtain ⟨c, hc, hok⟩ := S.conc hj
      cases c with
      | r A n c => exact ⟨A, n, c, by simp [SV.den, Cell.den, hc], hok.1, hok.2⟩
      | _ => exact hok.elim
    · exact ⟨none, 0, 0, rfl, rfl, Sl.nil0⟩
  obtain ⟨A, n, c, h1, rfl, h3⟩ := hsl
  have hx' := evS_den (κ := κ) hx
  rw [h1] at hx'
  have bnd : ∀ (q : Option Operand) (dflt r : Int), bndC env dflt q = some r → ∃ qv, q.mapM (ev (denE κ env)) = some qv ∧ ((qv = none ∧ r = dflt) ∨ ∃ k, qv = some (.int k r)) := by
    intro q dflt r h
    cases q with
    | none => simp only [bndC, Option.some.injEq] at h; exact ⟨none, rfl, .inl ⟨rfl, h.symm⟩⟩
    | some x =>
      simp only [bndC] at h
      split at h
      · rename_i k n hx
        injection h with h; subst h
        exact ⟨some (.int k n), by simp [evS_den hx, SV.den, Cell.den], .inr ⟨k, rfl⟩⟩
      · cases h
  obtain ⟨lov, hl1, hl2⟩ := bnd lo 0 a hlo
  obtain ⟨hiv, hh1, hh2⟩ := bnd hi' (len l) b hhi
  obtain ⟨A', c', hrun, hsl'⟩ := sl_sub (N := N) hu hsz hx' hl1 hh1 hl2 hh2 h3 hs
  refine .inl ⟨_, w, hrun ac haa, [.r A' l'.length c'], fun x hx => ?_, S.more rfl (one_get (P := fun (it : Item) (c : Conc) => own1 it c = none) rfl) rfl (one_get (P := fun (it : Item) (c : Conc) => OK _ _ w it c) ⟨rfl, hsl'⟩)⟩
  injection hx with hx; subst hx
  simp only [SV.den, Cell.den]
  rw [List.getElem?_append_right (by rw [S.len]; exact Nat.le_refl _), S.len]
  simp
end
/-- Bytes to a string. -/
theorem e_b2s (htt : TTOk P tt) {d : Option Nat} {t : TypeId} {ps : String} {af : Array Edge} {g : Option (Nat × Bool)} {src dst : TypeId} {x : Operand} {l : List Int} {v : SV} (hx : evS env x = some v) (hm : Sx its 1 (RInt .u8) l v)
    (hT : (match lkT src tt, lkT dst tt with
      | some ⟨.slice E, _, _, _, _⟩, some ⟨.string, _, _, _, _⟩ => (match lkT E tt with
        | some ⟨.int .u8, _, _, _, _⟩ => true
        | _ => false)
      | _, _ => false) = true) : Eff P N n0 fx env its ⟨d, .convert src dst x, t, ps, af, g⟩ (some (vt its.length)) (its ++ [.str (str l)]) := fun κ w S a haa => by
  split at hT
  · rename_i E _ _ _ _ _ _ _ _ h1 h2
    split at hT
    · rename_i h3
      obtain ⟨B, nb, cb, hv, hnb, hs⟩ := hm.src S
      have hx' := evS_den (κ := κ) hx
      rw [hv] at hx'
      obtain ⟨s, hr, hst⟩ := rv_b2s (P := P) (N := N) (l := denE κ env) (w := w) (d := d) (t := t) (ps := ps) (af := af) (g := g) (htt.get h1).und (htt.get h3).und (htt.get h2).und hx' hnb hs
      refine .inl ⟨_, w, hr a haa, [.s s], fun x hx => ?_, S.more rfl (one_get (P := fun (it : Item) (c : Conc) => own1 it c = none) rfl) rfl (one_get (P := fun (it : Item) (c : Conc) => OK _ _ w it c) hst)⟩
      injection hx with hx; subst hx
      simp only [SV.den, Cell.den]
      rw [List.getElem?_append_right (by rw [S.len]; exact Nat.le_refl _), S.len]
      simp
    · cases hT
  · cases hT
end
end V
end Go.Proofs.YtladkmnfmpojiaaGreatDoor
namespace Go.Proofs.YtladkmnfmpojiaaGreatDoor
namespace V

/-- Where an item comes from: an item as it is; a row lent for reading; a row given up; a nil slice; a nil map; a constant string. -/
inductive Jx where
  | g (i : Nat)
  | l (i : Nat)
  | z (i : Nat)
  | n
  | o
  | k (s : ByteArray)
def renC (js : List Jx) : Cell → Option Cell
  | .v x => some (.v x)
  | .p j o => match js[j]? with
    | some (.g i) => some (.p i o)
    | _ => none
  | .s j => match js[j]? with
    | some (.g i) => some (.s i)
    | some (.l i) => some (.s i)
    | some (.z i) => some (.s i)
    | some .n => some nl
    | _ => none
  | .t j => match js[j]? with
    | some (.g i) => some (.t i)
    | some (.k s) => some (.v (.string s))
    | _ => none
  | .m j => match js[j]? with
    | some (.g i) => some (.m i)
    | some (.l i) => some (.m i)
    | some (.z i) => some (.m i)
    | some .o => some (.v (.map none))
    | _ => none
  | .w fn j o => match js[j]? with
    | some (.g i) => some (.w fn i o)
    | _ => none
def renL (js : List Jx) : List Cell → Option (List Cell)
  | [] => some []
  | c :: r => match renC js c, renL js r with
    | some c, some r => some (c :: r)
    | _, _ => none
def renU (js : List Jx) : List (Cell ⊕ List Cell) → Option (List (Cell ⊕ List Cell))
  | [] => some []
  | .inl c :: r => match renC js c, renU js r with
    | some c, some r => some (.inl c :: r)
    | _, _ => none
  | .inr c :: r => match renL js c, renU js r with
    | some c, some r => some (.inr c :: r)
    | _, _ => none
def renS (js : List Jx) : SV → Option SV
  | .c x => (renC js x).map .c
  | .g l => (renL js l).map .g
  | .u l => (renU js l).map .u
  | .f fn l => (renL js l).map (.f fn)
def renE (js : List Jx) : Env' → Option Env'
  | [] => some []
  | (t, x) :: r => match renS js x, renE js r with
    | some x, some r => some ((t, x) :: r)
    | _, _ => none
def lkEs (env : Env') : Env' → Option Env'
  | [] => some []
  | (t, _) :: r => match lkE t env, lkEs env r with
    | some x, some r => some ((t, x) :: r)
    | _, _ => none
def renM (js : List Jx) : List (Int × Cell) → Option (List (Int × Cell))
  | [] => some []
  | (x, c) :: r => match renC js c, renM js r with
    | some c, some r => some ((x, c) :: r)
    | _, _ => none
def renI (js : List Jx) : Item → Option Item
  | .blk T cs => (renL js cs).map (.blk T)
  | .lm k l => (renM js l).map (.lm k)
  | .elt none _ cs => (renL js cs).map (.elt none false)
  | .elt (some _) _ _ => none
  | it => some it
def renIs (js : List Jx) : List Item → Option (List Item)
  | [] => some []
  | c :: r => match renI js c, renIs js r with
    | some c, some r => some (c :: r)
    | _, _ => none
def frz : Option Item → Option Item
  | some (@Item.own _ sz _ R _ l) => some (.rd sz R l)
  | some (@Item.mp _ k R _ true l) => some (.mp k R false l)
  | _ => none
def srcI (its : List Item) : Jx → Item → Option Item
  | _, .gone => some .gone
  | .g i, _ => match its[i]? with
    | some (.elt _ false cs) => some (.elt none false cs)
    | some (.elt _ true _) => none
    | o => o
  | .l i, _ => frz its[i]?
  | .z i, _ => frz its[i]?
  | .n, @Item.own _ sz E R _ _ => some (.own sz E R [])
  | .n, @Item.rd _ sz R _ _ => some (.rd sz R [])
  | .o, @Item.mp _ k R _ false _ => some (.mp k R false [])
  | .k s, _ => some (.str (strOf s))
  | _, _ => none
def srcs (its : List Item) : List Jx → List Item → Option (List Item)
  | [], [] => some []
  | j :: js, t :: ts => match srcI its j t, srcs its js ts with
    | some c, some r => some (c :: r)
    | _, _ => none
  | _, _ => none
def Item.owned : Item → Bool
  | .blk .. => true
  | @Item.own _ _ _ _ _ _ => true
  | @Item.mp _ _ _ _ true _ => true
  | .lm .. => true
  | _ => false
def ownG : List Jx → List Item → List Nat
  | .g i :: js, t :: ts => match t.owned with
    | true => i :: ownG js ts
    | false => ownG js ts
  | _ :: js, _ :: ts => ownG js ts
  | _, _ => []
def memN (i : Nat) : List Nat → Bool
  | [] => false
  | j :: l => Nat.beq i j || memN i l
def nodupN : List Nat → Bool
  | [] => true
  | j :: l => !memN j l && nodupN l
def frzG : List Jx → List Nat
  | .z i :: js => i :: frzG js
  | .l i :: js => i :: frzG js
  | _ :: js => frzG js
  | [] => []
def okG (js : List Jx) (ts : List Item) : Bool := nodupN (ownG js ts) && (frzG js).all fun i => !memN i (ownG js ts)
def preB (n0 : Nat) (js : List Jx) : Bool := (List.range n0).all fun i => match js[i]? with
  | some (.g k) => Nat.beq k i
  | _ => false
def cJ (κ : List Conc) : Jx → Conc
  | .g i => κ[i]?.getD .z
  | .l i => κ[i]?.getD .z
  | .z i => κ[i]?.getD .z
  | .n => .r none 0 0
  | .o => .m none
  | .k s => .s s

theorem memN_iff {i : Nat} : ∀ {l : List Nat}, memN i l = true ↔ i ∈ l
  | [] => by simp [memN]
  | j :: l => by simp [memN, memN_iff (l := l), Nat.beq_eq]
theorem ownG_mem {i : Nat} : ∀ {js : List Jx} {ts : List Item} {k : Nat} {t : Item}, js[k]? = some (.g i) → ts[k]? = some t → t.owned = true → i ∈ ownG js ts
  | [], ts, k, t, h, _, _ => by simp at h
  | j :: js, [], k, t, _, h, _ => by simp at h
  | j :: js, t0 :: ts, 0, t, h1, h2, h3 => by
    simp at h1 h2
    subst h1; subst h2
    simp [ownG, h3]
  | j :: js, t0 :: ts, k + 1, t, h1, h2, h3 => by
    simp at h1 h2
    have ih := ownG_mem h1 h2 h3
    cases j with
    | g q => simp only [ownG]; split <;> simp [ih]
    | _ => exact ih
theorem ownG_inj {i : Nat} : ∀ {js : List Jx} {ts : List Item} {k m : Nat} {t u : Item}, nodupN (ownG js ts) = true → js[k]? = some (.g i) → ts[k]? = some t → t.owned = true → js[m]? = some (.g i) → ts[m]? = some u → u.owned = true → k = m
  | [], ts, k, m, t, u, _, h, _, _, _, _, _ => by simp at h
  | j :: js, [], k, m, t, u, _, _, h, _, _, _, _ => by simp at h
  | j :: js, t0 :: ts, 0, 0, t, u, _, _, _, _, _, _, _ => rfl
  | j :: js, t0 :: ts, k + 1, m + 1, t, u, hn, h1, h2, h3, h4, h5, h6 => by
    simp at h1 h2 h4 h5
    have hn' : nodupN (ownG js ts) = true := by
      cases j with
      | g q =>
        simp only [ownG] at hn
        split at hn
        · simp [nodupN] at hn; exact hn.2
        · exact hn
      | _ => exact hn
    rw [ownG_inj hn' h1 h2 h3 h4 h5 h6]
  | j :: js, t0 :: ts, 0, m + 1, t, u, hn, h1, h2, h3, h4, h5, h6 => by
    simp at h1 h2 h4 h5
    subst h1; subst h2
    have := ownG_mem h4 h5 h6
    simp only [ownG, h3, nodupN, Bool.and_eq_true, Bool.not_eq_true'] at hn
    rw [memN_iff.2 this] at hn
    cases hn.1
  | j :: js, t0 :: ts, k + 1, 0, t, u, hn, h1, h2, h3, h4, h5, h6 => by
    simp at h1 h2 h4 h5
    subst h4; subst h5
    have := ownG_mem h1 h2 h3
    simp only [ownG, h6, nodupN, Bool.and_eq_true, Bool.not_eq_true'] at hn
    rw [memN_iff.2 this] at hn
    cases hn.1
theorem frzG_mem {i : Nat} : ∀ {js : List Jx} {k : Nat}, (js[k]? = some (.z i) ∨ js[k]? = some (.l i)) → i ∈ frzG js
  | [], k, h => by simp at h
  | j :: js, 0, h => by
    simp at h
    rcases h with rfl | rfl <;> simp [frzG]
  | j :: js, k + 1, h => by
    simp at h
    have ih := frzG_mem h
    cases j <;> simp [frzG, ih]
section
variable {N n0 : Nat} {fx : Fx} {its its' : List Item} {κ : List Conc} {w : World} {env env' : Env'} {js : List Jx}
theorem renC_den (hb : ∀ (j i : Nat), js[j]? = some (.g i) ∨ js[j]? = some (.l i) ∨ js[j]? = some (.z i) → i < κ.length) {c c' : Cell} (h : renC js c = some c') : c.den (js.map (cJ κ)) = c'.den κ := by
  have get : ∀ (j i : Nat), (js[j]? = some (.g i) ∨ js[j]? = some (.l i) ∨ js[j]? = some (.z i)) → (js.map (cJ κ))[j]? = κ[i]? := by
    intro j i hj
    have hlt := hb j i hj
    rw [List.getElem?_map]
    rcases hj with hj | hj | hj <;> simp [hj, cJ, List.getElem?_eq_getElem hlt]
  cases c with
  | v x => simp only [renC, Option.some.injEq] at h; subst h; rfl
  | p j o =>
    simp only [renC] at h
    split at h
    · rename_i i hj
      injection h with h; subst h
      simp only [Cell.den, get j i (.inl hj)]
    · cases h
  | w fn j o =>
    simp only [renC] at h
    split at h
    · rename_i i hj
      injection h with h; subst h
      simp only [Cell.den, get j i (.inl hj)]
    · cases h
  | s j =>
    simp only [renC] at h
    split at h
    · rename_i i hj
      injection h with h; subst h
      simp only [Cell.den, get j i (.inl hj)]
    · rename_i i hj
      injection h with h; subst h
      simp only [Cell.den, get j i (.inr (.inl hj))]
    · rename_i i hj
      injection h with h; subst h
      simp only [Cell.den, get j i (.inr (.inr hj))]
    · rename_i hj
      injection h with h; subst h
      simp [Cell.den, hj, cJ]
    · cases h
  | t j =>
    simp only [renC] at h
    split at h
    · rename_i i hj
      injection h with h; subst h
      simp only [Cell.den, get j i (.inl hj)]
    · rename_i s hj
      injection h with h; subst h
      simp [Cell.den, hj, cJ]
    · cases h
  | m j =>
    simp only [renC] at h
    split at h
    · rename_i i hj
      injection h with h; subst h
      simp only [Cell.den, get j i (.inl hj)]
    · rename_i i hj
      injection h with h; subst h
      simp only [Cell.den, get j i (.inr (.inl hj))]
    · rename_i i hj
      injection h with h; subst h
      simp only [Cell.den, get j i (.inr (.inr hj))]
    · rename_i hj
      injection h with h; subst h
      simp [Cell.den, hj, cJ]
    · cases h
theorem renL_den (hb : ∀ (j i : Nat), js[j]? = some (.g i) ∨ js[j]? = some (.l i) ∨ js[j]? = some (.z i) → i < κ.length) : ∀ {l l' : List Cell}, renL js l = some l' → l.map (Cell.den (js.map (cJ κ))) = l'.map (Cell.den κ)
  | [], l', h => by simp only [renL, Option.some.injEq] at h; subst h; rfl
  | c :: r, l', h => by
    simp only [renL] at h
    split at h
    · rename_i c' r' hc hr
      injection h with h; subst h
      simp only [List.map_cons, renC_den hb hc, renL_den hb hr]
    · cases h
theorem renM_den (hb : ∀ (j i : Nat), js[j]? = some (.g i) ∨ js[j]? = some (.l i) ∨ js[j]? = some (.z i) → i < κ.length) : ∀ {l l' : List (Int × Cell)}, renM js l = some l' → (l.map fun p => (p.1, p.2.den (js.map (cJ κ)))) = l'.map fun p => (p.1, p.2.den κ)
  | [], l', h => by simp only [renM, Option.some.injEq] at h; subst h; rfl
  | (x, c) :: r, l', h => by
    simp only [renM] at h
    split at h
    · rename_i c' r' hc hr
      injection h with h; subst h
      simp only [List.map_cons, renC_den hb hc, renM_den hb hr]
    · cases h
theorem renU_den (hb : ∀ (j i : Nat), js[j]? = some (.g i) ∨ js[j]? = some (.l i) ∨ js[j]? = some (.z i) → i < κ.length) : ∀ {l l' : List (Cell ⊕ List Cell)}, renU js l = some l' → l.map (tel (js.map (cJ κ))) = l'.map (tel κ)
  | [], l', h => by simp only [renU, Option.some.injEq] at h; subst h; rfl
  | .inl c :: r, l', h => by
    simp only [renU] at h
    split at h
    · rename_i c' r' hc hr
      injection h with h; subst h
      simp only [List.map_cons, tel, renC_den hb hc, renU_den hb hr]
    · cases h
  | .inr c :: r, l', h => by
    simp only [renU] at h
    split at h
    · rename_i c' r' hc hr
      injection h with h; subst h
      simp only [List.map_cons, tel, renL_den hb hc, renU_den hb hr]
    · cases h
theorem renS_den (hb : ∀ (j i : Nat), js[j]? = some (.g i) ∨ js[j]? = some (.l i) ∨ js[j]? = some (.z i) → i < κ.length) {x x' : SV} (h : renS js x = some x') : x.den (js.map (cJ κ)) = x'.den κ := by
  cases x with
  | c y =>
    simp only [renS] at h
    cases hy : renC js y with
    | none => simp [hy] at h
    | some c => simp [hy] at h; subst h; exact renC_den hb hy
  | g l =>
    simp only [renS] at h
    cases hy : renL js l with
    | none => simp [hy] at h
    | some c => simp [hy] at h; subst h; simp only [SV.den, renL_den hb hy]
  | u l =>
    simp only [renS] at h
    cases hy : renU js l with
    | none => simp [hy] at h
    | some c => simp [hy] at h; subst h; simp only [SV.den, renU_den hb hy]
  | f fn l =>
    simp only [renS] at h
    cases hy : renL js l with
    | none => simp [hy] at h
    | some c => simp [hy] at h; subst h; simp only [SV.den, renL_den hb hy]
theorem renE_sub (hb : ∀ (j i : Nat), js[j]? = some (.g i) ∨ js[j]? = some (.l i) ∨ js[j]? = some (.z i) → i < κ.length) : ∀ {e e' : Env'}, renE js e = some e' → lkEs env e = some e' → Sub (denE κ env) (denE (js.map (cJ κ)) e)
  | [], e', h, _ => trivial
  | (t, x) :: r, e', h, h2 => by
    simp only [renE] at h
    simp only [lkEs] at h2
    split at h
    · rename_i x1 r1 hx hr
      injection h with h; subst h
      split at h2
      · rename_i x2 r2 hx2 hr2
        injection h2 with h2
        injection h2 with h3 h4
        injection h3 with _ h3
        subst h3; subst h4
        refine ⟨?_, renE_sub hb hr hr2⟩
        show lk t (denE κ env) = some (x.den (js.map (cJ κ)))
        rw [renS_den hb hx]
        exact lkE_den hx2
      · cases h2
    · cases h
theorem srcs_get {js' : List Jx} : ∀ {js : List Jx} {ts r : List Item}, srcs its js ts = some r → renIs js' ts = some r → js.length = ts.length ∧ ∀ (k : Nat) (t : Item), ts[k]? = some t → ∃ j x, js[k]? = some j ∧ srcI its j t = some x ∧ renI js' t = some x
  | [], [], r, h, h2 => ⟨rfl, fun k t h => by simp at h⟩
  | j :: js, t :: ts, r, h, h2 => by
    simp only [srcs] at h
    simp only [renIs] at h2
    split at h
    · rename_i c r1 hc hr
      injection h with h; subst h
      split at h2
      · rename_i c2 r2 hc2 hr2
        injection h2 with h2
        injection h2 with h3 h4
        subst h3; subst h4
        obtain ⟨h5, h6⟩ := srcs_get hr hr2
        refine ⟨by simp [h5], fun k t' hk => ?_⟩
        cases k with
        | zero => simp at hk; subst hk; exact ⟨j, c2, rfl, hc, hc2⟩
        | succ k =>
          simp only [List.getElem?_cons_succ] at hk ⊢
          exact h6 k t' hk
      · cases h2
    · cases h
  | [], _ :: _, r, h, _ => by cases h
  | _ :: _, [], r, h, _ => by cases h
def bndJ (n : Nat) (js : List Jx) : Bool := js.all fun
  | .g i => Nat.blt i n
  | .l i => Nat.blt i n
  | .z i => Nat.blt i n
  | _ => true
theorem bndJ_ok {n : Nat} (h : bndJ n js = true) : ∀ (j i : Nat), js[j]? = some (.g i) ∨ js[j]? = some (.l i) ∨ js[j]? = some (.z i) → i < n := by
  intro j i hj
  unfold bndJ at h
  rw [List.all_eq_true] at h
  rcases hj with hj | hj | hj <;> (have := h _ (List.mem_of_getElem? hj); simpa [Nat.blt_eq] using this)
/-- One item, seen so. -/
theorem view_ok (S : St n0 fx env its κ w) (hb : bndJ its.length js = true) {L' : List (Option Nat)} (hL : ∀ b, some b ∈ L' → some b ∈ Lof its κ) (hz : ∀ (k i b : Nat), (js[k]? = some (.z i) ∨ js[k]? = some (.l i)) → (Lof its κ)[i]? = some (some b) → some b ∉ L') {k : Nat} {j : Jx} {t x : Item} (hj : js[k]? = some j) (h1 : srcI its j t = some x) (h2 : renI js t = some x) :
    OK (js.map (cJ κ)) (Mu fx.U0 L') w t (cJ κ j) := by
  have hb' : ∀ (j i : Nat), js[j]? = some (.g i) ∨ js[j]? = some (.l i) ∨ js[j]? = some (.z i) → i < κ.length := by rw [S.len]; exact bndJ_ok hb
  have hU : ∀ b, Mu fx.U0 L' b → Mu fx.U0 (Lof its κ) b := Mu.weaken hL
  have key : ∀ i, j = .l i ∨ j = .z i → frz its[i]? = some x → OK (js.map (cJ κ)) (Mu fx.U0 L') w t (cJ κ j) := by
    intro i hji hf
    have hc : cJ κ j = κ[i]?.getD .z := by rcases hji with rfl | rfl <;> rfl
    have hjk : js[k]? = some (.z i) ∨ js[k]? = some (.l i) := by rcases hji with rfl | rfl; exact .inr hj; exact .inl hj
    cases hi : its[i]? with
    | none => rw [hi] at hf; cases hf
    | some it =>
      rw [hi] at hf
      cases it with
      | own sz E R l =>
        simp only [frz, Option.some.injEq] at hf
        subst hf
        obtain ⟨c, hc1, hc2⟩ := S.conc hi
        rw [hc, hc1]
        cases t with
        | rd sz' R' l' =>
          simp only [renI, Option.some.injEq] at h2
          cases h2
          cases c with
          | r A n c =>
            refine ⟨hc2.1, hc2.2.toSl (fun b hb hM => ?_) hU⟩
            have hLi := Lof_get hi hc1
            simp only [own1, hb] at hLi
            rcases hM with h | h
            · exact (S.ctx.live b (List.mem_of_getElem? hLi)).2.1 h
            · exact hz k i b hjk hLi h
          | _ => exact hc2.elim
        | blk T cs => simp only [renI] at h2; cases hr : renL js cs <;> simp [hr] at h2
        | lm k3 l3 => simp only [renI] at h2; cases hr : renM js l3 <;> simp [hr] at h2
        | elt s ow cs =>
          cases s with
          | none => simp only [renI] at h2; cases hr : renL js cs <;> simp [hr] at h2
          | some q => cases h2
        | own sz' E' R' l' => simp only [renI, Option.some.injEq] at h2; cases h2
        | str s => simp only [renI, Option.some.injEq] at h2; cases h2
        | mp k' R' o' l' => simp only [renI, Option.some.injEq] at h2; cases h2
        | adr => simp only [renI, Option.some.injEq] at h2; cases h2
        | gone => simp only [renI, Option.some.injEq] at h2; cases h2
      | mp kk R ow l =>
        cases ow with
        | false => cases hf
        | true =>
        simp only [frz, Option.some.injEq] at hf
        subst hf
        obtain ⟨c, hc1, hc2⟩ := S.conc hi
        rw [hc, hc1]
        cases t with
        | mp k' R' o' l' =>
          simp only [renI, Option.some.injEq] at h2
          cases h2
          cases c with
          | m b0 =>
            simp only [OK] at hc2
            obtain ⟨n, rfl, hm⟩ := hc2
            refine .inr ⟨n, rfl, fun hM => ?_, hm.step rfl (fun _ _ _ => rfl) (fun b _ => hU b)⟩
            have hLi := Lof_get hi hc1
            simp only [own1] at hLi
            rcases hM with h | h
            · exact (S.ctx.live n (List.mem_of_getElem? hLi)).2.1 h
            · exact hz k i n hjk hLi h
          | _ => exact hc2.elim
        | blk T cs => simp only [renI] at h2; cases hr : renL js cs <;> simp [hr] at h2
        | lm k3 l3 => simp only [renI] at h2; cases hr : renM js l3 <;> simp [hr] at h2
        | elt s ow cs =>
          cases s with
          | none => simp only [renI] at h2; cases hr : renL js cs <;> simp [hr] at h2
          | some q => cases h2
        | own sz' E' R' l' => simp only [renI, Option.some.injEq] at h2; cases h2
        | rd sz' R' l' => simp only [renI, Option.some.injEq] at h2; cases h2
        | str s => simp only [renI, Option.some.injEq] at h2; cases h2
        | adr => simp only [renI, Option.some.injEq] at h2; cases h2
        | gone => simp only [renI, Option.some.injEq] at h2; cases h2
      | _ => cases hf
  cases t with
  | gone => cases cJ κ j <;> trivial
  | adr =>
    simp only [renI, Option.some.injEq] at h2
    subst h2
    cases j with
    | g i =>
      simp only [srcI] at h1
      have hi : its[i]? = some .adr := by
        split at h1
        · cases h1
        · cases h1
        · exact h1
      obtain ⟨c, hc1, hc2⟩ := S.conc hi
      simp only [cJ, hc1, Option.getD_some]
      cases c with
      | b n => trivial
      | _ => exact hc2.elim
    | l i => exact key i (.inl rfl) h1
    | z i => exact key i (.inr rfl) h1
    | n => cases h1
    | o => cases h1
    | k s => simp [srcI] at h1
  | blk T cs =>
    cases hr : renL js cs with
    | none => simp [renI, hr] at h2
    | some cs' =>
      simp only [renI, hr, Option.map_some, Option.some.injEq] at h2
      subst h2
      cases j with
      | g i =>
        simp only [srcI] at h1
        have hi : its[i]? = some (.blk T cs') := by
          split at h1
          · cases h1
          · cases h1
          · exact h1
        obtain ⟨c, hc1, hc2⟩ := S.conc hi
        simp only [cJ, hc1, Option.getD_some]
        cases c with
        | b n =>
          simp only [OK] at hc2 ⊢
          rw [renL_den hb' hr]
          exact hc2
        | _ => exact hc2.elim
      | l i => exact key i (.inl rfl) h1
      | z i => exact key i (.inr rfl) h1
      | n => cases h1
      | o => cases h1
      | k s => simp [srcI] at h1
  | lm k l =>
    cases hr : renM js l with
    | none => simp [renI, hr] at h2
    | some l' =>
      simp only [renI, hr, Option.map_some, Option.some.injEq] at h2
      subst h2
      cases j with
      | g i =>
        simp only [srcI] at h1
        have hi : its[i]? = some (.lm k l') := by
          split at h1
          · cases h1
          · cases h1
          · exact h1
        obtain ⟨c, hc1, hc2⟩ := S.conc hi
        simp only [cJ, hc1, Option.getD_some]
        cases c with
        | m b =>
          simp only [OK] at hc2 ⊢
          rw [renM_den hb' hr]
          obtain ⟨n, rfl, hm⟩ := hc2
          exact ⟨n, rfl, hm.step rfl (fun _ _ _ => rfl) (fun b _ => hU b)⟩
        | _ => exact hc2.elim
      | l i => exact key i (.inl rfl) h1
      | z i => exact key i (.inr rfl) h1
      | n => cases h1
      | o => cases h1
      | k s => simp [srcI] at h1
  | elt s ow cs =>
    cases s with
    | some q => cases h2
    | none =>
    cases hr : renL js cs with
    | none => simp [renI, hr] at h2
    | some cs' =>
      simp only [renI, hr, Option.map_some, Option.some.injEq] at h2
      subst h2
      cases j with
      | g i =>
        simp only [srcI] at h1
        have hi : ∃ src, its[i]? = some (.elt src false cs') := by
          split at h1
          · rename_i src cs2 hi
            simp only [Option.some.injEq, Item.elt.injEq, true_and] at h1
            subst h1
            exact ⟨src, hi⟩
          · cases h1
          · rename_i hne _
            exact absurd h1 (hne _ _)
        obtain ⟨src, hi⟩ := hi
        obtain ⟨c, hc1, hc2⟩ := S.conc hi
        simp only [cJ, hc1, Option.getD_some]
        cases c with
        | a ad =>
          have hat : At (Mu fx.U0 (Lof its κ)) w ad (cs'.map (Cell.den κ)) ∧ cs' ≠ [] := by
            cases src with
            | none => exact hc2
            | some q => exact ⟨⟨fun h => hc2.1.1 ⟨rfl, h⟩, hc2.1.2⟩, hc2.2.1⟩
          have hne : cs ≠ [] := by
            intro e
            subst e
            simp only [renL, Option.some.injEq] at hr
            exact hat.2 hr.symm
          simp only [OK]
          rw [renL_den hb' hr]
          exact ⟨hat.1.mu hU, hne⟩
        | _ => cases src <;> exact hc2.elim
      | l i => exact key i (.inl rfl) h1
      | z i => exact key i (.inr rfl) h1
      | n => cases h1
      | o => cases h1
      | k s => simp [srcI] at h1
  | own sz E R l =>
    simp only [renI, Option.some.injEq] at h2
    subst h2
    cases j with
    | g i =>
      simp only [srcI] at h1
      have hi : its[i]? = some (.own sz E R l) := by
        split at h1
        · cases h1
        · cases h1
        · exact h1
      obtain ⟨c, hc1, hc2⟩ := S.conc hi
      simp only [cJ, hc1, Option.getD_some]
      cases c with
      | r A n c => exact ⟨hc2.1, hc2.2.mu hU⟩
      | _ => exact hc2.elim
    | l i => exact key i (.inl rfl) h1
    | z i => exact key i (.inr rfl) h1
    | n =>
      simp only [srcI, Option.some.injEq] at h1
      have : l = [] := by
        have := congrArg (fun it => match it with | @Item.own _ _ _ _ _ l => l.length | _ => 0) h1
        exact List.eq_nil_of_length_eq_zero this.symm
      subst this
      exact ⟨rfl, Own.nil⟩
    | o => cases h1
    | k s => simp [srcI] at h1
  | rd sz R l =>
    simp only [renI, Option.some.injEq] at h2
    subst h2
    cases j with
    | g i =>
      simp only [srcI] at h1
      have hi : its[i]? = some (.rd sz R l) := by
        split at h1
        · cases h1
        · cases h1
        · exact h1
      obtain ⟨c, hc1, hc2⟩ := S.conc hi
      simp only [cJ, hc1, Option.getD_some]
      cases c with
      | r A n c => exact ⟨hc2.1, hc2.2.mu hU⟩
      | _ => exact hc2.elim
    | l i => exact key i (.inl rfl) h1
    | z i => exact key i (.inr rfl) h1
    | n =>
      simp only [srcI, Option.some.injEq] at h1
      have : l = [] := by
        have := congrArg (fun it => match it with | @Item.rd _ _ _ _ l => l.length | _ => 0) h1
        exact List.eq_nil_of_length_eq_zero this.symm
      subst this
      exact ⟨rfl, Sl.nil0⟩
    | o => cases h1
    | k s => simp [srcI] at h1
  | str s =>
    simp only [renI, Option.some.injEq] at h2
    subst h2
    cases j with
    | g i =>
      simp only [srcI] at h1
      have hi : its[i]? = some (.str s) := by
        split at h1
        · cases h1
        · cases h1
        · exact h1
      obtain ⟨c, hc1, hc2⟩ := S.conc hi
      simp only [cJ, hc1, Option.getD_some]
      cases c with
      | s x => exact hc2
      | _ => exact hc2.elim
    | l i => exact key i (.inl rfl) h1
    | z i => exact key i (.inr rfl) h1
    | n => cases h1
    | o => cases h1
    | k b =>
      simp only [srcI, Option.some.injEq] at h1
      cases h1
      rfl
  | mp kk R ow l =>
    simp only [renI, Option.some.injEq] at h2
    subst h2
    cases j with
    | g i =>
      simp only [srcI] at h1
      have hi : its[i]? = some (.mp kk R ow l) := by
        split at h1
        · cases h1
        · cases h1
        · exact h1
      obtain ⟨c, hc1, hc2⟩ := S.conc hi
      simp only [cJ, hc1, Option.getD_some]
      cases c with
      | m b0 =>
        cases ow with
        | true =>
          simp only [OK] at hc2 ⊢
          obtain ⟨n, rfl, hm⟩ := hc2
          exact ⟨n, rfl, hm.step rfl (fun _ _ _ => rfl) (fun b _ => hU b)⟩
        | false =>
          simp only [OK] at hc2 ⊢
          rcases hc2 with h | ⟨n, rfl, hn, hm⟩
          · exact .inl h
          · exact .inr ⟨n, rfl, fun q => hn (hU n q), hm.step rfl (fun _ _ _ => rfl) (fun b _ => hU b)⟩
      | _ => cases ow <;> exact hc2.elim
    | l i => exact key i (.inl rfl) h1
    | z i => exact key i (.inr rfl) h1
    | n => cases h1
    | o =>
      cases ow with
      | true => cases h1
      | false =>
        simp only [srcI, Option.some.injEq] at h1
        have : l = [] := by
          have := congrArg (fun it => match it with | @Item.mp _ _ _ _ _ l => l.length | _ => 0) h1
          exact List.eq_nil_of_length_eq_zero this.symm
        subst this
        exact .inl ⟨rfl, rfl⟩
    | k s => simp [srcI] at h1
end
end V
end Go.Proofs.YtladkmnfmpojiaaGreatDoor
