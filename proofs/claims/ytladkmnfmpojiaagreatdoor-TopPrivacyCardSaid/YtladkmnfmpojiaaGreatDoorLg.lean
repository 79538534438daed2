/-
  Drawn statements on descriptions.
-/
import Derived.Test.YtladkmnfmpojiaaGreatDoorLf
import Derived.Laws.StructEq
namespace Go.Proofs.YtladkmnfmpojiaaGreatDoor
namespace V
/-- What of memory may be looked at while others write: the items that are kept. -/
def mask : List Bool → List Item → List Item
  | true :: ks, it :: its => it :: mask ks its
  | false :: ks, .blk .. :: its => .adr :: mask ks its
  | false :: ks, _ :: its => .gone :: mask ks its
  | _, _ => []
/-- What is kept throughout, what is kept until one of some operations is done, and these. -/
abbrev KB := List Bool × List Bool × List Nat
abbrev KI := List Item × List Item
def mkQ (ks : KB) (bs : List Bool) (its : List Item) : KI := (mask ks.1 its, match brkL ks.2.2 bs with
  | true => []
  | false => mask ks.2.1 its)
def slQ (ks : KB) (itsK : KI) (bs : List Bool) : KI := (itsK.1, match brkL ks.2.2 bs with
  | true => []
  | false => itsK.2)
def knB (kn : List (Nat × Bool)) (s : Nat) : Option Bool := match kn with
  | [] => none
  | (t, b) :: r => match Nat.beq s t with
    | true => some b
    | false => knB r s
/-- The guards of an operation, where some truth values are known. 'none' inside: it is passed over. -/
def gpathK (kn : List (Nat × Bool)) (ops : Array Oper) (env : EnvC) : Option (Nat × Bool) → Option (Option (List (Nat × Bool) × Bool))
  | none => some (some ([], true))
  | some (j, b) => match (ops[j]?).bind (·.dst) with
    | some s => (match knB kn s with
      | some b' => (match lkC s env with
        | some ⟨[], _, .c (.v (.bool _))⟩ => (match beqB b b' with
          | true => some (some ([], true))
          | false => some none)
        | some ⟨[], _, .u []⟩ => some none
        | _ => none)
      | none => (match lkC s env with
        | some ⟨[], _, .u []⟩ => some none
        | _ => (gpath ops env (some (j, b))).map some))
    | none => none
/-- What may be looked at by operation i. -/
def itk (itsK : KI) (brk : List Nat) (ops : Array Oper) (bs : List Bool) (i : Nat) : List Item := match !brkL brk bs && waitsAll ops brk i with
  | true => itsK.2
  | false => itsK.1
def takeD (N : Nat) (tt : TT) (kn : List (Nat × Bool)) (brk : List Nat) (itsK : KI) (n : Nat) (ops : Array Oper) : List Nat → List Evi → List Bool → EnvC → Option (List Bool × EnvC × List Int × List Int)
  | [], _, bs, env => some (bs, env, [], [])
  | i :: is, evs, bs, env => match ops[i]?, (Region.free .any ops bs.toArray i && (Region.ready .any ops bs.toArray).contains i) && brk.all (fun j => !Nat.beq j i) with
    | some ⟨some d, op, _, _, _, gd⟩, true => (match gpathK kn ops env gd with
      | none => none
      | some none => (match free? d env [] && (Nat.blt d N && (knB kn d).isNone) with
        | true => takeD N tt kn brk itsK n ops is evs (bs.set i true) ((d, ⟨[], true, .u []⟩) :: env)
        | false => none)
      | some (some (pa, g)) => (match free? d env pa && (Nat.blt d N && (knB kn d).isNone) with
        | false => none
        | true => (match op with
          | .pick c x y => (match c with
            | .tmp s => (match knB kn s with
              | some b => (match lkC s env, evC env pa pa (match b with | true => x | false => y) with
                | some ⟨[], _, .c (.v (.bool _))⟩, some v => (match v.lt n with
                  | true => takeD N tt kn brk itsK n ops is evs (bs.set i true) ((d, ⟨pa, g, v⟩) :: env)
                  | false => none)
                | _, _ => none)
              | none => (match evC env pa pa c with
                | some (.c (.v (.bool v))) => (match lkC s env with
                  | some ec => (match pickV x y v (evC env pa ((s, true) :: ec.pa) x) (evC env pa ((s, false) :: ec.pa) y) with
                    | some z => takeD N tt kn brk itsK n ops is evs (bs.set i true) ((d, ⟨pa, g, z⟩) :: env)
                    | none => none)
                  | none => none)
                | _ => none))
            | _ => none)
          | op => (match sv1 tt (fun _ => true) (itk itsK brk ops bs i) (evC env pa pa) op with
            | some v => (match v.lt n with
              | true => takeD N tt kn brk itsK n ops is evs (bs.set i true) ((d, ⟨pa, g, v⟩) :: env)
              | false => none)
            | none => (match evs, pa with
              | ev :: evs', [] => (match svE tt (itk itsK brk ops bs i) (evC env [] []) op ev with
                | some (v, a, b) => (match v.lt n with
                  | true => (takeD N tt kn brk itsK n ops is evs' (bs.set i true) ((d, ⟨[], true, v⟩) :: env)).map fun q => (q.1, q.2.1, a ++ q.2.2.1, b ++ q.2.2.2)
                  | false => none)
                | none => none)
              | _, _ => none)))))
    | _, _ => none
def takeT (N : Nat) (tt : TT) (kn : List (Nat × Bool)) (brk : List Nat) (itsK : KI) (n : Nat) (ops : Array Oper) (is : List Nat) (evs : List Evi) (bs : List Bool) (env : Env') (ts : List Nat) : Option (List Bool × Env' × List Int × List Int) :=
  (takeD N tt kn brk itsK n ops is evs bs (toC env)).bind fun q => (outE q.2.1 ts).map fun e => (q.1, e, q.2.2)

section
variable {P : Program} {N n0 : Nat} {fx : Fx} {its its' : List Item} {itsK : KI} {κ κ1 : List Conc} {w : World} {env env' : Env'} {tt : TT} {ops : Array Oper} {Kn : Act → World → Prop} {Ke : Nat → Act → World → Prop} {Kr : Act → World → Prop} {kn : List (Nat × Bool)} {bs bs' : List Bool} {fuel : Nat}
theorem mask_get : ∀ {ks : List Bool} {its : List Item} {i : Nat} {it : Item}, (mask ks its)[i]? = some it → it = .gone ∨ its[i]? = some it ∨ (it = .adr ∧ ∃ T cs, its[i]? = some (.blk T cs))
  | [], its, i, it, h => by cases its <;> simp [mask] at h
  | b :: ks, [], i, it, h => by cases b <;> simp [mask] at h
  | true :: ks, x :: its, 0, it, h => by simp [mask] at h; exact .inr (.inl (by simp [h]))
  | false :: ks, x :: its, 0, it, h => by
    cases x with
    | blk T cs => simp [mask] at h; exact .inr (.inr ⟨h.symm, T, cs, rfl⟩)
    | _ => simp [mask] at h; exact .inl h.symm
  | true :: ks, x :: its, i + 1, it, h => by simp [mask] at h; simpa using mask_get h
  | false :: ks, x :: its, i + 1, it, h => by
    have h' : (mask ks its)[i]? = some it := by cases x <;> simpa [mask] using h
    simpa using mask_get h'
theorem mask_len : ∀ {ks : List Bool} {its : List Item}, (mask ks its).length ≤ its.length
  | [], its => by cases its <;> simp [mask]
  | b :: ks, [] => by cases b <;> simp [mask]
  | true :: ks, x :: its => by simp [mask]; exact mask_len
  | false :: ks, x :: its => by
    have := mask_len (ks := ks) (its := its)
    cases x <;> simpa [mask] using this
/-- Back to the beginning's descriptions. -/
theorem OK.cut {κ κx : List Conc} {it : Item} {c : Conc} {U : Nat → Prop} (hsc : it.lt κ.length = true) (h : OK (κ ++ κx) U w it c) : OK κ U w it c := by
  cases it with
  | blk Ty cs => cases c with
    | b n =>
      simp only [OK] at h ⊢
      rw [cells_app hsc] at h
      exact h
    | _ => exact h.elim
  | elt src ow cs => cases c with
    | a ad =>
      cases src with
      | none =>
        simp only [OK] at h ⊢
        rw [cells_app (by simpa [Item.lt] using hsc)] at h
        exact h
      | some q =>
        obtain ⟨i, iv⟩ := q
        simp only [Item.lt, Bool.and_eq_true, Nat.blt_eq] at hsc
        simp only [OK] at h ⊢
        rw [cells_app hsc.2] at h
        obtain ⟨h1, h2, A, n, c, h3, h4⟩ := h
        exact ⟨h1, h2, A, n, c, by rwa [List.getElem?_append_left hsc.1] at h3, h4⟩
    | _ => cases src <;> exact h.elim
  | own sz E R l => cases c with
    | r A n c => exact h
    | _ => exact h.elim
  | rd sz R l => cases c with
    | r A n c => exact h
    | _ => exact h.elim
  | mp k R ow l => cases c with
    | m b => cases ow <;> exact h
    | _ => cases ow <;> exact h.elim
  | lm k l => cases c with
    | m b =>
      simp only [OK] at h ⊢
      have e : (l.map fun p => (p.1, p.2.den (κ ++ κx))) = l.map fun p => (p.1, p.2.den κ) := List.map_congr_left fun p hp => by
        simp only [Item.lt, List.all_eq_true] at hsc
        rw [den_app (hsc p hp)]
      rwa [e] at h
    | _ => exact h.elim
  | str s => cases c with
    | s x => exact h
    | _ => exact h.elim
  | adr => cases c with
    | b n => exact h
    | _ => exact h.elim
  | gone => trivial
theorem Kno.ext {κx : List Conc} (hs : scI κ.length its = true) (h : Kno its κ w) : Kno its (κ ++ κx) w := fun i it hi => by
  obtain ⟨c, U, h1, h2⟩ := h i it hi
  have hlt : i < κ.length := (List.getElem?_eq_some_iff.1 h1).1
  unfold scI at hs
  rw [List.all_eq_true] at hs
  exact ⟨c, U, by rw [List.getElem?_append_left hlt]; exact h1, OK.ext (hs it (List.mem_of_getElem? hi)) (fun _ h => h) h2⟩
theorem St.knoK {ks : List Bool} {itsK its : List Item} {κ1 κx : List Conc} (S : St n0 fx env its (κ1 ++ κx) w) (hK : mask ks its = itsK) (hl : itsK.length ≤ κ1.length) (hs : scI κ1.length itsK = true) : Kno itsK κ1 w := fun i it hi => by
  have hlt : i < κ1.length := Nat.lt_of_lt_of_le (List.getElem?_eq_some_iff.1 hi).1 hl
  have hc : κ1[i]? = some κ1[i] := List.getElem?_eq_getElem hlt
  refine ⟨κ1[i], Mu fx.U0 (Lof its (κ1 ++ κx)), hc, ?_⟩
  have hsc : it.lt κ1.length = true := by
    unfold scI at hs
    rw [List.all_eq_true] at hs
    exact hs it (List.mem_of_getElem? hi)
  rw [← hK] at hi
  rcases mask_get hi with rfl | h | ⟨rfl, T, cs, h⟩
  · cases κ1[i] <;> trivial
  rotate_left
  · have := S.ok i _ κ1[i] h (by rw [List.getElem?_append_left hlt]; exact hc)
    cases hk : κ1[i] with
    | b n => trivial
    | _ => rw [hk] at this; exact this.elim
  · exact OK.cut hsc (S.ok i it _ h (by rw [List.getElem?_append_left hlt]; exact hc))

def KnS (ks : KB) (itsK : KI) (κ1 : List Conc) (b : Array Bool) (w : World) : Prop := Kno itsK.1 κ1 w ∧ (brkA ks.2.2 b = false → Kno itsK.2 κ1 w)
structure DK (ks : KB) (itsK : KI) (κ1 : List Conc) : Prop where
  sc : scI κ1.length itsK.1 = true
  eq : itsK.1.length = κ1.length
  sc2 : scI κ1.length itsK.2 = true
  eq2 : itsK.2.length = κ1.length
theorem St.knoS {ks : KB} {itsK : KI} {its : List Item} {κ1 κx : List Conc} {bs : List Bool} (S : St n0 fx env its (κ1 ++ κx) w) (hK : mkQ ks bs its = slQ ks itsK bs) (D : DK ks itsK κ1) : KnS ks itsK κ1 bs.toArray w := by
  unfold mkQ slQ at hK
  injection hK with h1 h2
  refine ⟨S.knoK h1 (by rw [D.eq]; exact Nat.le_refl _) D.sc, fun h => ?_⟩
  rw [brkA_list] at h
  rw [h] at h2
  exact S.knoK h2 (by rw [D.eq2]; exact Nat.le_refl _) D.sc2
theorem KnS.mono {ks : KB} {itsK : KI} {κ1 : List Conc} {b : Array Bool} {i : Nat} (h : KnS ks itsK κ1 b w) : KnS ks itsK κ1 (b.setIfInBounds i true) w := ⟨h.1, fun hb => h.2 (brkA_mono hb)⟩
theorem KnS.less {ks : KB} {itsK : KI} {κ1 : List Conc} {i : Nat} (hi : ks.2.2.all (fun j => !Nat.beq j i) = true) (b : Array Bool) (w : World) (h : KnS ks itsK κ1 (b.setIfInBounds i true) w) : KnS ks itsK κ1 b w := ⟨h.1, fun hb => h.2 (brkA_set hb fun hm => by
  rw [List.all_eq_true] at hi
  have := hi i hm
  simp at this)⟩
theorem KnS.setL {ks : KB} {itsK : KI} {κ1 : List Conc} {bs bs' : List Bool} {i : Nat} (hb : bs.set i true = bs') (h : KnS ks itsK κ1 bs.toArray w) : KnS ks itsK κ1 bs'.toArray w := by
  have := h.mono (i := i)
  rw [← hb]
  simpa using this

/-- A statement under way: which operations are done, what is known. -/
def SD (P : Program) (ops : Array Oper) (Kn : Act → World → Prop) (ks : KB) (itsK : KI) (κ1 : List Conc) (fuel : Nat) (bs : List Bool) (N n0 : Nat) (fx : Fx) (env : Env') (its : List Item) : Prop :=
  ∀ κx w, St n0 fx env its (κ1 ++ κx) w → WA P fx.px ops Kn (KnS ks itsK κ1) fuel bs N (denE (κ1 ++ κx) env) w
def SW (P : Program) (ops : Array Oper) (Kn : Act → World → Prop) (ks : KB) (itsK : KI) (κ1 : List Conc) (fuel : Nat) (bs : List Bool) (N n0 : Nat) (fx : Fx) (env : Env') (its : List Item) (i : Nat) : Prop :=
  ∀ κx w, St n0 fx env its (κ1 ++ κx) w → WS P fx.px ops Kn (KnS ks itsK κ1) fuel bs N (denE (κ1 ++ κx) env) w i
def maskB (ks : List Bool) (its : List Item) : Bool := !its.any Item.ow && (scI its.length (mask ks its) && Nat.beq (mask ks its).length its.length)
theorem SC.drw {id : Nat} {os : List Oper} (hm : P.follows .mixedOrders = true) (ks : KB) (hB : (maskB ks.1 its && maskB ks.2.1 its) = true) (h : ∀ κ1, DK ks (mask ks.1 its, mask ks.2.1 its) κ1 → SD P os.toArray Kn ks (mask ks.1 its, mask ks.2.1 its) κ1 os.length (List.replicate os.length false) N n0 fx env its) : SC P (.region id os.toArray true) Kn Ke Kr N n0 fx env its := fun κ w S => by
  simp only [maskB, Bool.and_eq_true, Bool.not_eq_true'] at hB
  obtain ⟨⟨hB1, hB2, hB3⟩, _, hB5, hB6⟩ := hB
  refine WC.draw (KnS ks (mask ks.1 its, mask ks.2.1 its) κ) hm S.ctx fun w' C T => ?_
  have S' : St n0 fx env its (κ ++ []) w' := by
    refine S.next (fun _ => False) (by simp [S.len]) S.sce S.sci (by rw [List.append_nil]; exact C) (by rw [List.append_nil]; exact T) (fun i it _ _ h => ⟨h, noOw hB1 _ (List.mem_of_getElem? h), fun _ _ _ _ => by simp⟩) (fun i it c hi h1 _ => ?_)
    have := (List.getElem?_eq_some_iff.1 h1).1
    rcases hi with hi | hi
    · omega
    · exact hi.elim
  have := h κ ⟨by rw [S.len]; exact hB2, by rw [S.len]; exact Nat.eq_of_beq_eq_true hB3, by rw [S.len]; exact hB5, by rw [S.len]; exact Nat.eq_of_beq_eq_true hB6⟩ [] w' S'
  rwa [List.append_nil] at this
theorem SC.draw {id : Nat} {os : List Oper} (hm : P.follows .mixedOrders = true) (ks : List Bool) (hB : maskB ks its = true) (h : ∀ κ1, DK (ks, ks, []) (mask ks its, mask ks its) κ1 → SD P os.toArray Kn (ks, ks, []) (mask ks its, mask ks its) κ1 os.length (List.replicate os.length false) N n0 fx env its) : SC P (.region id os.toArray true) Kn Ke Kr N n0 fx env its :=
  SC.drw hm (ks, ks, []) (by show (maskB ks its && maskB ks its) = true; rw [hB]; rfl) h
theorem SD.done {ks : KB} (hr : Region.ready .any ops bs.toArray = []) (h : ∀ a w, A N n0 fx env its a w → Kn a w) : SD P ops Kn ks itsK κ1 fuel bs N n0 fx env its := fun _ w S => WA.done hr fun a ha => h a w ⟨_, ha, S⟩
theorem SD.doneThen {ks : KB} {y : Code} {Kn' : Act → World → Prop} (hr : Region.ready .any ops bs.toArray = []) (h : SC P y Kn' Ke Kr N n0 fx env its) : SD P ops (fun a w => wp3 P fx.px y Kn' Ke Kr a w) ks itsK κ1 fuel bs N n0 fx env its := fun _ w S => WA.doneThen hr (h _ w S)
theorem SD.all1 {ks : KB} {i : Nat} (hr : Region.ready .any ops bs.toArray = [i]) (h : SW P ops Kn ks itsK κ1 fuel bs N n0 fx env its i) : SD P ops Kn ks itsK κ1 (fuel + 1) bs N n0 fx env its := fun κx w S => WA.all1 hr (h κx w S)
theorem SD.all2 {ks : KB} {i j : Nat} (hr : Region.ready .any ops bs.toArray = [i, j]) (h : SW P ops Kn ks itsK κ1 fuel bs N n0 fx env its i) (h2 : SW P ops Kn ks itsK κ1 fuel bs N n0 fx env its j) : SD P ops Kn ks itsK κ1 (fuel + 1) bs N n0 fx env its := fun κx w S => WA.all2 hr (h κx w S) (h2 κx w S)
theorem SD.all3 {ks : KB} {i j k : Nat} (hr : Region.ready .any ops bs.toArray = [i, j, k]) (h : SW P ops Kn ks itsK κ1 fuel bs N n0 fx env its i) (h2 : SW P ops Kn ks itsK κ1 fuel bs N n0 fx env its j) (h3 : SW P ops Kn ks itsK κ1 fuel bs N n0 fx env its k) : SD P ops Kn ks itsK κ1 (fuel + 1) bs N n0 fx env its := fun κx w S => WA.all3 hr (h κx w S) (h2 κx w S) (h3 κx w S)
theorem SD.norm {ks : KB} {itsN : List Item} (h : its = itsN) (hk : SD P ops Kn ks itsK κ1 fuel bs N n0 fx env itsN) : SD P ops Kn ks itsK κ1 fuel bs N n0 fx env its := h ▸ hk
theorem SD.pre {ks : KB} (h : Pre n0 fx env its its') (hk : SD P ops Kn ks itsK κ1 fuel bs N n0 fx env its') : SD P ops Kn ks itsK κ1 fuel bs N n0 fx env its := fun κx w S => by
  obtain ⟨κy, S'⟩ := h _ w S
  have e : denE (κ1 ++ κx ++ κy) env = denE (κ1 ++ κx) env := denE_app (by rw [S.len]; exact S.sce)
  have := hk (κx ++ κy) w (by rw [← List.append_assoc]; exact S')
  rw [← List.append_assoc, e] at this
  exact this
/-- What is shown of one moment, for another that is seen as it. -/
theorem SD.lay {ks : KB} (fuel' : Nat) (bs' : List Bool) (env2 : Env') (its2 : List Item) (h : SD P ops Kn ks itsK κ1 fuel' bs' N n0 fx env2 its2) (k : SD P ops Kn ks itsK κ1 fuel' bs' N n0 fx env2 its2 → SD P ops Kn ks itsK κ1 fuel bs N n0 fx env its) : SD P ops Kn ks itsK κ1 fuel bs N n0 fx env its := k h
theorem SD.view {ks : KB} (D : DK ks itsK κ1) (js : List Jx) (hk : SD P ops Kn ks itsK κ1 fuel bs N n0 fx env' its') (e : (preB itsK.1.length js, renE js env', renIs js its', vwB n0 its.length js env' its' (lkEs env env') (srcs its js its')) = (true, lkEs env env', srcs its js its', true)) : SD P ops Kn ks itsK κ1 fuel bs N n0 fx env its := fun κx w S a ha => by
  injection e with e0 e
  injection e with e1 e
  injection e with e2 hB
  have hB' := hB
  simp only [vwB, Bool.and_eq_true] at hB
  obtain ⟨b1, b2, b3, b4, b5, b6, b7⟩ := hB
  obtain ⟨en, he⟩ := Option.isSome_iff_exists.1 b6
  have S' := S.view e2 (by
    simp only [vwB, Bool.and_eq_true]
    exact ⟨b1, b2, b3, b4, b5, rfl, b7⟩)
  have hpre : (js.map (cJ (κ1 ++ κx))).take κ1.length = κ1 := by
    unfold preB at e0
    rw [List.all_eq_true] at e0
    apply List.ext_getElem?
    intro i
    rw [List.getElem?_take]
    by_cases hi : i < κ1.length
    · rw [if_pos hi, List.getElem?_map]
      have := e0 i (List.mem_range.2 (by rw [D.eq]; exact hi))
      split at this
      · rename_i k hk
        have hki := Nat.eq_of_beq_eq_true this
        subst hki
        rw [hk]
        simp [cJ, List.getElem?_append_left hi, List.getElem?_eq_getElem hi]
      · cases this
    · rw [if_neg hi, List.getElem?_eq_none (by omega)]
  have hsp : js.map (cJ (κ1 ++ κx)) = κ1 ++ (js.map (cJ (κ1 ++ κx))).drop κ1.length := by
    have := List.take_append_drop κ1.length (js.map (cJ (κ1 ++ κx)))
    rw [hpre] at this
    exact this.symm
  have h5 := hk ((js.map (cJ (κ1 ++ κx))).drop κ1.length) w (by rw [← hsp]; exact S')
  rw [← hsp] at h5
  exact h5 a (ha.sub (renE_sub (by rw [S.len]; exact bndJ_ok b2) (e1.trans he) he))
/-! A moment that is seen with its elements' places. -/
def unel : Item → Item
  | .elt (some _) false cs => .elt none false cs
  | it => it
def unels : List Item → List Item
  | [] => []
  | it :: r => unel it :: unels r
def elQ : Item → Option (Nat × Int × Nat)
  | .elt (some (i, iv)) false cs => some (i, iv, cs.length)
  | _ => none
def elG (its : List Item) : Jx → Option (Nat × Int × Nat) → Option (Nat × Int × Nat)
  | _, none => none
  | .g k, some _ => match its[k]? with
    | some (.elt (some (i, iv)) _ cs) => some (i, iv, cs.length)
    | _ => none
  | _, some _ => none
def elS (its : List Item) : List Jx → List Item → List (Option (Nat × Int × Nat))
  | j :: js, t :: ts => elG its j (elQ t) :: elS its js ts
  | _, _ => []
def elT : List Item → List (Option (Nat × Int × Nat))
  | t :: ts => elQ t :: elT ts
  | [] => []
def elB (base : Nat) : List Item → Bool
  | t :: ts => (match elQ t with
    | some (i, _) => Nat.blt i base
    | none => true) && elB base ts
  | [] => true
theorem unels_len : ∀ {l : List Item}, (unels l).length = l.length
  | [] => rfl
  | _ :: l => by simp [unels, unels_len (l := l)]
theorem unels_get : ∀ {l : List Item} {j : Nat} {it : Item}, l[j]? = some it → (unels l)[j]? = some (unel it)
  | [], _, _, h => by simp at h
  | _ :: _, 0, _, h => by simp at h; subst h; rfl
  | _ :: l, j + 1, _, h => by
    simp only [List.getElem?_cons_succ] at h
    simp only [unels, List.getElem?_cons_succ]
    exact unels_get h
theorem unel_own1 (it : Item) (c : Conc) : own1 (unel it) c = own1 it c := by
  unfold unel
  split
  · cases c <;> rfl
  · rfl
theorem unels_Lof : ∀ {l : List Item} {κ : List Conc}, Lof (unels l) κ = Lof l κ
  | [], _ => rfl
  | _ :: _, [] => rfl
  | it :: l, c :: κ => by
    have := unels_Lof (l := l) (κ := κ)
    unfold Lof at this ⊢
    simp only [unels, List.zipWith_cons_cons, unel_own1, this]
theorem unel_cases (it : Item) : (unel it = it ∧ elQ it = none) ∨ ∃ i iv cs, it = .elt (some (i, iv)) false cs := by
  cases it with
  | elt src ow cs => cases src with
    | none => exact .inl ⟨rfl, rfl⟩
    | some q => obtain ⟨i, iv⟩ := q; cases ow with
      | true => exact .inl ⟨rfl, rfl⟩
      | false => exact .inr ⟨i, iv, cs, rfl⟩
  | _ => exact .inl ⟨rfl, rfl⟩
theorem elB_get : ∀ {base : Nat} {l : List Item} {j : Nat} {i : Nat} {iv : Int} {cs : List Cell}, elB base l = true → l[j]? = some (.elt (some (i, iv)) false cs) → i < base
  | _, [], _, _, _, _, _, h => by simp at h
  | _, t :: l, 0, _, _, _, hb, h => by
    simp only [List.getElem?_cons_zero] at h
    injection h with h
    subst h
    simp only [elB, Bool.and_eq_true] at hb
    simpa [elQ] using hb.1
  | _, t :: l, j + 1, _, _, _, hb, h => by
    simp only [List.getElem?_cons_succ] at h
    simp only [elB, Bool.and_eq_true] at hb
    exact elB_get hb.2 h
theorem elS_get {its : List Item} : ∀ {js : List Jx} {l : List Item} {j : Nat} {i : Nat} {iv : Int} {cs : List Cell}, elS its js l = elT l → l[j]? = some (.elt (some (i, iv)) false cs) → ∃ k ow cs2, js[j]? = some (.g k) ∧ its[k]? = some (.elt (some (i, iv)) ow cs2) ∧ cs2.length = cs.length
  | _, [], _, _, _, _, _, h => by simp at h
  | [], t :: l, _, _, _, _, he, _ => by simp [elS, elT] at he
  | q :: js, t :: l, 0, i, iv, cs, he, h => by
    simp only [List.getElem?_cons_zero] at h
    injection h with h
    subst h
    simp only [elS, elT, List.cons.injEq] at he
    have h1 := he.1
    simp only [elQ] at h1
    cases q with
    | g k =>
      simp only [elG] at h1
      split at h1
      · rename_i i' iv' ow cs' hk
        simp only [Option.some.injEq, Prod.mk.injEq] at h1
        obtain ⟨rfl, rfl, h3⟩ := h1
        exact ⟨k, _, _, rfl, hk, h3⟩
      · cases h1
    | _ => simp [elG] at h1
  | q :: js, t :: l, j + 1, _, _, _, he, h => by
    simp only [List.getElem?_cons_succ] at h ⊢
    simp only [elS, elT, List.cons.injEq] at he
    exact elS_get he.2 h
theorem SD.vie {ks : KB} (D : DK ks itsK κ1) (js : List Jx) (hk : SD P ops Kn ks itsK κ1 fuel bs N n0 fx env' its') (e : (preB itsK.1.length js, renE js env', renIs js (unels its'), elS its js its', vwB n0 its.length js env' (unels its') (lkEs env env') (srcs its js (unels its')), elB itsK.1.length its') = (true, lkEs env env', srcs its js (unels its'), elT its', true, true)) : SD P ops Kn ks itsK κ1 fuel bs N n0 fx env its := fun κx w S a ha => by
  injection e with e0 e
  injection e with e1 e
  injection e with e2 e
  injection e with e3 e
  injection e with hB e4
  simp only [vwB, Bool.and_eq_true] at hB
  obtain ⟨b1, b2, b3, b4, b5, b6, b7⟩ := hB
  obtain ⟨en, he⟩ := Option.isSome_iff_exists.1 b6
  have S' := S.view e2 (by
    simp only [vwB, Bool.and_eq_true]
    exact ⟨b1, b2, b3, b4, b5, rfl, b7⟩)
  have hpre : (js.map (cJ (κ1 ++ κx))).take κ1.length = κ1 := by
    unfold preB at e0
    rw [List.all_eq_true] at e0
    apply List.ext_getElem?
    intro i
    rw [List.getElem?_take]
    by_cases hi : i < κ1.length
    · rw [if_pos hi, List.getElem?_map]
      have := e0 i (List.mem_range.2 (by rw [D.eq]; exact hi))
      split at this
      · rename_i k hk
        have hki := Nat.eq_of_beq_eq_true this
        subst hki
        rw [hk]
        simp [cJ, List.getElem?_append_left hi, List.getElem?_eq_getElem hi]
      · cases this
    · rw [if_neg hi, List.getElem?_eq_none (by omega)]
  have hsp : js.map (cJ (κ1 ++ κx)) = κ1 ++ (js.map (cJ (κ1 ++ κx))).drop κ1.length := by
    have := List.take_append_drop κ1.length (js.map (cJ (κ1 ++ κx)))
    rw [hpre] at this
    exact this.symm
  have hlen : (js.map (cJ (κ1 ++ κx))).length = its'.length := by rw [S'.len, unels_len]
  have hle : κ1.length ≤ its'.length := by
    rw [← hlen, hsp]
    simp
  have hS : St n0 fx env' its' (js.map (cJ (κ1 ++ κx))) w := by
    refine ⟨hlen, S'.pre, S'.n0, by have := S'.sce; rwa [unels_len] at this, ?_, by have := S'.ctx; rwa [unels_Lof] at this, fun j it c h1 h2 => ?_⟩
    · have hs := S'.sci
      unfold scI at hs ⊢
      rw [List.all_eq_true] at hs ⊢
      intro it hit
      obtain ⟨j, hj⟩ := List.getElem?_of_mem hit
      have h3 := hs _ (List.mem_of_getElem? (unels_get hj))
      rw [unels_len] at h3
      rcases unel_cases it with ⟨h4, _⟩ | ⟨i, iv, cs, rfl⟩
      · rwa [h4] at h3
      · have hi := elB_get e4 hj
        rw [D.eq] at hi
        simp only [unel, Item.lt] at h3
        simp only [Item.lt, Bool.and_eq_true, Nat.blt_eq]
        exact ⟨by omega, h3⟩
    · have h3 := S'.ok j (unel it) c (unels_get h1) h2
      rw [unels_Lof] at h3
      rcases unel_cases it with ⟨h4, _⟩ | ⟨i, iv, cs, rfl⟩
      · rwa [h4] at h3
      · obtain ⟨k, ow, cs2, g1, g2, g3⟩ := elS_get e3 h1
        have hi := elB_get e4 h1
        rw [D.eq] at hi
        have g4 : (κ1 ++ κx)[k]? = some c := by
          rw [List.getElem?_map, g1] at h2
          have hkl : k < (κ1 ++ κx).length := by
            rw [S.len]
            exact (List.getElem?_eq_some_iff.1 g2).1
          simp only [Option.map_some, Option.some.injEq, cJ] at h2
          rw [List.getElem?_eq_getElem hkl] at h2 ⊢
          simpa using h2
        have h5 := S.ok k _ c g2 g4
        cases c with
        | a ad =>
          simp only [unel, OK] at h3
          simp only [OK] at h5 ⊢
          obtain ⟨_, _, A, n, c', q1, q2, q3, q4⟩ := h5
          refine ⟨by simpa using h3.1, h3.2, A, n, c', ?_, by rw [← g3]; exact q2, q3, q4⟩
          rw [hsp, List.getElem?_append_left hi]
          rwa [List.getElem?_append_left hi] at q1
        | _ => exact h3.elim
  have h5 := hk ((js.map (cJ (κ1 ++ κx))).drop κ1.length) w (by rw [← hsp]; exact hS)
  rw [← hsp] at h5
  exact h5 a (ha.sub (renE_sub (by rw [S.len]; exact bndJ_ok b2) (e1.trans he) he))
theorem SW.pre {ks : KB} {i : Nat} (h : Pre n0 fx env its its') (hk : SW P ops Kn ks itsK κ1 fuel bs N n0 fx env its' i) : SW P ops Kn ks itsK κ1 fuel bs N n0 fx env its i := fun κx w S => by
  obtain ⟨κy, S'⟩ := h _ w S
  have e : denE (κ1 ++ κx ++ κy) env = denE (κ1 ++ κx) env := denE_app (by rw [S.len]; exact S.sce)
  have := hk (κx ++ κy) w (by rw [← List.append_assoc]; exact S')
  rw [← List.append_assoc, e] at this
  exact this
/-- One operation with an effect, as it comes up. -/
theorem SW.eff {ks : KB} {i d : Nat} {oi : Oper} {v : SV} (D : DK ks itsK κ1) (hi : ops[i]? = some oi) (hg : oi.guard = none ∨ ∃ j b s x, oi.guard = some (j, b) ∧ (ops[j]?).bind (·.dst) = some s ∧ lkE s env = some (vb x) ∧ x = b) (hd : oi.dst = some d) (he : Eff P N n0 fx env its oi (some v) its') (hN : (Nat.blt d N && v.lt its'.length) = true) (hb : bs.set i true = bs') (hK : mkQ ks bs' its' = slQ ks itsK bs')
    (hk : SD P ops Kn ks itsK κ1 fuel bs' N n0 fx ((d, v) :: env) its') : SW P ops Kn ks itsK κ1 fuel bs N n0 fx env its i := fun κx w S a ha => by
  simp only [Bool.and_eq_true] at hN
  have hw : Region.wanted oi (yielded ops a.tmps) = true := by
    rcases hg with hg | ⟨j, b, s, x, hg, hj, hs, hx⟩
    · simp [Region.wanted, hg]
    · have hl := lkE_den (κ := κ1 ++ κx) hs
      simp only [SV.den, Cell.den] at hl
      simp [Region.wanted, hg, yielded_of hj hl ha, hx]
  unfold wpOp
  simp only [hi, hw, if_true]
  refine .inl ?_
  unfold Oper.wp
  have key : ∀ ov w', (∃ κy, (∀ x, some v = some x → ov = some (x.den (κ1 ++ κx ++ κy))) ∧ St n0 fx env its' (κ1 ++ κx ++ κy) w') → ∀ u, ov = some u → KnS ks itsK κ1 (bs.toArray.setIfInBounds i true) w' ∧ wpAnyM P ops (QN fx.px Kn) (KnS ks itsK κ1) fuel (bs.toArray.setIfInBounds i true) (a.put (some d) u) w' := by
    have e : bs.toArray.setIfInBounds i true = bs'.toArray := by rw [← hb]; simp
    rw [e]
    rintro ov w' ⟨κy, h1, S'⟩ u hu
    have := h1 v rfl
    rw [hu] at this
    injection this with this
    subst this
    rw [List.append_assoc] at S'
    refine ⟨S'.knoS hK D, ?_⟩
    have h3 := hk (κx ++ κy) w' (S'.env (by
      have := S'.sce
      unfold scE at this ⊢
      simp [hN.2, this]))
    have h2 : denE (κ1 ++ (κx ++ κy)) ((d, v) :: env) = (d, v.den (κ1 ++ κx ++ κy)) :: denE (κ1 ++ κx) env := by
      rw [← List.append_assoc]
      show (d, v.den (κ1 ++ κx ++ κy)) :: denE (κ1 ++ κx ++ κy) env = _
      rw [denE_app (by rw [S.len]; exact S.sce)]
    rw [h2] at h3
    exact h3 _ (ha.put hN.1)
  rcases he _ w S a ha with ⟨u, w', h1, h2⟩ | ⟨w', h1, h2⟩ | ⟨f, args, h1, h2⟩
  · rw [h1]
    simp only [Oper.upon, hd]
    exact key _ _ h2 u rfl
  · obtain ⟨κy, h3, _⟩ := h2
    exact absurd (h3 v rfl) (by simp)
  · rw [h1]
    refine Calls.mono h2 fun e w' hq => ?_
    obtain ⟨u, rfl, hv⟩ := hq
    simp only [hd]
    exact key _ _ hv u rfl
/-- A store, as it comes up. -/
theorem SW.store {ks : KB} {i q : Nat} {op : Op} {t : TypeId} {ps : String} {af : Array Edge} {T : TypeId} {cs : List Cell} (D : DK ks itsK κ1) (htt : TTOk P tt) (hi : ops[i]? = some ⟨none, op, t, ps, af, none⟩) (hst : stR tt its (evS env) op = some (q, T, cs)) (how : its.any Item.ow = false) (hb : bs.set i true = bs') (hK : mkQ ks bs' (setB its q T cs) = slQ ks itsK bs')
    (hk : SD P ops Kn ks itsK κ1 fuel bs' N n0 fx env (setB its q T cs)) : SW P ops Kn ks itsK κ1 fuel bs N n0 fx env its i := fun κx w S a ha => by
  obtain ⟨w', h1, S'⟩ := stR_ok (N := N) (t := t) (ps := ps) (af := af) (gd := none) htt S (noOw how) (fun x v h => evS_den h) hst a ha
  unfold wpOp
  simp only [hi, Region.wanted, if_true]
  refine .inl ?_
  unfold Oper.wp
  rw [h1]
  have h4 := hk κx w' S' _ ha
  have e : bs.toArray.setIfInBounds i true = bs'.toArray := by rw [← hb]; simp
  rw [e]
  exact ⟨S'.knoS hK D, h4⟩
/-- A value, where nothing else may come up. -/
theorem e_val {o : Oper} {v : SV} (htt : TTOk P tt) (h : sv1 tt (fun _ => true) its (evS env) o.op = some v) : Eff P N n0 fx env its o (some v) its := fun κ w S a ha => by
  obtain ⟨d, op, t, ps, af, g⟩ := o
  exact .inl ⟨_, w, sv1_ok htt S.kno (fun x v h => evS_den h) h a ha, [], fun x hx => (by injection hx with hx; subst hx; rw [List.append_nil]), by rw [List.append_nil]; exact S⟩
def KnOK (kn : List (Nat × Bool)) (env : Env') : Prop := ∀ s b, knB kn s = some b → ∀ v, lkE s env = some (vb v) → v = b
theorem kn0 : KnOK [] env := fun s b h => by cases h
theorem knS {s : Nat} {b : Bool} {v : Bool} (h1 : lkE s env = some (vb v)) (h2 : v = b) (hr : KnOK kn env) : KnOK ((s, b) :: kn) env := fun t b' h v' hv' => by
  simp only [knB] at h
  split at h
  · rename_i he
    injection h with h
    subst h
    rw [Nat.eq_of_beq_eq_true he, h1] at hv'
    injection hv' with hv'
    injection hv' with hv'
    injection hv' with hv'
    injection hv' with hv'
    exact hv' ▸ h2
  · exact hr t b' h v' hv'
theorem gpathK_ok {env : EnvC} {gd : Option (Nat × Bool)} {pa : List (Nat × Bool)} {g : Bool} (h : gpathK kn ops env gd = some (some (pa, g))) : Fits env pa g := by
  cases gd with
  | none =>
    simp only [gpathK, Option.some.injEq, Prod.mk.injEq] at h
    obtain ⟨rfl, rfl⟩ := h
    exact rfl
  | some q =>
    obtain ⟨j, b⟩ := q
    simp only [gpathK] at h
    split at h
    · split at h
      · split at h
        · split at h
          · simp only [Option.some.injEq, Prod.mk.injEq] at h
            obtain ⟨rfl, rfl⟩ := h
            exact rfl
          · cases h
        · cases h
        · cases h
      · split at h
        · cases h
        · cases hp : gpath ops env (some (j, b)) with
          | none => simp [hp] at h
          | some q =>
            simp only [hp, Option.map_some, Option.some.injEq] at h
            subst h
            exact gpath_ok hp
    · cases h
def KnC (kn : List (Nat × Bool)) (env : EnvC) : Prop := ∀ s b, knB kn s = some b → ∀ v g, lkC s env = some ⟨[], g, vb v⟩ → v = b
theorem KnC.push {env : EnvC} (h : KnC kn env) {d : Nat} {e : Ent} (hd : (knB kn d).isNone = true) : KnC kn ((d, e) :: env) := fun s b hs v g hl => by
  simp only [lkC] at hl
  cases hb : Nat.beq s d with
  | true =>
    rw [← Nat.eq_of_beq_eq_true hb, hs] at hd
    cases hd
  | false =>
    rw [hb] at hl
    exact h s b hs v g hl
/-- Whether an operation is carried out. -/
theorem wantedK {env : EnvC} (hw : WF env) (hk : KnC kn env) {o : Oper} {a : Act} (ha : Holds N (denC κ env) a) : (∀ pa g, gpathK kn ops env o.guard = some (some (pa, g)) → Region.wanted o (yielded ops a.tmps) = g) ∧ (gpathK kn ops env o.guard = some none → Region.wanted o (yielded ops a.tmps) = false) := by
  cases hgd : o.guard with
  | none =>
    refine ⟨fun pa g h => ?_, fun h => by cases h⟩
    simp only [gpathK, Option.some.injEq, Prod.mk.injEq] at h
    simp [Region.wanted, hgd, h.2.symm]
  | some q =>
    obtain ⟨j, b⟩ := q
    have yb : ∀ s v, (ops[j]?).bind (·.dst) = some s → lk s (denC κ env) = some (.bool v) → Region.wanted o (yielded ops a.tmps) = (v == b) := fun s v hj hl => by
      simp [Region.wanted, hgd, yielded_of hj hl ha]
    have yu : ∀ s, (ops[j]?).bind (·.dst) = some s → lk s (denC κ env) = some undef → Region.wanted o (yielded ops a.tmps) = false := fun s hj hl => by
      have : yielded ops a.tmps j = none := by
        unfold yielded
        rw [hj]
        simp [ha.get s _ hl, undef]
      simp [Region.wanted, hgd, this]
    refine ⟨fun pa g h => ?_, fun h => ?_⟩
    · simp only [gpathK] at h
      split at h
      · rename_i s hs
        split at h
        · rename_i b' hkn
          split at h
          · rename_i g0 v hl
            split at h
            · rename_i hbb
              simp only [Option.some.injEq, Prod.mk.injEq] at h
              obtain ⟨rfl, rfl⟩ := h
              have hv := hk s b' hkn v g0 hl
              have hls := lkC_den (κ := κ) hl
              have hg0 : g0 = true := hw s _ hl
              subst hg0
              simp only [denX, SV.den, Cell.den] at hls
              rw [yb s v hs hls, hv, beqB_eq hbb]
              cases b' <;> rfl
            · cases h
          · cases h
          · cases h
        · split at h
          · cases h
          · cases hp : gpath ops env (some (j, b)) with
            | none => simp [hp] at h
            | some q =>
              simp only [hp, Option.map_some, Option.some.injEq] at h
              subst h
              have hf := gpath_ok hp
              simp only [gpath, hs] at hp
              split at hp
              · rename_i pa' g' v hl
                simp only [Option.some.injEq, Prod.mk.injEq] at hp
                obtain ⟨rfl, hg⟩ := hp
                have hls := lkC_den (κ := κ) hl
                cases hg' : g' with
                | false =>
                  subst hg'
                  simp only [denX] at hls
                  rw [yu s hs hls, ← hg]
                  have hwf := hw s _ hl
                  cases pa' with
                  | nil => cases hwf
                  | cons q p => rfl
                | true =>
                  subst hg'
                  simp only [denX, SV.den, Cell.den] at hls
                  rw [yb s v hs hls, ← hg]
                  cases pa' <;> cases b <;> cases v <;> rfl
              · cases hp
      · cases h
    · simp only [gpathK] at h
      split at h
      · rename_i s hs
        split at h
        · rename_i b' hkn
          split at h
          · rename_i g0 v hl
            split at h
            · cases h
            · rename_i hbb
              have hv := hk s b' hkn v g0 hl
              have hls := lkC_den (κ := κ) hl
              have hg0 : g0 = true := hw s _ hl
              subst hg0
              simp only [denX, SV.den, Cell.den] at hls
              rw [yb s v hs hls, hv]
              cases b <;> cases b' <;> first | rfl | cases hbb
          · rename_i g0 hl
            have hls := lkC_den (κ := κ) hl
            have hg0 : g0 = true := hw s _ hl
            subst hg0
            exact yu s hs hls
          · cases h
        · split at h
          · rename_i g0 hl
            have hls := lkC_den (κ := κ) hl
            have hg0 : g0 = true := hw s _ hl
            subst hg0
            exact yu s hs hls
          · cases hp : gpath ops env (some (j, b)) <;> simp [hp] at h
      · cases h
theorem take_step {ks : KB} {env : EnvC} {i d : Nat} {op : Op} {t : TypeId} {ps : String} {af : Array Edge} {gd : Option (Nat × Bool)} {e : Ent} (hw : WF env) (hk : KnC kn env) (hsel : Region.noSelect ops = true) (hi : ops[i]? = some ⟨some d, op, t, ps, af, gd⟩) (hfr : ((Region.free .any ops bs.toArray i && (Region.ready .any ops bs.toArray).contains i) && ks.2.2.all (fun j => !Nat.beq j i)) = true) (hN : Nat.blt d N = true) (hS : KnS ks itsK κ1 bs.toArray w)
    (hr : (gpathK kn ops env gd = some none ∧ denX κ e = undef) ∨ (gpathK kn ops env gd = some (some (e.pa, e.g)) ∧ (e.g = true → ∀ w, Kno (itk itsK ks.2.2 ops bs i) κ1 w → RunV P N (denC κ env) ⟨some d, op, t, ps, af, gd⟩ w (e.x.den κ))))
    (h : WA P fx.px ops Kn (KnS ks itsK κ1) fuel (bs.set i true) N (denC κ ((d, e) :: env)) w) : WA P fx.px ops Kn (KnS ks itsK κ1) (fuel + 1) bs N (denC κ env) w := by
  simp only [Bool.and_eq_true] at hfr
  obtain ⟨⟨hf1, hf2⟩, hf3⟩ := hfr
  have hy : ∀ a, Holds N (denC κ env) a → YieldsIf P ops (fun w => Kno (itk itsK ks.2.2 ops bs i) κ1 w) ⟨some d, op, t, ps, af, gd⟩ (denX κ e) a := fun a ha => by
    have hwt := wantedK (κ := κ) (ops := ops) hw hk (o := ⟨some d, op, t, ps, af, gd⟩) ha
    rcases hr with ⟨h1, h2⟩ | ⟨h1, h2⟩
    · exact .inr ⟨hwt.2 h1, h2⟩
    · have h3 := hwt.1 _ _ h1
      cases hg : e.g with
      | true =>
        refine .inl ⟨h3.trans hg, fun w hS => ?_⟩
        simp only [denX, hg]
        exact h2 hg w hS a ha
      | false =>
        refine .inr ⟨h3.trans hg, ?_⟩
        simp only [denX, hg]
  cases hq : !brkL ks.2.2 bs && waitsAll ops ks.2.2 i with
  | true =>
    have hq2 := hq
    simp only [Bool.and_eq_true, Bool.not_eq_true'] at hq2
    refine WA.takeAny (v := denX κ e) (brk := ks.2.2) hi rfl hsel hf1 hf2 hq2.2 hq2.1 (fun b w hb hS => ?_) (KnS.less hf3) hy (hS.setL rfl) hN rfl h
    show Kno (itk itsK ks.2.2 ops bs i) κ1 w
    unfold itk
    rw [hq]
    exact hS.2 hb
  | false =>
    refine WA.takeAny (v := denX κ e) (brk := []) hi rfl hsel hf1 hf2 rfl rfl (fun b w hb hS => ?_) (KnS.less hf3) hy (hS.setL rfl) hN rfl h
    show Kno (itk itsK ks.2.2 ops bs i) κ1 w
    unfold itk
    rw [hq]
    exact hS.1
theorem takeD_ok (htt : TTOk P tt) {ks : KB} (D : DK ks itsK κ1) (hsel : Region.noSelect ops = true) {κx : List Conc} {n : Nat} : ∀ (is : List Nat) (evs : List Evi) (bs : List Bool) (env : EnvC) (bs1 : List Bool) (env1 : EnvC) (p : List Int) (fuel : Nat), takeD N tt kn ks.2.2 itsK n ops is evs bs env = some (bs1, env1, p, p) → WF env → scC n env → KnC kn env →
    (WF env1 → scC n env1 → WA P fx.px ops Kn (KnS ks itsK κ1) fuel bs1 N (denC (κ1 ++ κx) env1) w) → KnS ks itsK κ1 bs.toArray w → WA P fx.px ops Kn (KnS ks itsK κ1) (fuel + is.length) bs N (denC (κ1 ++ κx) env) w
  | [], evs, bs, env, bs1, env1, p, fuel, h, hw, hs, hkc, hk, S => by
    simp only [takeD, Option.some.injEq, Prod.mk.injEq] at h
    obtain ⟨rfl, rfl, _⟩ := h
    exact hk hw hs
  | i :: is, evs, bs, env, bs1, env1, p, fuel, h, hw, hs, hkc, hk, S => by
    have hK : ∀ w, Kno (itk itsK ks.2.2 ops bs i) κ1 w → Kno (itk itsK ks.2.2 ops bs i) (κ1 ++ κx) w := fun w h => by
      unfold itk at h ⊢
      split at h
      · exact h.ext D.sc2
      · exact h.ext D.sc
    rw [List.length_cons, ← Nat.add_assoc]
    unfold takeD at h
    split at h
    case h_2 => cases h
    rename_i d op t ps af gd hi hfr
    split at h
    · cases h
    · rename_i hg
      split at h
      · rename_i hc
        simp only [Bool.and_eq_true] at hc
        exact take_step hw hkc hsel hi hfr hc.2.1 S (.inl ⟨hg, rfl⟩) (takeD_ok htt D hsel is evs _ _ bs1 env1 p fuel h (hw.push rfl hc.1) (hs.push rfl) (hkc.push hc.2.2) hk (S.setL rfl))
      · cases h
    · rename_i pa g hg
      have hf := gpathK_ok hg
      split at h
      · cases h
      · rename_i hc
        simp only [Bool.and_eq_true] at hc
        obtain ⟨hfr2, hN, hnk⟩ := hc
        split at h
        · rename_i c x y
          split at h
          · rename_i s
            split at h
            · rename_i b hkb
              split at h
              · rename_i g0 v0 v hl hv
                split at h
                · rename_i hvl
                  refine take_step hw hkc hsel hi hfr hN S (.inr ⟨hg, fun hgt w hS => ?_⟩) (takeD_ok htt D hsel is evs _ _ bs1 env1 p fuel h (hw.push hf hfr2) (hs.push hvl) (hkc.push hnk) hk (S.setL rfl))
                  have hv0 := hkc s b hkb v0 g0 hl
                  have hls := lkC_den (κ := κ1 ++ κx) hl
                  have hg0 : g0 = true := hw s _ hl
                  subst hg0
                  simp only [denX, SV.den, Cell.den] at hls
                  have hev := evC_ok (κ := κ1 ++ κx) hw hf hgt hf hgt _ _ hv
                  cases b with
                  | true => exact rv_pick_t hls hv0 hev
                  | false => exact rv_pick_f hls hv0 hev
                · cases h
              · cases h
            · split at h
              · rename_i v hcx
                split at h
                · rename_i ec hec
                  split at h
                  · rename_i z hz
                    have hzl : z.lt n = true := by
                      unfold pickV at hz
                      split at hz
                      · split at hz <;> (injection hz with hz; subst hz; rfl)
                      · cases hz
                    exact take_step hw hkc hsel hi hfr hN S (.inr ⟨hg, fun hgt w hS => pick_ok hw hf hgt hcx hec hz⟩) (takeD_ok htt D hsel is evs _ _ bs1 env1 p fuel h (hw.push hf hfr2) (hs.push hzl) (hkc.push hnk) hk (S.setL rfl))
                  · cases h
                · cases h
              · cases h
          · cases h
        · split at h
          · rename_i v hv
            split at h
            · rename_i hvl
              exact take_step hw hkc hsel hi hfr hN S (.inr ⟨hg, fun hgt w hS => sv1_ok htt (hK w hS) (evC_ok hw hf hgt hf hgt) hv⟩) (takeD_ok htt D hsel is evs _ _ bs1 env1 p fuel h (hw.push hf hfr2) (hs.push hvl) (hkc.push hnk) hk (S.setL rfl))
            · cases h
          · split at h
            · rename_i e evs' _
              have hgt : g = true := hf
              subst hgt
              split at h
              · rename_i v a b hv
                split at h
                · rename_i hvl
                  cases hr : takeD N tt kn ks.2.2 itsK n ops is evs' (bs.set i true) ((d, ⟨[], true, v⟩) :: env) with
                  | none => simp [hr] at h
                  | some q =>
                    obtain ⟨e1, i1, q1, q2⟩ := q
                    simp only [hr, Option.map_some, Option.some.injEq, Prod.mk.injEq] at h
                    obtain ⟨rfl, rfl, h1, h2⟩ := h
                    rw [← h1] at h2
                    obtain ⟨h3, h4⟩ := append_inj_len h2 (svE_len hv).symm
                    subst h3; subst h4
                    exact take_step hw hkc hsel hi hfr hN S (.inr ⟨hg, fun hgt w hS => svE_ok htt (hK w hS) (evC_ok hw (pa := []) (pb := []) rfl rfl rfl rfl) hv⟩) (takeD_ok htt D hsel is evs' _ _ _ _ _ fuel hr (hw.push hf hfr2) (hs.push hvl) (hkc.push hnk) hk (S.setL rfl))
                · cases h
              · cases h
            · cases h
/-- Operations that only look are taken first. -/
theorem SD.takes {ks : KB} (htt : TTOk P tt) (D : DK ks itsK κ1) (kn : List (Nat × Bool)) (hkn : KnOK kn env) (is : List Nat) (evs : List Evi) (q : List Int) (bs' : List Bool) (env' : Env') {fuel' : Nat} (hf : fuel = fuel' + is.length) (hsel : Region.noSelect ops = true) (hK : mkQ ks bs its = slQ ks itsK bs)
    (h : takeT N tt kn ks.2.2 itsK its.length ops is evs bs env (env'.map (·.1)) = some (bs', env', q, q)) (hk : SD P ops Kn ks itsK κ1 fuel' bs' N n0 fx env' its) : SD P ops Kn ks itsK κ1 fuel bs N n0 fx env its := fun κx w S => by
  unfold takeT at h
  cases hr : takeD N tt kn ks.2.2 itsK its.length ops is evs bs (toC env) with
  | none => simp [hr] at h
  | some z =>
    obtain ⟨e1, i1, q1, q2⟩ := z
    cases ho : outE i1 (env'.map (·.1)) with
    | none => simp [hr, ho] at h
    | some e2 =>
      simp only [hr, ho, Option.bind_some, Option.map_some, Option.some.injEq, Prod.mk.injEq] at h
      obtain ⟨rfl, rfl, rfl, rfl⟩ := h
      rw [← denC_toC, hf]
      refine takeD_ok htt D hsel is evs bs (toC env) _ _ _ _ hr (WF_toC env) (fun t e he => ?_) (fun s b hs v g hl => hkn s b hs v (lkC_toC hl).1) (fun hw hs => ?_) (S.knoS hK D)
      · have h1 := S.sce
        unfold scE at h1
        rw [List.all_eq_true] at h1
        exact h1 _ (lkE_mem (lkC_toC he).1)
      · intro a ha
        exact hk κx w (S.env (outE_sc hs _ ho)) a (ha.sub (outE_sub hw _ ho))
end
end V
end Go.Proofs.YtladkmnfmpojiaaGreatDoor
namespace Go.Proofs.YtladkmnfmpojiaaGreatDoor
namespace V
section
variable {P : Program} {N n0 : Nat} {fx : Fx} {its its' : List Item} {κ : List Conc} {w : World} {env env' : Env'} {tt : TT} {ops : Array Oper} {rest : List Oper} {Kn : Act → World → Prop} {Ke : Nat → Act → World → Prop} {Kr : Act → World → Prop}
theorem scE_cons {n t : Nat} {x : SV} (h : scE n env = true) (hx : x.lt n = true) : scE n ((t, x) :: env) = true := by
  unfold scE at h ⊢
  rw [List.all_cons, h, hx]
  rfl
theorem pre_kill : Pre n0 fx env its (kl its) := fun κ w S => ⟨[], by rw [List.append_nil]; exact S.kill⟩
theorem e_valE {o : Oper} {v : SV} (htt : TTOk P tt) (e : Evi) (q : List Int) (h : svE tt its (evS env) o.op e = some (v, q, q)) : Eff P N n0 fx env its o (some v) its := fun κ w S a ha => by
  obtain ⟨d, op, t, ps, af, g⟩ := o
  exact .inl ⟨_, w, svE_ok htt S.kno (fun x v h => evS_den h) h a ha, [], fun x hx => (by injection hx with hx; subst hx; rw [List.append_nil]), by rw [List.append_nil]; exact S⟩
section
variable {α : Type} {sz : Nat} {E : TypeId} {R : RT α} [GRep R]
/-- A row that is given up: it is only read from now on. -/
theorem pre_frz {i : Nat} {l : List α} (hi : its[i]? = some (.own sz E R l)) : Pre n0 fx env its (its.set i (.rd sz R l)) := fun κ w S => by
  refine ⟨[], ?_⟩
  rw [List.append_nil]
  obtain ⟨c, hc, hok⟩ := S.conc hi
  have hil : i < its.length := (List.getElem?_eq_some_iff.1 hi).1
  have hlen : (Lof its κ).length = its.length := by simp [Lof, S.len]
  have hL : ∀ (j b : Nat), (Lof (its.set i (.rd sz R l)) κ)[j]? = some (some b) → j ≠ i ∧ (Lof its κ)[j]? = some (some b) := by
    intro j b h
    by_cases e : j = i
    · subst e
      have h1 := Lof_get (its := its.set j (.rd sz R l)) (by rw [List.getElem?_set_self hil]) hc
      rw [h1] at h
      cases c <;> cases h
    · refine ⟨e, ?_⟩
      unfold Lof at h ⊢
      rw [List.getElem?_zipWith] at h ⊢
      rwa [List.getElem?_set_ne (fun h => e h.symm)] at h
  have hmem : ∀ b, some b ∈ Lof (its.set i (.rd sz R l)) κ → some b ∈ Lof its κ := by
    intro b hb
    obtain ⟨j, hj⟩ := List.getElem?_of_mem hb
    exact List.mem_of_getElem? (hL j b hj).2
  refine ⟨by simp [S.len], S.pre, S.n0, by simpa using S.sce, ?_, S.ctx.of id (fun j b h => (hL j b h).2) (fun _ _ _ _ _ e => e), fun j it c' h1 h2 => ?_⟩
  · unfold scI
    rw [List.length_set, List.all_eq_true]
    intro it hit
    have hs := S.sci
    unfold scI at hs
    rw [List.all_eq_true] at hs
    rcases List.mem_or_eq_of_mem_set hit with h | h
    · exact hs _ h
    · subst h; rfl
  · have hU : ∀ b, Mu fx.U0 (Lof (its.set i (.rd sz R l)) κ) b → Mu fx.U0 (Lof its κ) b := Mu.weaken hmem
    by_cases e : j = i
    · subst e
      rw [List.getElem?_set_self hil] at h1
      injection h1 with h1
      subst h1
      rw [hc] at h2
      injection h2 with h2
      subst h2
      cases c with
      | r A n c =>
        refine ⟨hok.1, hok.2.toSl (fun b hb hM => ?_) hU⟩
        have hLi := Lof_get hi hc
        simp only [own1, hb] at hLi
        rcases hM with h | h
        · exact (S.ctx.live b (List.mem_of_getElem? hLi)).2.1 h
        · obtain ⟨k, hk⟩ := List.getElem?_of_mem h
          obtain ⟨h3, h4⟩ := hL k b hk
          exact S.ctx.sep k j b h3 h4 hLi
      | _ => exact hok.elim
    · rw [List.getElem?_set_ne (fun h => e h.symm)] at h1
      have hsc : it.lt κ.length = true := by
        have h3 := S.sci
        unfold scI at h3
        rw [List.all_eq_true] at h3
        rw [S.len]
        exact h3 _ (List.mem_of_getElem? h1)
      have := OK.ext (κx := []) hsc hU (S.ok j it c' h1 h2)
      rwa [List.append_nil] at this
/-- 'append' to nil. -/
theorem e_appn (htt : TTOk P tt) {d : Option Nat} {t : TypeId} {ps : String} {af : Array Edge} {g : Option (Nat × Bool)} {ty : TypeId} {x y : Operand} {by_ : Nat} {m l' : List α} {v : SV} (hx : evS env x = some vn) (hy : evS env y = some v) (hm : Sx its sz R m v)
    (ha : app by_ [] m = some l') (hT : (TRow tt ty E sz by_ && !its.any Item.ow) = true) :
    Eff P N n0 fx env its ⟨d, .call { callee := .builtin .append, args := #[x, y], argTypes := #[ty, ty] }, t, ps, af, g⟩ (some (vs its.length)) (its ++ [.own sz E R l']) := fun κ w S a haa => by
  simp only [Bool.and_eq_true, Bool.not_eq_true'] at hT
  obtain ⟨hT, how⟩ := hT
  obtain ⟨hu, ⟨info, z, hinf, h1, h2, h3, h4⟩, hpos, _⟩ := trow_get htt hT
  obtain ⟨B, nb, cb, hv, hnb, hs⟩ := hm.src S
  have hx' := evS_den (κ := κ) hx
  have hy' := evS_den (κ := κ) hy
  rw [hv] at hy'
  have hs' : Src sz R (Mu fx.U0 (none :: Lof its κ)) w B m := by
    obtain ⟨es, h5, h6⟩ := hs
    exact ⟨es, Els.step (fun _ _ _ => rfl) (fun b _ hb => Mu.weaken (fun b hb => by simpa using hb) b hb) _ _ h5, h6⟩
  refine Does.of_runW (rw_append (i := 0) (dt := []) (A := none) (c := 0) hu hinf h3 h1 h2 h4 hpos hx' hy' hnb Own.nil hs' ha rfl S.ctx.addNone.1) haa ?_
  rintro u w' ⟨A', c', rfl, ho', C, Tr⟩
  refine newOwn_st S how ⟨A', c', rfl, ho', C, ⟨Tr.size, fun b hb _ => Tr.block b hb (by simp [ob]), fun b hb => (by simp at hb), fun b hb hM => ?_⟩⟩
  exact Mu.weaken (fun b hb => by simpa using hb) b (Tr.mono b hb hM)
end
/-- Statements behind which elements of the call's own rows are forgotten. -/
theorem SC.rk (htt : TTOk P tt) {id : Nat} {os : List Oper} {y : Code} (env' : Env') (ch : List (Nat × TypeId × List Cell)) (evs : List Evi) (q : List Int)
    (h : simT N tt (fun _ => true) os.toArray os evs env its (env'.map (·.1)) = some (env', ch.foldl (fun i c => setB i c.1 c.2.1 c.2.2) (kl its), q, q)) (hk : SC P y Kn Ke Kr N n0 fx env' (ch.foldl (fun i c => setB i c.1 c.2.1 c.2.2) (kl its))) : SC P (.seq (.region id os.toArray false) y) Kn Ke Kr N n0 fx env its :=
  SC.seq (SC.reg (by
    have := SL.simX (rest := []) htt h (SL.nilThen hk)
    rwa [List.append_nil] at this))
theorem SL.simk (htt : TTOk P tt) (k : Nat) (env' : Env') (ch : List (Nat × TypeId × List Cell)) (evs : List Evi) (q : List Int)
    (h : simT N tt (fun _ => true) ops (rest.take k) evs env its (env'.map (·.1)) = some (env', ch.foldl (fun i c => setB i c.1 c.2.1 c.2.2) (kl its), q, q)) (hk : SL P ops (rest.drop k) Kn N n0 fx env' (ch.foldl (fun i c => setB i c.1 c.2.1 c.2.2) (kl its))) : SL P ops rest Kn N n0 fx env its := by
  have := SL.simX htt h hk
  rwa [List.take_append_drop] at this
/-- Guards that are decided. -/
theorem SL.yes {d : Option Nat} {op : Op} {t : TypeId} {ps : String} {af : Array Edge} {j : Nat} {b x : Bool} {s : Nat} (hj : (ops[j]?).bind (·.dst) = some s) (hs : lkE s env = some (vb x)) (hx : x = b)
    (h : SL P ops (⟨d, op, t, ps, af, none⟩ :: rest) Kn N n0 fx env its) : SL P ops (⟨d, op, t, ps, af, some (j, b)⟩ :: rest) Kn N n0 fx env its := fun κ w S => WL.yes hj (by have := lkE_den (κ := κ) hs; simpa [SV.den, Cell.den] using this) hx (h κ w S)
theorem SL.no {d : Nat} {op : Op} {t : TypeId} {ps : String} {af : Array Edge} {j : Nat} {b x : Bool} {s : Nat} (hj : (ops[j]?).bind (·.dst) = some s) (hs : lkE s env = some (vb x)) (hx : x = !b) (hd : Nat.blt d N = true)
    (h : SL P ops rest Kn N n0 fx ((d, .u []) :: env) its) : SL P ops (⟨some d, op, t, ps, af, some (j, b)⟩ :: rest) Kn N n0 fx env its := fun κ w S => WL.no hj (by have := lkE_den (κ := κ) hs; simpa [SV.den, Cell.den] using this) hx hd (h κ w (S.env (scE_cons S.sce rfl)))
theorem SL.no0 {op : Op} {t : TypeId} {ps : String} {af : Array Edge} {j : Nat} {b x : Bool} {s : Nat} (hj : (ops[j]?).bind (·.dst) = some s) (hs : lkE s env = some (vb x)) (hx : x = !b)
    (h : SL P ops rest Kn N n0 fx env its) : SL P ops (⟨none, op, t, ps, af, some (j, b)⟩ :: rest) Kn N n0 fx env its := fun κ w S => WL.no0 hj (by have := lkE_den (κ := κ) hs; simpa [SV.den, Cell.den] using this) hx (h κ w S)
theorem SL.noU {d : Nat} {op : Op} {t : TypeId} {ps : String} {af : Array Edge} {j : Nat} {b : Bool} {s : Nat} (hj : (ops[j]?).bind (·.dst) = some s) (hs : lkE s env = some (.u [])) (hd : Nat.blt d N = true)
    (h : SL P ops rest Kn N n0 fx ((d, .u []) :: env) its) : SL P ops (⟨some d, op, t, ps, af, some (j, b)⟩ :: rest) Kn N n0 fx env its := fun κ w S => WL.noU hj (lkE_den (κ := κ) hs) hd (h κ w (S.env (scE_cons S.sce rfl)))
theorem SL.pickt {d : Nat} {c x y : Operand} {t : TypeId} {ps : String} {af : Array Edge} {b : Bool} {v : SV} (hc : evS env c = some (vb b)) (hb : b = true) (hx : evS env x = some v) (hd : (Nat.blt d N) = true)
    (h : SL P ops rest Kn N n0 fx ((d, v) :: env) its) : SL P ops (⟨some d, .pick c x y, t, ps, af, none⟩ :: rest) Kn N n0 fx env its := fun κ w S => WL.val (rv_pick_t (evS_den hc) hb (evS_den hx)) hd (h κ w (S.env (scE_cons S.sce (evS_lt S.sce hx))))
theorem SL.pickf {d : Nat} {c x y : Operand} {t : TypeId} {ps : String} {af : Array Edge} {b : Bool} {v : SV} (hc : evS env c = some (vb b)) (hb : b = false) (hy : evS env y = some v) (hd : (Nat.blt d N) = true)
    (h : SL P ops rest Kn N n0 fx ((d, v) :: env) its) : SL P ops (⟨some d, .pick c x y, t, ps, af, none⟩ :: rest) Kn N n0 fx env its := fun κ w S => WL.val (rv_pick_f (evS_den hc) hb (evS_den hy)) hd (h κ w (S.env (scE_cons S.sce (evS_lt S.sce hy))))
/-! ### The same, for short texts -/
theorem A.at {a : Act} {js : List Jx} (h : A N n0 fx env its a w) (e : (renE js env', renIs js its', vwB n0 its.length js env' its' (lkEs env env') (srcs its js its')) = (lkEs env env', srcs its js its', true)) : A N n0 fx env' its' a w := by
  injection e with h1 e
  injection e with h2 h3
  exact h.to js (by rw [h1, h2]) h3
/-- What a piece of code ends in, put in between. -/
theorem SC.mid {c : Code} (J : Act → World → Prop) (h : SC P c J Ke Kr N n0 fx env its) (h2 : ∀ a w, J a w → Kn a w) : SC P c Kn Ke Kr N n0 fx env its := fun κ w S a ha =>
  wp_mono (h κ w S a ha) fun e a w hq => by
    cases e
    case normal => exact h2 a w hq
    all_goals exact hq
theorem A.re {a : Act} {fn : Func} {rs : SV} {js : List Jx} (htt : TTOk P tt) (h : A N n0 fx env its a w) (e : ((renS js rs, (renS js rs).isSome), renIs js its', vwB n0 its.length js [(0, rs)] its' (some []) (srcs its js its')) = (((resS tt env its fn.results.toList).bind retS, true), srcs its js its', true)) : RetE P fn n0 fx rs its' a w := by
  injection e with h1 e
  injection e with h2 h3
  exact A.ret htt h js (by rw [h1, h2]) h3
theorem SC.re {fn : Func} {rs : SV} {js : List Jx} (htt : TTOk P tt) (e : ((renS js rs, (renS js rs).isSome), renIs js its', vwB n0 its.length js [(0, rs)] its' (some []) (srcs its js its')) = (((resS tt env its fn.results.toList).bind retS, true), srcs its js its', true)) : SC P .ret Kn Ke (RetE P fn n0 fx rs its') N n0 fx env its := fun κ _ S =>
  WC.ret fun _ ha => A.re htt ⟨κ, ha, S⟩ e
theorem SC.loop {c : Code} (G : Nat → Act → World → Prop) (n1 : Nat) (h0 : ∀ a w, A N n0 fx env its a w → G n1 a w) (round : ∀ n a w, G n a w → wp3 P fx.px c (fun a w => ∃ m, m < n ∧ G m a w) Ke Kr a w) : SC P (.loop c) Kn Ke Kr N n0 fx env its := fun κ w S =>
  WC.loop G n1 (fun a ha => h0 a w ⟨κ, ha, S⟩) round
theorem e_c {f : FuncId} {o : Oper} {asC : List SV} {itsC itsC' : List Item} {rsC : SV} (hc : ∀ args w, (callFunc f args).run P w = .ok (.enter f args) w) (spec : Spec P f asC itsC rsC itsC') (js : List Jx) (as : List SV) (v : SV)
    (e : (((calE env o.op, renIs js itsC), shS its.length itsC.length js rsC), renSs js asC, cB its js asC itsC, cB2 (backI js itsC itsC' its) v) = (((some (f, as), srcs its js itsC), some v), some as, true, true)) (hF : hasL js = false ∨ FlatA itsC.length itsC') :
    Eff P N n0 fx env its o (some v) ((backI js itsC itsC' its).getD []) := by
  injection e with h1 e
  injection e with h2 e
  injection e with h3 h4
  exact e_call hc spec js v (by rw [h1, h2]; rfl) h2 h3 h4 hF
end
end V
end Go.Proofs.YtladkmnfmpojiaaGreatDoor
namespace Go.Proofs.YtladkmnfmpojiaaGreatDoor
namespace V
def allB : List Bool → Bool
  | [] => true
  | [b] => b
  | b :: r => b && allB r
theorem allB_cons (b : Bool) (r : List Bool) : allB (b :: r) = (b && allB r) := by cases r <;> simp [allB]
theorem allB_append : ∀ (a b : List Bool), allB (a ++ b) = (allB a && allB b)
  | [], b => by simp [allB]
  | x :: a, b => by rw [List.cons_append, allB_cons, allB_cons, allB_append a b, Bool.and_assoc]
def eqFs (P : Program) (tt : TT) (eq : TypeId → List Cell → List Cell → Option (List Bool)) (cs ds : List Cell) : List Field → Option (List Bool)
  | [] => some []
  | f :: fs => match f.name != "_", lkT f.type tt with
    | true, some ti => (match eq f.type ((cs.drop f.offset).take ti.size) ((ds.drop f.offset).take ti.size), eqFs P tt eq cs ds fs with
      | some a, some b => some (a ++ b)
      | _, _ => none)
    | _, _ => none
def eqT (P : Program) (tt : TT) : Nat → TypeId → List Cell → List Cell → Option (List Bool)
  | 0, _, _, _ => none
  | d + 1, t, cs, ds => match lkT t tt with
    | some ⟨.int _, _, _, _, _⟩ => (match cs, ds with
      | [.v (.int k a)], [.v (.int k' b)] => (match keq k k' with
        | true => some [a == b]
        | false => none)
      | _, _ => none)
    | some ⟨.bool, _, _, _, _⟩ => (match cs, ds with
      | [.v (.bool a)], [.v (.bool b)] => some [a == b]
      | _, _ => none)
    | some ⟨.struct fs, _, _, _, _⟩ => (match P.stoodInHeld t with
      | false => eqFs P tt (eqT P tt d) cs ds fs.toList
      | true => none)
    | _ => none
/-- The value that cells of type t make. -/
def wrapT (tt : TT) (t : TypeId) (vs : List Value) : Value := match lkT t tt with
  | some ⟨.struct _, _, _, _, _⟩ => .agg vs.toArray
  | _ => (vs[0]?).getD undef
section
variable {P : Program} {N n0 : Nat} {fx : Fx} {its its' : List Item} {κ : List Conc} {w : World} {env env' : Env'} {tt : TT}
theorem part_ok (htt : TTOk P tt) {t : TypeId} {ti : TI} (ht : lkT t tt = some ti) {vs us : List Value} {off : Nat} (hag : ti.agg = (match ti.und with | .struct _ => true | _ => false)) (hl : (vs.drop off).take ti.size = us) (hne : ti.agg = false → ∃ v, us = [v]) : (part t vs.toArray off).run P w = .ok (wrapT tt t us) w := by
  have hA := (htt.get ht).agg w
  have hS := (htt.get ht).size w
  unfold part
  simp only [Sem.run_bind, hA, Result.andThen_ok]
  cases hb : ti.agg with
  | true =>
    simp only [if_true, Sem.run_bind, hS, Result.andThen_ok, Sem.run_pure]
    unfold wrapT
    rw [ht]
    obtain ⟨und, a, sz, z, by'⟩ := ti
    simp only at hb hag hl
    rw [hb] at hag
    cases und <;> simp at hag
    simp only
    congr 2
    apply Array.ext'
    rw [← hl]
    simp [List.extract, Nat.add_sub_cancel_left]
  | false =>
    obtain ⟨v, hv⟩ := hne hb
    have hg : vs[off]? = some v := by
      rw [hv] at hl
      have := congrArg (·[0]?) hl
      simp only [List.getElem?_take, List.getElem?_drop, Nat.add_zero, List.getElem?_cons_zero] at this
      split at this
      · exact this
      · cases this
    simp only [Bool.false_eq_true, if_false]
    have : vs.toArray[off]? = some v := by simpa using hg
    rw [this]
    unfold wrapT
    rw [ht]
    obtain ⟨und, a, sz, z, by'⟩ := ti
    simp only at hb hag
    rw [hb] at hag
    cases und <;> simp at hag <;> simp [hv]
theorem eqFs_ok (htt : TTOk P tt) {eq : TypeId → List Cell → List Cell → Option (List Bool)} {D : Nat} (hag : tt.all (fun p => beqB p.2.agg (match p.2.und with | .struct _ => true | .array _ _ => true | _ => false)) = true)
    (heq : ∀ t cs ds bs, eq t cs ds = some bs → (∀ ti, lkT t tt = some ti → (∀ n e, ti.und ≠ .array n e) ∧ (ti.agg = false → ∃ c d, cs = [c] ∧ ds = [d])) ∧ (Op.equalIn D t (wrapT tt t (cs.map (Cell.den κ))) (wrapT tt t (ds.map (Cell.den κ)))).run P w = .ok (allB bs) w) (cs ds : List Cell) :
    ∀ (fs : List Field) (bs : List Bool), eqFs P tt eq cs ds fs = some bs → (Op.eqFields D (cs.map (Cell.den κ)).toArray (ds.map (Cell.den κ)).toArray fs).run P w = .ok (allB bs) w
  | [], bs, h => by
    simp only [eqFs, Option.some.injEq] at h
    subst h
    simp [Op.eqFields, allB]
  | f :: fs, bs, h => by
    simp only [eqFs] at h
    split at h
    · rename_i ti hn ht
      split at h
      · rename_i a b ha hb
        injection h with h; subst h
        obtain ⟨h1, h2⟩ := heq _ _ _ _ ha
        obtain ⟨h3, h4⟩ := h1 ti ht
        have hg : ti.agg = (match ti.und with | .struct _ => true | _ => false) := by
          have hm : ∀ {l : TT}, lkT f.type l = some ti → l.all (fun p => beqB p.2.agg (match p.2.und with | .struct _ => true | .array _ _ => true | _ => false)) = true → beqB ti.agg (match ti.und with | .struct _ => true | .array _ _ => true | _ => false) = true := by
            intro l
            induction l with
            | nil => intro h; cases h
            | cons q l ih =>
              obtain ⟨t0, ti0⟩ := q
              intro h h'
              simp only [List.all_cons, Bool.and_eq_true] at h'
              simp only [lkT] at h
              cases hb : Nat.beq f.type t0 with
              | true => rw [hb] at h; simp only [Option.some.injEq] at h; subst h; exact h'.1
              | false => rw [hb] at h; exact ih h h'.2
          have := beqB_eq (hm ht hag)
          rw [this]
          cases hu : ti.und <;> first | rfl | exact absurd hu (h3 _ _)
        have hn' : f.name ≠ "_" := by simpa using hn
        have p1 := part_ok (w := w) htt ht (vs := cs.map (Cell.den κ)) (off := f.offset) hg rfl (fun hf => by
          obtain ⟨c, d, hc, _⟩ := h4 hf
          exact ⟨c.den κ, by rw [← List.map_drop, ← List.map_take, hc]; rfl⟩)
        have p2 := part_ok (w := w) htt ht (vs := ds.map (Cell.den κ)) (off := f.offset) hg rfl (fun hf => by
          obtain ⟨c, d, _, hd⟩ := h4 hf
          exact ⟨d.den κ, by rw [← List.map_drop, ← List.map_take, hd]; rfl⟩)
        rw [← List.map_drop, ← List.map_take] at p1 p2
        simp only [Op.eqFields, hn', ne_eq, not_false_eq_true, if_true, Sem.run_bind, p1, p2, h2, Result.andThen_ok, allB_append]
        cases allB a
        · simp
        · simpa using eqFs_ok htt hag heq cs ds fs b hb
      · cases h
    · cases h
theorem eqT_ok (htt : TTOk P tt) (hag : tt.all (fun p => beqB p.2.agg (match p.2.und with | .struct _ => true | .array _ _ => true | _ => false)) = true) : ∀ (d D : Nat) (t : TypeId) (cs ds : List Cell) (bs : List Bool), eqT P tt d t cs ds = some bs →
    (∀ ti, lkT t tt = some ti → (∀ n e, ti.und ≠ .array n e) ∧ (ti.agg = false → ∃ c d, cs = [c] ∧ ds = [d])) ∧ (Op.equalIn (D + d) t (wrapT tt t (cs.map (Cell.den κ))) (wrapT tt t (ds.map (Cell.den κ)))).run P w = .ok (allB bs) w
  | 0, D, t, cs, ds, bs, h => by cases h
  | d + 1, D, t, cs, ds, bs, h => by
    unfold eqT at h
    split at h
    · rename_i q _ _ _ _ ht
      split at h
      · rename_i k a k' b
        split at h
        · rename_i hk
          have := keq_eq hk
          subst this
          injection h with h; subst h
          refine ⟨fun ti hti => ?_, ?_⟩
          · rw [ht] at hti
            injection hti with hti
            subst hti
            exact ⟨fun n e => by simp, fun _ => ⟨_, _, rfl, rfl⟩⟩
          · unfold wrapT
            rw [ht]
            exact run_equalIn_int w (D + d) t k q a b (htt.get ht).und
        · cases h
      · cases h
    · rename_i _ _ _ _ ht
      split at h
      · rename_i a b
        injection h with h; subst h
        refine ⟨fun ti hti => ?_, ?_⟩
        · rw [ht] at hti
          injection hti with hti
          subst hti
          exact ⟨fun n e => by simp, fun _ => ⟨_, _, rfl, rfl⟩⟩
        · unfold wrapT
          rw [ht]
          exact run_equalIn_bool' w (D + d) t a b (htt.get ht).und
      · cases h
    · rename_i fs ag sz0 z0 by0 ht
      split at h
      · rename_i hst
        refine ⟨fun ti hti => ?_, ?_⟩
        · rw [ht] at hti
          injection hti with hti
          subst hti
          refine ⟨fun n e => by simp, fun hf => ?_⟩
          exfalso
          have hm : ∀ {l : TT}, lkT t l = some ⟨.struct fs, ag, sz0, z0, by0⟩ → l.all (fun p => beqB p.2.agg (match p.2.und with | .struct _ => true | .array _ _ => true | _ => false)) = true → beqB ag true = true := by
            intro l
            induction l with
            | nil => intro h; cases h
            | cons q l ih =>
              obtain ⟨t0, ti0⟩ := q
              intro h h'
              simp only [List.all_cons, Bool.and_eq_true] at h'
              simp only [lkT] at h
              cases hb : Nat.beq t t0 with
              | true => rw [hb] at h; simp only [Option.some.injEq] at h; subst h; exact h'.1
              | false => rw [hb] at h; exact ih h h'.2
          have := beqB_eq (hm ht hag)
          simp only at hf
          rw [hf] at this
          cases this
        · have hu := (htt.get ht).und
          have hfs : P.fieldsOf t = fs := by simp [Program.fieldsOf, hu]
          have hw : ∀ l : List Cell, wrapT tt t (l.map (Cell.den κ)) = .agg (l.map (Cell.den κ)).toArray := fun l => by
            unfold wrapT
            rw [ht]
          rw [hw, hw]
          have := run_equalIn_struct w (D + d) t (cs.map (Cell.den κ)).toArray (ds.map (Cell.den κ)).toArray (by rw [hfs]; exact hu) hst
          rw [show D + (d + 1) = D + d + 1 from rfl, this, hfs]
          exact eqFs_ok htt hag (fun t cs ds bs h => eqT_ok htt hag d D t cs ds bs h) cs ds fs.toList bs h
      · cases h
    · cases h
theorem e_eqs (htt : TTOk P tt) {d : Option Nat} {t : TypeId} {ps : String} {af : Array Edge} {g : Option (Nat × Bool)} {op : BinOp} {ty ty2 : TypeId} {x y : Operand} {cs ds : List Cell} (bs : List Bool) (v : Bool) (hx : evS env x = some (.g cs)) (hy : evS env y = some (.g ds)) (hg : P.eqGuardType P.depth ty = false)
    (hag : (tt.all (fun p => beqB p.2.agg (match p.2.und with | .struct _ => true | .array _ _ => true | _ => false)), (lkT ty tt).map fun ti => (match ti.und with | .struct _ => true | _ => false)) = (true, some true)) (he : eqT P tt 100 ty cs ds = some bs) (hv : (op = .eql ∧ allB bs = v) ∨ (op = .neq ∧ (!allB bs) = v)) :
    Eff P N n0 fx env its ⟨d, .binOp op ty x y ty2, t, ps, af, g⟩ (some (vb v)) its := fun κ w S a ha => by
  injection hag with hag1 hag2
  have hx' := evS_den (κ := κ) hx
  have hy' := evS_den (κ := κ) hy
  have hr := (eqT_ok (κ := κ) (w := w) htt hag1 100 9900 ty cs ds bs he).2
  have hw : ∀ l : List Cell, wrapT tt ty (l.map (Cell.den κ)) = .agg (l.map (Cell.den κ)).toArray := fun l => by
    unfold wrapT
    cases hl : lkT ty tt with
    | none => rw [hl] at hag2; cases hag2
    | some ti =>
      obtain ⟨und, _, _, _, _⟩ := ti
      rw [hl] at hag2
      cases und <;> first | rfl | (simp at hag2)
  rw [hw, hw] at hr
  simp only [SV.den] at hx' hy'
  have hguard : ∀ o : BinOp, (eqGuard o ty x y (Value.agg (cs.map (Cell.den κ)).toArray) (Value.agg (ds.map (Cell.den κ)).toArray)).run P w = .ok () w := by
    intro o
    unfold eqGuard
    cases o <;> simp [hg, Go.program, Sem.run]
  refine .inl ⟨_, w, ?_, [], fun z hz => (by injection hz with hz; subst hz; rfl), by rw [List.append_nil]; exact S⟩
  rcases hv with ⟨rfl, hv⟩ | ⟨rfl, hv⟩
  · simp only [execOp, ha.ev hx', ha.ev hy', Sem.run_bind, hguard, Result.andThen_ok, binOp, Op.equal, Op.maxDepth, hr, Sem.run_pure]
    rw [hv]
    rfl
  · simp only [execOp, ha.ev hx', ha.ev hy', Sem.run_bind, hguard, Result.andThen_ok, binOp, Op.equal, Op.maxDepth, hr, Sem.run_pure]
    rw [hv]
    rfl
end
end V
end Go.Proofs.YtladkmnfmpojiaaGreatDoor
namespace Go.Proofs.YtladkmnfmpojiaaGreatDoor
namespace V
/-- Whether the slice of item i was nil when the function was entered. -/
def nilAt (fx : Fx) (i : Nat) : Bool := match fx.κ0[i]? with
  | some (.r none _ _) => true
  | _ => false
section
variable {P : Program} {N n0 : Nat} {fx : Fx} {its its' : List Item} {κ : List Conc} {w : World} {tt : TT} {env : Env'}
theorem St.at0 {i : Nat} (S : St n0 fx env its κ w) (hi : Nat.blt i n0 = true) : fx.κ0[i]? = κ[i]? := by
  have := S.pre
  rw [← this, List.getElem?_take_of_lt (by simpa using hi)]
theorem nil_empty {α : Type} {sz : Nat} {R : RT α} [GRep R] {l : List α} {i : Nat} (S : St n0 fx env its κ w) (hi : Nat.blt i n0 = true) (hm : its[i]? = some (.rd sz R l)) (hz : 0 < sz) (h : nilAt fx i = true) : l = [] := by
  unfold nilAt at h
  rw [S.at0 hi] at h
  split at h
  · rename_i n c hk
    obtain ⟨hn, hc, hc2, es, hE, hM⟩ := S.ok i _ _ hm hk
    have he : es = [] := by
      cases es with
      | nil => rfl
      | cons u es =>
        obtain ⟨ad, h1, _⟩ := hM 0 u rfl
        cases h1
    subst he
    have hl := Els.length l [] hE
    cases l with
    | nil => rfl
    | cons x l =>
      simp only [List.length_nil, List.length_cons, Nat.succ_mul] at hl
      omega
  · cases h
theorem run_equal_nil {t E : TypeId} {A : Option Addr} {n c m q : Nat} (hu : P.underlying t = some (.slice E)) (w : World) (d : Nat) : (Op.equalIn (d + 1) t (.slice A n c) (.slice none m q)).run P w = .ok A.isNone w := by
  unfold Op.equalIn
  rw [Sem.run_bind, show (underlying t).run P w = .ok (.slice E) w from run_underlying hu w, Result.andThen_ok]
  cases A <;> rfl
theorem e_isnil {α : Type} {sz : Nat} {R : RT α} [GRep R] {l : List α} (htt : TTOk P tt) {d : Option Nat} {t : TypeId} {ps : String} {af : Array Edge} {g : Option (Nat × Bool)} {ty ty2 : TypeId} {x y : Operand} {i : Nat} (hx : evS env x = some (vs i)) (hy : evS env y = some vn) (hi : Nat.blt i n0 = true) (hm : its[i]? = some (.rd sz R l))
    (hT : (match lkT ty tt with
      | some ⟨.slice _, _, _, _, _⟩ => true
      | _ => false) = true) : Eff P N n0 fx env its ⟨d, .binOp .eql ty x y ty2, t, ps, af, g⟩ (some (vb (nilAt fx i))) its := fun κ w S a ha => by
  split at hT
  · rename_i E _ _ _ _ hl
    have hu := (htt.get hl).und
    have hx' := evS_den (κ := κ) hx
    have hy' := evS_den (κ := κ) hy
    have hlt : i < κ.length := by rw [S.len]; exact (List.getElem?_eq_some_iff.1 hm).1
    obtain ⟨c, hk⟩ : ∃ c, κ[i]? = some c := ⟨κ[i], List.getElem?_eq_getElem hlt⟩
    have hok := S.ok i _ _ hm hk
    have hn : nilAt fx i = (match κ[i]? with
      | some (.r none _ _) => true
      | _ => false) := by unfold nilAt; rw [S.at0 hi]
    cases c with
    | r A n c =>
      rw [hk] at hn
      simp only [SV.den, Cell.den, hk] at hx' hy'
      refine .inl ⟨.bool (nilAt fx i), w, ?_, [], fun z hz => (by injection hz with hz; subst hz; rfl), by rw [List.append_nil]; exact S⟩
      have hr := run_equal_nil (A := A) (n := n) (c := c) (m := 0) (q := 0) hu w 9999
      have hg : (eqGuard .eql ty x y (Value.slice A n c) (Value.slice none 0 0)).run P w = .ok () w := by
        unfold eqGuard
        rfl
      have hb : A.isNone = nilAt fx i := by rw [hn]; cases A <;> rfl
      simp only [execOp, ha.ev hx', ha.ev hy', Sem.run_bind, hg, Result.andThen_ok, binOp, Op.equal, Op.maxDepth, hr, Sem.run_pure]
      rw [hb]
    | _ => exact hok.elim
  · cases hT
end
section
variable {P : Program} {Kn : Act → World → Prop} {Ke : Nat → Act → World → Prop} {Kr : Act → World → Prop} {N n0 : Nat} {fx : Fx} {env : Env'} {its : List Item}
theorem SC.nilFact {c : Code} {α : Type} {sz : Nat} {R : RT α} [GRep R] {l : List α} (i : Nat) (hi : Nat.blt i n0 = true) (hm : its[i]? = some (.rd sz R l)) (hz : 0 < sz) (h : (nilAt fx i = true → l = []) → SC P c Kn Ke Kr N n0 fx env its) : SC P c Kn Ke Kr N n0 fx env its := fun κ w S =>
  h (nil_empty S hi hm hz) κ w S
end
end V
end Go.Proofs.YtladkmnfmpojiaaGreatDoor
