/-
  Ranges over a function: rounds run inside the iterator's walk.
-/
import Derived.Test.YtladkmnfmpojiaaGreatDoorLh
import Derived.RangeFuncRecord
import Derived.TacticsIn
namespace Go.Proofs.YtladkmnfmpojiaaGreatDoor
namespace V

/-! ### Fences -/
abbrev FR (ro : Option Nat) : Fence := { Fence.wide with round := ro }
theorem room_FR (ro : Option Nat) (n : Nat) : (FR ro).room n := fun _ h => by cases h
theorem callsIn_FR {ro : Option Nat} {n : Nat} {P : Program} {f : FuncId} {args : Array Value} {w : World} {R : Ending → World → Prop} (h : Calls P f args w R) : CallsIn (FR ro) n P f args w R :=
  ⟨trivial, fun cs _ => ((callsIn_wide (n := n)).2 h).2 cs (room_wide _)⟩
theorem rowsIn_FR {ro : Option Nat} {n : Nat} {P : Program} {row : String} {args : Array Value} {w : World} {R : Value → World → Prop} (h : Rows P row args w R) : RowsIn (FR ro) n P row args w R :=
  fun c cs _ => let ⟨v, w', r, s⟩ := h c cs; ⟨v, w', r, stepsIn_wide.2 s⟩
def noDef : List Oper → Bool
  | [] => true
  | o :: r => (match o.op with
    | .defer _ => false
    | _ => true) && noDef r
theorem noDef_ne {o : Oper} {r : List Oper} (h : noDef (o :: r) = true) : (∀ c, o.op ≠ .defer c) ∧ noDef r = true := by
  simp only [noDef, Bool.and_eq_true] at h
  refine ⟨fun c hc => ?_, h.2⟩
  rw [hc] at h
  exact absurd h.1 (by simp)
/-- A list that is walked anywhere is walked in a round, and beside marks among the deferred calls. -/
theorem xfer0 {P : Program} {ops : Array Oper} {Kn : Act → World → Prop} (ro : Option Nat) (ds : List Deferred) :
    ∀ (rest : List Oper) (a : Act) (w : World), noDef rest = true → wpList P ops (fun e a w => e = .normal ∧ Kn a w) rest a w →
      wpListIn (FR ro) 0 P ops (fun e a w => e = .normal ∧ ∃ a0, a = { a0 with defers := a0.defers ++ ds } ∧ Kn a0 w) rest { a with defers := a.defers ++ ds } w
  | [], a, w, _, h => ⟨rfl, a, rfl, h.2⟩
  | o :: rest, a, w, hd, h => by
    obtain ⟨hne, hd⟩ := noDef_ne hd
    have ih := fun (a' : Act) (w' : World) (h' : wpList P ops (fun e a w => e = .normal ∧ Kn a w) rest a' w') => xfer0 ro ds rest a' w' hd h'
    unfold wpList at h
    unfold wpListIn
    have hev : ({ a with defers := a.defers ++ ds } : Act).eval = a.eval := by
      funext x; cases x <;> rfl
    have hput : ∀ v, ({ a with defers := a.defers ++ ds } : Act).put o.dst v = { (a.put o.dst v) with defers := (a.put o.dst v).defers ++ ds } := fun v => by
      cases o.dst <;> rfl
    split at h
    · rename_i hw
      rw [if_pos hw]
      rcases h with h | ⟨_, a', w', h⟩
      · unfold Oper.wp at h
        unfold Oper.wpIn
        refine ⟨fun _ _ => trivial, ?_⟩
        rw [Oper.semAt_eq _ _ _ hne, hev]
        generalize (execOp a.eval o).run P w = r at *
        cases r with
        | ok n w' =>
          cases n <;> simp only [Oper.upon, Oper.uponIn] at h ⊢ <;>
            first
              | exact h.elim
              | (rw [hput]; exact ih _ _ h)
              | (have := ih _ _ h
                 revert this
                 cases o.dst <;> exact id)
              | (refine ⟨(fun h => by cases h), callsIn_FR (Calls.mono h fun e w'' he => ?_)⟩
                 cases e with
                 | returned v => simp only at he ⊢; rw [hput]; exact ih _ _ he
                 | panicked c => exact absurd he.1 (by simp)
                 | outgrown => obtain ⟨_, _, h0, _⟩ := he; exact absurd h0 (by simp))
              | (refine ⟨(fun h => by cases h), rowsIn_FR (Rows.mono h fun v w'' he => ?_)⟩
                 rw [hput]; exact ih _ _ he)
        | halt x w' => cases x <;> simp only [Oper.upon] at h <;> first | exact h.elim | exact absurd h.1 (by simp)
      · exact absurd h.1 (by simp)
    · rename_i hw
      rw [if_neg hw, hput]
      exact ⟨fun _ _ => trivial, ih _ _ h⟩
abbrev NP : Value → World → Prop := fun _ _ => False
theorem qn_no {px : Value → World → Prop} {Kn : Act → World → Prop} (hnp : ∀ v w, ¬ px v w) : QN px Kn = fun e a w => e = .normal ∧ Kn a w := by
  funext e a w
  apply propext
  constructor
  · rintro (h | ⟨v, _, _, h⟩)
    · exact h
    · exact (hnp v w h).elim
  · exact .inl
theorem xfer {P : Program} {ops : Array Oper} {Kn : Act → World → Prop} {px : Value → World → Prop} (hnp : ∀ v w, ¬ px v w) (ro : Option Nat) (ds : List Deferred) (rest : List Oper) (a : Act) (w : World) (hd : noDef rest = true) (h : wpList P ops (QN px Kn) rest a w) :
    wpListIn (FR ro) 0 P ops (fun e a w => e = .normal ∧ ∃ a0, a = { a0 with defers := a0.defers ++ ds } ∧ Kn a0 w) rest { a with defers := a.defers ++ ds } w := xfer0 ro ds rest a w hd (by rwa [qn_no hnp] at h)
theorem wpListIn_cut {ro : Option Nat} {P : Program} {ops : Array Oper} {J Kn : Act → World → Prop} (r2 : List Oper) (h2 : ∀ a w, J a w → wpListIn (FR ro) 0 P ops (fun e a w => e = .normal ∧ Kn a w) r2 a w) :
    ∀ (r1 : List Oper) (a : Act) (w : World), wpListIn (FR ro) 0 P ops (fun e a w => e = .normal ∧ J a w) r1 a w → wpListIn (FR ro) 0 P ops (fun e a w => e = .normal ∧ Kn a w) (r1 ++ r2) a w
  | [], a, w, h => h2 a w h.2
  | o :: r1, a, w, h => by
    have ih := wpListIn_cut r2 h2 r1
    simp only [List.cons_append]
    unfold wpListIn at h ⊢
    split at h
    · rename_i hw
      rw [if_pos hw]
      unfold Oper.wpIn at *
      refine ⟨h.1, ?_⟩
      have h := h.2
      generalize (o.semAt (FR ro).round a.eval).run P w = r at *
      cases r with
      | ok n w' =>
        cases n <;> simp only [Oper.uponIn] at h ⊢ <;>
          first
            | exact h.elim
            | exact ih _ _ h
            | (refine ⟨h.1, CallsIn.mono h.2 fun e w'' he => ?_⟩
               cases e with
               | returned v => exact ih _ _ he
               | panicked c => exact absurd he.1 (by simp)
               | outgrown => obtain ⟨_, _, h0, _⟩ := he; exact absurd h0 (by simp))
            | exact ⟨h.1, RowsIn.mono h.2 fun _ _ he => ih _ _ he⟩
            | (refine ⟨h.1, RoundIn.mono h.2 fun e w'' he => ?_⟩
               cases e with
               | returned v => exact ih _ _ he
               | panicked c => exact absurd he.1 (by simp)
               | outgrown => obtain ⟨_, _, h0, _⟩ := he; exact absurd h0 (by simp))
      | halt x w' => cases x <;> simp only [Oper.uponIn] at h <;> first | exact h.elim | exact absurd h.1 (by simp)
    · rename_i hw
      rw [if_neg hw]
      exact ⟨h.1, ih _ _ h.2⟩

/-! ### Judgements -/
/-- Code in a round. -/
def SCI (ro : Option Nat) (P : Program) (c : Code) (Kn : Act → World → Prop) (Ke : Nat → Act → World → Prop) (Kr : Act → World → Prop) (N n0 : Nat) (fx : Fx) (env : Env') (its : List Item) : Prop :=
  ∀ κ w, St n0 fx env its κ w → ∀ a, Holds N (denE κ env) a → c.wpIn (FR ro) 0 P (post3 NP Kn Ke Kr) a w
/-- Operations in a round. -/
def SLI (ro : Option Nat) (P : Program) (ops : Array Oper) (rest : List Oper) (Kn : Act → World → Prop) (N n0 : Nat) (fx : Fx) (env : Env') (its : List Item) : Prop :=
  ∀ κ w, St n0 fx env its κ w → ∀ a, Holds N (denE κ env) a → wpListIn (FR ro) 0 P ops (fun e a w => e = .normal ∧ Kn a w) rest a w
section
variable {ro : Option Nat} {P : Program} {N n0 : Nat} {fx : Fx} {its its' : List Item} {κ : List Conc} {w : World} {env env' : Env'} {js : List Jx} {tt : TT} {ops : Array Oper} {rest : List Oper} {Kn : Act → World → Prop} {Ke : Nat → Act → World → Prop} {Kr : Act → World → Prop}
theorem SLI.of (hnp : ∀ v w, ¬ fx.px v w) (h : SL P ops rest Kn N n0 fx env its) (hd : noDef rest = true) : SLI ro P ops rest Kn N n0 fx env its := fun κ w S a ha => by
  have := xfer hnp ro [] rest a w hd (h κ w S a ha)
  simp only [List.append_nil] at this
  have e : (fun (e : Exit) (a : Act) (w : World) => e = .normal ∧ ∃ a0 : Act, a = { a0 with defers := a0.defers } ∧ Kn a0 w) = fun e a w => e = .normal ∧ Kn a w := by
    funext e a w
    apply propext
    constructor
    · rintro ⟨h1, a0, rfl, h2⟩; exact ⟨h1, h2⟩
    · rintro ⟨h1, h2⟩; exact ⟨h1, a, rfl, h2⟩
  rw [e] at this
  exact this
theorem A.goI {c : Code} {a : Act} (h : A N n0 fx env its a w) (hc : SCI ro P c Kn Ke Kr N n0 fx env its) : c.wpIn (FR ro) 0 P (post3 NP Kn Ke Kr) a w := by
  obtain ⟨κ, h1, h2⟩ := h
  exact hc κ w h2 a h1
theorem A.goLI {a : Act} (h : A N n0 fx env its a w) (hc : SLI ro P ops rest Kn N n0 fx env its) : wpListIn (FR ro) 0 P ops (fun e a w => e = .normal ∧ Kn a w) rest a w := by
  obtain ⟨κ, h1, h2⟩ := h
  exact hc κ w h2 a h1
theorem SCI.regI {id : Nat} {os : List Oper} (h : SLI ro P os.toArray os Kn N n0 fx env its) : SCI ro P (.region id os.toArray false) Kn Ke Kr N n0 fx env its := fun κ w S a ha => by
  refine wpIn_mono (wpIn_region_lit (h κ w S a ha)) fun e a w hq => ?_
  obtain ⟨rfl, hq⟩ := hq
  exact hq
theorem SCI.reg {id : Nat} {os : List Oper} (hnp : ∀ v w, ¬ fx.px v w) (h : SL P os.toArray os Kn N n0 fx env its) (hd : noDef os = true) : SCI ro P (.region id os.toArray false) Kn Ke Kr N n0 fx env its := SCI.regI (SLI.of hnp h hd)
/-- A region with a round in it. -/
theorem SC.regI {id : Nat} {os : List Oper} (h : SLI none P os.toArray os Kn N n0 fx env its) : SC P (.region id os.toArray false) Kn Ke Kr N n0 fx env its := fun κ w S a ha =>
  wp_mono ((wpIn_wide (n := 0)).1 (SCI.regI (Ke := Ke) (Kr := Kr) h κ w S a ha)) fun e a w hq => by
    cases e
    case panic => obtain ⟨_, _, _, hf⟩ := hq; exact hf.elim
    all_goals exact hq
theorem SCI.cut {x y : Code} (J : Act → World → Prop) (h : SCI ro P x J Ke Kr N n0 fx env its) (h2 : ∀ a w, J a w → y.wpIn (FR ro) 0 P (post3 NP Kn Ke Kr) a w) : SCI ro P (.seq x y) Kn Ke Kr N n0 fx env its := fun κ w S a ha => by
  refine wpIn_seq (wpIn_mono (h κ w S a ha) fun e a w hq => ?_)
  cases e
  case normal => exact h2 a w hq
  all_goals exact hq
theorem SCI.skipJ (h : ∀ a w, A N n0 fx env its a w → Kn a w) : SCI ro P .skip Kn Ke Kr N n0 fx env its := fun κ w hS a ha => wpIn_skip (h a w ⟨κ, ha, hS⟩)
theorem SCI.block {i : Nat} {c : Code} (h : SCI ro P c Kn (inB i Kn Ke) Kr N n0 fx env its) : SCI ro P (.block i c) Kn Ke Kr N n0 fx env its := fun κ w S a ha => by
  refine wpIn_block (wpIn_mono (h κ w S a ha) fun e a w hq => ?_)
  cases e
  case exit j =>
    simp only [Exit.inBlock, post3, inB] at hq ⊢
    by_cases e : j = i
    · subst e
      simpa using hq
    · have hb : Nat.beq j i = false := by
        cases hc : Nat.beq j i with
        | false => rfl
        | true => exact absurd (Nat.eq_of_beq_eq_true hc) e
      rw [hb] at hq
      simpa [e] using hq
  all_goals exact hq
theorem SCI.if' {c : Operand} {x y : Code} {α : Type} {e : Bool} {X Y : Option α} {r : α} (hc : evS env c = some (vb e)) (hp : (if e = true then X else Y) = some r) (ht : X = some r → SCI ro P x Kn Ke Kr N n0 fx env its) (hf : Y = some r → SCI ro P y Kn Ke Kr N n0 fx env its) : SCI ro P (.cond c x y) Kn Ke Kr N n0 fx env its := fun κ w S a ha => by
  have hv := evS_den (κ := κ) hc
  refine wpIn_cond_split (t := e) (ha.ev hv) (fun he => ?_) (fun he => ?_)
  · subst he
    exact ht (by simpa using hp) κ w S a ha
  · subst he
    exact hf (by simpa using hp) κ w S a ha
/-- A cut in a list. -/
theorem SLI.cutAt (hnp : ∀ v w, ¬ fx.px v w) (k : Nat) (J : Act → World → Prop) (h1 : SL P ops (rest.take k) J N n0 fx env its) (hd : noDef (rest.take k) = true) (h2 : ∀ a w, J a w → wpListIn (FR ro) 0 P ops (fun e a w => e = .normal ∧ Kn a w) (rest.drop k) a w) : SLI ro P ops rest Kn N n0 fx env its := fun κ w S a ha => by
  have := wpListIn_cut (rest.drop k) h2 (rest.take k) a w (SLI.of (ro := ro) hnp h1 hd κ w S a ha)
  rwa [List.take_append_drop] at this

/-! ### A block that holds no cells is turned -/
theorem Globs.put {U : Nat → Prop} {X : List (Option Nat)} {w : World} (g : Globs U X w) {l : Nat} (hu : U l) (o : Obj) : Globs U X (w.putObj l o) := fun p hp => by
  obtain ⟨g0, g1, g2, g3⟩ := g p hp
  exact ⟨g0, g1, g2, fun j v hj => (cell_same (World.putObj_heap_other fun (e : p.1 = l) => g1 (by rw [e]; exact hu))).trans (g3 j v hj)⟩
theorem Globs.into {U : Nat → Prop} {X : List (Option Nat)} {w w1 : World} (g : Globs U X w) {D l : Nat} (h1 : ∀ b, b < w.heap.size → w1.heap[b]? = w.heap[b]?) (hD : w.heap.size ≤ D) (hl : w.heap.size ≤ l) : Globs (fun b => U b ∨ b = D ∨ b = l) X w1 := fun p hp => by
  obtain ⟨g0, g1, g2, g3⟩ := g p hp
  have hlt : p.1 < w.heap.size := by
    cases hc : p.2 with
    | nil => exact absurd hc g0
    | cons v r => exact cell_lt (g3 0 v (by rw [hc]; rfl))
  refine ⟨g0, fun h => ?_, g2, fun j v hj => (cell_same (h1 p.1 hlt)).trans (g3 j v hj)⟩
  rcases h with h | h | h
  · exact g1 h
  · omega
  · omega
def Fx.put (fx : Fx) (l : Nat) (o : Obj) (hu : fx.U0 l) : Fx := { fx with w0 := fx.w0.putObj l o, gl := fx.gl.put hu o }
theorem Fx.put_get {l : Nat} {o : Obj} {hu : fx.U0 l} (h : l < fx.w0.heap.size) : (fx.put l o hu).w0.heap[l]? = some o := World.putObj_heap_same h
theorem putObj_put (w : World) (l : Nat) (o o' : Obj) : (w.putObj l o).putObj l o' = w.putObj l o' := by simp [World.putObj]
theorem putObj_id {w : World} {l : Nat} {o : Obj} (h : w.heap[l]? = some o) : w.putObj l o = w := by
  have hl := (Array.getElem?_eq_some_iff.1 h).1
  have : w.heap.setIfInBounds l o = w.heap := by
    apply Array.ext_getElem?
    intro i
    by_cases e : i = l
    · subst e; rw [h]; simp [hl]
    · rw [Array.getElem?_setIfInBounds_ne (Ne.symm e)]
  unfold World.putObj
  rw [this]
theorem Fx.put_put {l : Nat} {o o' : Obj} {hu : fx.U0 l} : (fx.put l o hu).put l o' hu = fx.put l o' hu := by simp only [Fx.put, putObj_put]
theorem Fx.put_id {l : Nat} {o : Obj} {hu : fx.U0 l} (h : fx.w0.heap[l]? = some o) : fx.put l o hu = fx := by simp only [Fx.put, putObj_id h]
theorem OK.put {it : Item} {c : Conc} {U : Nat → Prop} {l : Nat} (o : Obj) (hu : U l) (hne : ∀ b, own1 it c = some b → b ≠ l) (hel : it.ow = false) (h : OK κ U w it c) : OK κ U (w.putObj l o) it c := by
  have h1 : ∀ b, b < w.heap.size → ¬ U b → (w.putObj l o).heap[b]? = w.heap[b]? := fun b _ hb => World.putObj_heap_other fun e => hb (e ▸ hu)
  have h2 : ∀ b, b < w.heap.size → U b → U b := fun _ _ h => h
  cases it with
  | blk T cs => cases c with
    | b n =>
      simp only [OK] at h ⊢
      exact (World.putObj_heap_other (hne n rfl)).trans h
    | _ => exact h.elim
  | elt src ow cs => cases c with
    | a ad =>
      have key : ∀ (V : Nat → Prop) (es : List Value), V l → At V w ad es → At V (w.putObj l o) ad es := fun V es hv ⟨g1, g2⟩ =>
        ⟨g1, fun j u hu => (cell_same (by rw [block_add]; exact World.putObj_heap_other fun e => g1 (e ▸ hv))).trans (g2 j u hu)⟩
      cases src with
      | none => exact ⟨key _ _ hu h.1, h.2⟩
      | some q =>
        obtain ⟨i, iv⟩ := q
        have how : ow = false := by cases ow <;> simp_all [Item.ow]
        subst how
        exact ⟨key _ _ ⟨rfl, hu⟩ h.1, h.2⟩
    | _ => cases src <;> exact h.elim
  | own sz E R d => cases c with
    | r A n c =>
      simp only [OK] at h ⊢
      refine ⟨h.1, ?_⟩
      obtain ⟨xs, ⟨hl, hr⟩, he⟩ := h.2
      refine ⟨xs, ⟨hl, ?_⟩, Els.step h1 h2 _ _ he⟩
      rcases hr with h | ⟨g, pre, cap, cur, post, fz, hv, hb, hg, rest⟩
      · exact .inl h
      · refine .inr ⟨g, pre, cap, cur, post, fz, hv, hb, ?_, rest⟩
        rw [World.putObj_heap_other (hne g (by injection hv with hA; subst hA; rfl))]
        exact hg
    | _ => exact h.elim
  | rd sz R d => cases c with
    | r A n c => exact ⟨h.1, h.2.step h1 h2⟩
    | _ => exact h.elim
  | lm kk d => cases c with
    | m b0 =>
      simp only [OK] at h ⊢
      obtain ⟨n, rfl, hm⟩ := h
      exact ⟨n, rfl, hm.step (World.putObj_heap_other (hne n rfl)) h1 h2⟩
    | _ => exact h.elim
  | mp kk R ow d => cases c with
    | m b0 =>
      cases ow with
      | true =>
        simp only [OK] at h ⊢
        obtain ⟨n, rfl, hm⟩ := h
        exact ⟨n, rfl, hm.step (World.putObj_heap_other (hne n rfl)) h1 h2⟩
      | false =>
        simp only [OK] at h ⊢
        rcases h with h | ⟨n, rfl, hn, hm⟩
        · exact .inl h
        · exact .inr ⟨n, rfl, hn, hm.step (h1 n hm.lt hn) h1 h2⟩
    | _ => cases ow <;> exact h.elim
  | str s => cases c with
    | s x => exact h
    | _ => exact h.elim
  | adr => cases c with
    | b n => trivial
    | _ => exact h.elim
  | gone => trivial
theorem noOw' (h : its.any Item.ow = false) : ∀ it ∈ its, it.ow = false := by
  intro it hi
  cases hc : it.ow with
  | false => rfl
  | true => rw [List.any_eq_false] at h; exact absurd hc (h it hi)
theorem St.put {l : Nat} (o : Obj) (S : St n0 fx env its κ w) (hu : fx.U0 l) (how : its.any Item.ow = false) : St n0 (fx.put l o hu) env its κ (w.putObj l o) := by
  have hne : ∀ b, some b ∈ Lof its κ → b ≠ l := fun b hb e => (S.ctx.live b hb).2.1 (e ▸ hu)
  refine ⟨S.len, S.pre, S.n0, S.sce, S.sci, ⟨⟨S.ctx.step.os, S.ctx.step.tape, S.ctx.step.output, by simpa [Fx.put] using S.ctx.step.size, fun b hb hX => ?_⟩, fun b hb => by simpa [Fx.put] using S.ctx.u0 b hb, fun b hb => ?_, S.ctx.sep⟩, fun i it c h1 h2 => ?_⟩
  · simp only [Fx.put, World.putObj_size] at hb
    by_cases e : b = l
    · subst e
      have := S.ctx.step.size
      simp only [Fx.put]
      rw [World.putObj_heap_same (by omega), World.putObj_heap_same (by omega)]
    · simp only [Fx.put]
      rw [World.putObj_heap_other e, World.putObj_heap_other e]
      exact S.ctx.step.block b hb hX
  · have := S.ctx.live b hb
    simpa [Fx.put] using this
  · refine OK.put o (.inl hu) (fun b hb => ?_) (noOw' how it (List.mem_of_getElem? h1)) (S.ok i it c h1 h2)
    have h3 := Lof_get h1 h2
    rw [hb] at h3
    exact hne b (List.mem_of_getElem? h3)

/-! ### A round -/
def putE : List Nat → List SV → Env' → Env'
  | p :: ps, v :: vs, e => putE ps vs ((p, v) :: e)
  | _, _, e => e
theorem putE_holds : ∀ (ps : List Nat) (vs : List SV) (e : Env') (a : Act), ps.all (fun p => Nat.blt p N) = true → Holds N (denE κ e) a → Holds N (denE κ (putE ps vs e)) { a with tmps := (ps.zip (vs.map (SV.den κ))).foldl (fun tmps p => tmps.setIfInBounds p.1 p.2) a.tmps }
  | [], _, e, a, _, h => h
  | _ :: _, [], e, a, _, h => h
  | p :: ps, v :: vs, e, a, hp, h => by
    simp only [List.all_cons, Bool.and_eq_true] at hp
    exact putE_holds ps vs ((p, v) :: e) (a.put (some p) (v.den κ)) hp.2 (h.put hp.1)
theorem denE_take {e : Env'} (hs : scE n0 e = true) (S : St n0 fx env its κ w) : denE κ e = denE fx.κ0 e := by
  have h : κ = fx.κ0 ++ κ.drop n0 := by rw [← S.pre, List.take_append_drop]
  have hl : fx.κ0.length = n0 := by rw [← S.pre, List.length_take]; have := S.n0; omega
  rw [h]
  exact denE_app (by rw [hl]; exact hs)
theorem lkEs_sub : ∀ {e : Env'}, lkEs env e = some e → Sub (denE κ env) (denE κ e)
  | [], _ => trivial
  | (t, v) :: r, h => by
    simp only [lkEs] at h
    split at h
    · rename_i x r' h1 h2
      simp only [Option.some.injEq, List.cons.injEq, Prod.mk.injEq] at h
      obtain ⟨⟨_, rfl⟩, rfl⟩ := h
      exact ⟨lkE_den h1, lkEs_sub h2⟩
    · cases h
theorem lkEs_sc {n : Nat} (hs : scE n env = true) : ∀ {e : Env'}, lkEs env e = some e → scE n e = true
  | [], _ => rfl
  | (t, v) :: r, h => by
    simp only [lkEs] at h
    split at h
    · rename_i x r' h1 h2
      simp only [Option.some.injEq, List.cons.injEq, Prod.mk.injEq] at h
      obtain ⟨⟨_, rfl⟩, rfl⟩ := h
      have h3 := lkEs_sc hs h2
      unfold scE at hs h3 ⊢
      rw [List.all_eq_true] at hs
      rw [List.all_cons, h3, hs _ (lkE_mem h1)]
      rfl
    · cases h
/-- The record of the loop is as it was. -/
theorem St.rec_ {l : Nat} {o : Obj} (S : St n0 fx env its κ w) (hu : fx.U0 l) (hx : some l ∉ fx.X0) (hw : fx.w0.heap[l]? = some o) : w.heap[l]? = some o := by
  rw [S.ctx.step.block l (S.ctx.u0 l hu) hx]
  exact hw
def yv (l : Nat) : SV := .c (.v (.func (.yield l) #[] #[]))
theorem SLI.yield {d s NB l : Nat} {as : List Operand} {ats : Array TypeId} {t : TypeId} {ps : String} {af : Array Edge} {rec : Loop} {pl : List Nat} {vs : List SV} {envA envS envB : Env'} {X : Type} {Pr : X → Prop} {itsX : X → List Item}
    (hu : fx.U0 l) (hx : some l ∉ fx.X0) (hw : fx.w0.heap[l]? = some (.loop rec)) (hst : rec.state = .ready) (hpe : rec.pending = none) (hpl : rec.params = pl.toArray) (hS : Holds NB (denE fx.κ0 envS) ⟨rec.tmps, []⟩)
    (hs : lkE s env = some (yv l)) (hv : mapE env as = some vs) (hd : Nat.blt d N = true)
    (hB : (Nat.beq vs.length pl.length && (pl.all (fun p => Nat.blt p NB) && (scE n0 envS && (scE n0 envA && !its.any Item.ow)))) = true) (hA : lkEs env envA = some envA) (hsc : scE its.length (putE pl vs envS) = true)
    (hassign : SCI (some l) P rec.assign (A NB n0 fx envB its) (fun _ _ _ => False) (fun _ _ => False) NB n0 fx (putE pl vs envS) its)
    (hbody : SCI (some l) P rec.body (fun _ w => ∃ x, Pr x ∧ ∃ κ, St n0 (fx.put l (.loop { rec with state := .busy }) hu) [] (itsX x) κ w) (fun _ _ _ => False) (fun _ _ => False) NB n0 (fx.put l (.loop { rec with state := .busy }) hu) envB its)
    (hX : ∀ x, (itsX x).any Item.ow = false) (hXl : ∀ x, Nat.ble n0 (itsX x).length = true)
    (hk : ∀ x, Pr x → SLI none P ops rest Kn N n0 fx ((d, vb true) :: envA) (itsX x)) :
    SLI none P ops (⟨some d, .call ⟨.value (.tmp s), as.toArray, ats⟩, t, ps, af, none⟩ :: rest) Kn N n0 fx env its := fun κ w S a ha => by
  simp only [Bool.and_eq_true, Bool.not_eq_true'] at hB
  obtain ⟨b1, b2, b3, b4, how⟩ := hB
  have hlen : vs.length = pl.length := Nat.eq_of_beq_eq_true b1
  have hrec := S.rec_ hu hx hw
  have hlt := S.ctx.u0 l hu
  unfold wpListIn
  rw [if_pos (show Region.wanted _ _ = true from rfl)]
  refine ⟨fun _ _ => trivial, ?_⟩
  have h1 : a.eval (.tmp s) = .func (.yield l) #[] #[] := ha.ev (x := .tmp s) (lkE_den (κ := κ) hs)
  have h2 := run_yield (P := P) (args := (vs.map (SV.den κ)).toArray) hrec (by rw [hpl]; simp [hlen])
  have hrun : ((⟨some d, .call ⟨.value (.tmp s), as.toArray, ats⟩, t, ps, af, none⟩ : Oper).semAt (FR none).round a.eval).run P w = (Instr.yield l (vs.map (SV.den κ)).toArray).run P w := by
    rw [Oper.semAt_eq _ _ _ (fun c h => by cases h)]
    simp [execOp, resolve, invoke, Deferred.ofValue, h1, evs_of ha as _ (mapEE_ok as hv)]
  rw [hrun, h2, Oper.uponIn_round]
  refine ⟨(fun h => by cases h), ?_⟩
  have hHb := putE_holds (κ := κ) pl vs envS ⟨rec.tmps, []⟩ b2 (by rw [denE_take b3 S]; exact hS)
  have htm : (rec.params.zip (vs.map (SV.den κ)).toArray).foldl (fun tmps (p : Nat × Value) => tmps.setIfInBounds p.1 p.2) rec.tmps = (pl.zip (vs.map (SV.den κ))).foldl (fun tmps p => tmps.setIfInBounds p.1 p.2) rec.tmps := by
    rw [hpl]
    simp
  refine roundIn_of_wpIn (F := Fence.wide) trivial ?_
  have e0 : (rec.params.zip (vs.map (SV.den κ)).toArray).foldl (fun tmps (x : Nat × Value) => match x with
      | (t, a) => tmps.setIfInBounds t a) rec.tmps = (pl.zip (vs.map (SV.den κ))).foldl (fun tmps p => tmps.setIfInBounds p.1 p.2) rec.tmps := htm
  rw [e0]
  refine wpIn_mono (hassign κ w (S.prune hsc) _ hHb) fun e a1 w1 hq => ?_
  cases e
  case normal =>
    obtain ⟨κ1, ha1, S1⟩ := hq
    have hrec1 := S1.rec_ hu hx hw
    have hbr := run_beginRound (P := P) hrec1 hst
    refine ⟨_, hbr, ?_⟩
    have S2 := S1.put (.loop { rec with state := .busy }) hu how
    refine wpIn_mono (hbody κ1 _ S2 a1 ha1) fun e a3 w3 hq3 => ?_
    cases e
    case normal =>
      obtain ⟨x, hpx, κ3, S3⟩ := hq3
      have hw3 : (fx.put l (.loop { rec with state := .busy }) hu).w0.heap[l]? = some (.loop { rec with state := .busy }) := Fx.put_get hlt
      have hrec3 := S3.rec_ (o := .loop { rec with state := .busy }) hu hx hw3
      refine ⟨_, _, run_endRound none hrec3, ?_⟩
      have S4 := S3.put (.loop rec) hu (hX x)
      rw [Fx.put_put, Fx.put_id hw] at S4
      have erec : ({ ({ rec with state := .busy } : Loop) with state := if (none : Option Code).isNone then .ready else .done, pending := none } : Loop) = rec := by
        cases rec
        simp only at hst hpe
        subst hst; subst hpe
        rfl
      rw [erec]
      have hden : denE κ3 envA = denE κ envA := by rw [denE_take b4 S4, denE_take b4 S]
      have hsc3 : scE (itsX x).length ((d, vb true) :: envA) = true := by
        have h5 := scE_mono (Nat.le_of_ble_eq_true (hXl x)) b4
        unfold scE at h5 ⊢
        rw [List.all_cons, h5]
        rfl
      have := hk x hpx κ3 _ (S4.prune hsc3) (a.put (some d) (.bool true)) (by
        have h6 := (ha.sub (lkEs_sub (κ := κ) hA)).put (v := .bool true) hd
        rw [← hden] at h6
        exact h6)
      exact this
    case panic => obtain ⟨_, _, _, hf⟩ := hq3; exact hf.elim
    all_goals exact hq3.elim
  case panic => obtain ⟨_, _, _, hf⟩ := hq; exact hf.elim
  all_goals exact hq.elim

/-! ### In and out -/
theorem OK.grow {κ : List Conc} {it : Item} {c : Conc} {U U' : Nat → Prop} {w w' : World} (h1 : ∀ b, b < w.heap.size → w'.heap[b]? = w.heap[b]?) (h2 : ∀ b, b < w.heap.size → U' b → U b) (hel : it.ow = false) (h : OK κ U w it c) : OK κ U' w' it c := by
  have h1' : ∀ b, b < w.heap.size → ¬ U b → w'.heap[b]? = w.heap[b]? := fun b hb _ => h1 b hb
  cases it with
  | blk T cs => cases c with
    | b n =>
      simp only [OK] at h ⊢
      exact (h1 n h.lt).trans h
    | _ => exact h.elim
  | elt src ow cs => cases c with
    | a ad =>
      have key : ∀ (V V' : Nat → Prop) (es : List Value), (∀ b, b < w.heap.size → V' b → V b) → es ≠ [] → At V w ad es → At V' w' ad es := fun V V' es hv hne ⟨g1, g2⟩ => by
        have hlt : ad.block < w.heap.size := by
          match es, hne with
          | u :: es, _ =>
            have := cell_lt (g2 0 u rfl)
            rwa [block_add] at this
        exact ⟨fun hU => g1 (hv _ hlt hU), fun j u hu => (cell_same (by rw [block_add]; exact h1 _ hlt)).trans (g2 j u hu)⟩
      cases src with
      | none => exact ⟨key _ _ _ h2 (by simpa using h.2) h.1, h.2⟩
      | some q =>
        obtain ⟨i, iv⟩ := q
        have how : ow = false := by cases ow <;> simp_all [Item.ow]
        subst how
        exact ⟨key _ _ _ (fun b hb hq => ⟨rfl, h2 b hb hq.2⟩) (by simpa using h.2.1) h.1, h.2⟩
    | _ => cases src <;> exact h.elim
  | own sz E R d => cases c with
    | r A n c =>
      simp only [OK] at h ⊢
      refine ⟨h.1, ?_⟩
      obtain ⟨xs, ⟨hl, hr⟩, he⟩ := h.2
      refine ⟨xs, ⟨hl, ?_⟩, Els.step h1' h2 _ _ he⟩
      rcases hr with h | ⟨g, pre, cap, cur, post, fz, hv, hb, hg, rest⟩
      · exact .inl h
      · refine .inr ⟨g, pre, cap, cur, post, fz, hv, hb, ?_, rest⟩
        rw [h1 g (Array.getElem?_eq_some_iff.1 hg).1]
        exact hg
    | _ => exact h.elim
  | rd sz R d => cases c with
    | r A n c => exact ⟨h.1, h.2.step h1' h2⟩
    | _ => exact h.elim
  | lm kk d => cases c with
    | m b0 =>
      simp only [OK] at h ⊢
      obtain ⟨n, rfl, hm⟩ := h
      exact ⟨n, rfl, hm.step (h1 n hm.lt) h1' h2⟩
    | _ => exact h.elim
  | mp kk R ow d => cases c with
    | m b0 =>
      cases ow with
      | true =>
        simp only [OK] at h ⊢
        obtain ⟨n, rfl, hm⟩ := h
        exact ⟨n, rfl, hm.step (h1 n hm.lt) h1' h2⟩
      | false =>
        simp only [OK] at h ⊢
        rcases h with h | ⟨n, rfl, hn, hm⟩
        · exact .inl h
        · exact .inr ⟨n, rfl, fun q => hn (h2 n hm.lt q), hm.step (h1 n hm.lt) h1' h2⟩
    | _ => cases ow <;> exact h.elim
  | str s => cases c with
    | s x => exact h
    | _ => exact h.elim
  | adr => cases c with
    | b n => trivial
    | _ => exact h.elim
  | gone => trivial
/-- The loop's blocks are laid: what follows is seen from here. -/
theorem St.into {w1 : World} {D l : Nat} (S : St n0 fx env its κ w) (how : its.any Item.ow = false) (h1 : ∀ b, b < w.heap.size → w1.heap[b]? = w.heap[b]?) (_ : w.heap.size ≤ w1.heap.size) (hD : w.heap.size ≤ D) (hl : w.heap.size ≤ l) (hD1 : D < w1.heap.size) (hl1 : l < w1.heap.size) :
    St its.length ⟨fun b => fx.U0 b ∨ b = D ∨ b = l, Lof its κ, w1, κ, (fx.gl.now S.ctx).into h1 hD hl, NP⟩ env its κ w1 := by
  refine ⟨S.len, by rw [← S.len]; exact List.take_length, by rw [S.len]; exact Nat.le_refl _, S.sce, S.sci, ⟨Step.refl, fun b hb => ?_, fun b hb => ?_, S.ctx.sep⟩, fun i it c h2 h3 => ?_⟩
  · rcases hb with h | h | h
    · have := S.ctx.u0 b h
      have := S.ctx.step.size
      simp only
      omega
    · subst h; exact hD1
    · subst h; exact hl1
  · obtain ⟨g1, g2, g3⟩ := S.ctx.live b hb
    refine ⟨by omega, fun h => ?_, .inr hb⟩
    rcases h with h | h | h
    · exact g2 h
    · omega
    · omega
  · refine OK.grow h1 (fun b hb hM => ?_) (noOw' how it (List.mem_of_getElem? h2)) (S.ok i it c h2 h3)
    rcases hM with (h | h | h) | h
    · exact .inl h
    · omega
    · omega
    · exact .inr h
theorem St.outof {fx3 : Fx} {D l : Nat} {env2 : Env'} {its2 : List Item} {κ2 : List Conc} {w5 : World} (S : St n0 fx env its κ w) (S5 : St its.length fx3 env2 its2 κ2 w5) (hU : fx3.U0 = fun b => fx.U0 b ∨ b = D ∨ b = l) (hX : fx3.X0 = Lof its κ) (hκ : fx3.κ0 = κ)
    (h1 : ∀ b, b < w.heap.size → fx3.w0.heap[b]? = w.heap[b]?) (hs : w.heap.size ≤ fx3.w0.heap.size) (hos : fx3.w0.os = w.os) (htp : fx3.w0.tape = w.tape) (hot : fx3.w0.output = w.output) :
    St n0 fx env2 its2 κ2 w5 := by
  have hn : n0 ≤ its.length := by rw [← S.len]; exact S.n0
  have c0 := S.ctx.step
  have c5 := S5.ctx.step
  refine ⟨S5.len, ?_, Nat.le_trans hn S5.n0, S5.sce, S5.sci, ⟨⟨c5.os.trans (hos.trans c0.os), c5.tape.trans (htp.trans c0.tape), c5.output.trans (hot.trans c0.output), Nat.le_trans c0.size (Nat.le_trans hs c5.size), fun b hb hbX => ?_⟩, S.ctx.u0, fun b hb => ?_, S5.ctx.sep⟩, fun i it c h2 h3 => ?_⟩
  · have h4 := S5.pre
    rw [hκ] at h4
    rw [← S.pre, ← h4, List.take_take, Nat.min_eq_left hn]
  · have hbw : b < w.heap.size := Nat.lt_of_lt_of_le hb c0.size
    rw [c5.block b (Nat.lt_of_lt_of_le hbw hs) (fun hL => ?_), h1 b hbw]
    · exact c0.block b hb hbX
    · rw [hX] at hL
      rcases (S.ctx.live b hL).2.2 with h | h
      · omega
      · exact hbX h
  · obtain ⟨g1, g2, g3⟩ := S5.ctx.live b hb
    refine ⟨g1, fun h => g2 (by rw [hU]; exact .inl h), ?_⟩
    rcases g3 with g3 | g3
    · exact .inl (Nat.le_trans c0.size (Nat.le_trans hs g3))
    · rw [hX] at g3
      exact (S.ctx.live b g3).2.2
  · have hlt : it.lt κ2.length = true := by
      have := S5.sci
      unfold scI at this
      rw [List.all_eq_true] at this
      rw [S5.len]
      exact this _ (List.mem_of_getElem? h2)
    have h4 := OK.ext (κx := []) (U' := Mu fx.U0 (Lof its2 κ2)) hlt (fun b hb => by
      rw [hU]
      exact hb.imp .inl id) (S5.ok i it c h2 h3)
    rwa [List.append_nil] at h4

/-! ### The statement -/
def LvE (P : Program) (fn : Func) (m : Nat) (fx : Fx) (rs : SV) (its' : List Item) (a : Act) (w : World) : Prop :=
  LeavesInM Fence.wide 0 P fn a.tmps (fun e w' => ∃ κx, e = .returned (rs.den (fx.κ0 ++ κx)) ∧ St m fx [(0, rs)] its' (fx.κ0 ++ κx) w') a.defers .returning w
theorem RetE.lv {a : Act} {fn : Func} {m : Nat} {rs : SV} (h : RetE P fn m fx rs its' a w) : LvE P fn m fx rs its' a w := by
  obtain ⟨hd, v, h1, h2⟩ := h
  unfold LvE
  rw [hd]
  exact ⟨v, h1, h2⟩
theorem SC.lv {fn : Func} {m : Nat} {rs : SV} (h : SC P .ret Kn Ke (RetE P fn m fx rs its') N n0 fx env its) : SC P .ret Kn Ke (LvE P fn m fx rs its') N n0 fx env its := fun κ w S a ha =>
  wp_mono (h κ w S a ha) fun e a w hq => by cases e <;> first | exact hq | exact RetE.lv hq
theorem holds_enter {fn : Func} {vs : List Value} (hN : fn.ntmps = N) (hle : vs.length ≤ N) : Holds N (enumFrom 0 vs) { tmps := vs.toArray ++ Array.replicate (fn.ntmps - vs.toArray.size) undef, defers := [] } := by
  subst hN
  refine ⟨by simp; omega, rfl, fun t v hv => ?_⟩
  obtain ⟨_, h2⟩ := lk_enum vs 0 t v hv
  simp only [Nat.sub_zero] at h2
  have hlt := (List.getElem?_eq_some_iff.1 h2).1
  rw [Array.getElem?_append_left (by simpa using hlt)]
  simpa using h2
theorem Spec.enterM {f : FuncId} {fn : Func} {c : Code} {as : List SV} {rs : SV} {N m : Nat} (hf : P.funcs[f]? = some fn) (hb : fn.body = some c) (hN : fn.ntmps = N) (hle : Nat.ble as.length N = true) (hm : its.length = m)
    (h : ∀ fx, SC P c (LvE P fn m fx rs its') (fun _ _ _ => False) (LvE P fn m fx rs its') N m fx (enumS 0 as) its) : Spec P f as its rs its' := fun U0 κ w gl S => by
  subst hm
  have h1 := h ⟨U0, Lof its κ, w, κ, gl, NP⟩ κ w S
  rw [denE_enumS] at h1
  refine callsIn_wide.1 (callsIn_of_wp_marks (n := 0) hf hb trivial ?_)
  refine wpIn_mono ((wpIn_wide (n := 0)).2 (h1 _ (holds_enter hN (by simpa using hle)))) fun e a w hq => ?_
  cases e <;> first | exact hq | exact hq.elim | (obtain ⟨_, _, _, hf⟩ := hq; exact hf.elim)
theorem SC.range {bid rid : Nat} {g : Operand} {pl : List Nat} {assign body : Code} {os : List Oper} {fn fng : Func} {cg : Code} {gf : FuncId} {caps : List Cell} {Ng : Nat} {itsE its2 : List Item} {envR env2 : Env'} {rs : SV}
    (hg : evS env g = some (.f gf caps)) (hcf : ∀ args w, (callFunc gf args).run P w = .ok (.enter gf args) w) (hf : P.funcs[gf]? = some fng) (hb : fng.body = some cg) (hN : fng.ntmps = Ng) (hle : Nat.ble (caps.length + 1) Ng = true)
    (how : its.any Item.ow = false) (howE : itsE.any Item.ow = false) (how2 : its2.any Item.ow = false) (hR : lkEs env envR = some envR) (hEl : Nat.ble its.length itsE.length = true)
    (hIter : ∀ (fx1 : Fx) (l : Nat) (rec : Loop), fx1.U0 l → some l ∉ fx1.X0 → fx1.w0.heap[l]? = some (.loop rec) → rec.state = .ready → rec.pending = none → rec.params = pl.toArray → rec.assign = assign → rec.body = body → (∀ v w, ¬ fx1.px v w) → Holds N (denE fx1.κ0 env) ⟨rec.tmps, []⟩ →
      SC P cg (RetE P fng its.length fx1 (.u []) itsE) (fun _ _ _ => False) (RetE P fng its.length fx1 (.u []) itsE) Ng its.length fx1 (enumS 0 (yv l :: caps.map .c)) its)
    (hRest : ∀ fx2, SL P os.toArray os (A N its.length fx2 env2 its2) N its.length fx2 envR itsE) (hnd : noDef os = true)
    (hRet : ∀ a w, A N n0 fx env2 its2 a w → RetE P fn n0 fx rs its' a w) :
    SC P (.block bid (.rangeFunc g pl.toArray assign body)) (fun a w => wp3 P fx.px (.seq (.region rid os.toArray false) .ret) Kn Ke (LvE P fn n0 fx rs its') a w) Ke Kr N n0 fx env its := fun κ w S a ha => by
  refine (wpIn_wide (n := 0)).1 ?_
  refine wpIn_block (wpIn_rangeFunc ?_)
  intro fnid _
  obtain ⟨rec, hrec⟩ : ∃ rec : Loop, rec = { state := .ready, pending := none, fn := fnid, tmps := a.tmps, params := pl.toArray, assign, body, defers := w.heap.size } := ⟨_, rfl⟩
  obtain ⟨w1, hw1⟩ : ∃ w1, (w.alloc (.deferred (some []))).alloc (.loop rec) = w1 := ⟨_, rfl⟩
  obtain ⟨D, hDe⟩ : ∃ D, w.heap.size = D := ⟨_, rfl⟩
  have hsz : w1.heap.size = D + 2 := by rw [← hw1, ← hDe]; simp
  have hold : ∀ b, b < w.heap.size → w1.heap[b]? = w.heap[b]? := fun b hb' => by
    rw [← hw1, heap_alloc_old _ _ b (by simp; omega), heap_alloc_old _ _ b hb']
  have hL : w1.heap[D + 1]? = some (.loop rec) := by
    rw [← hw1, ← hDe]
    have := World.alloc_heap_new (w.alloc (.deferred (some []))) (.loop rec)
    rwa [World.size_alloc] at this
  have hK : w1.heap[D]? = some (.deferred (some [])) := by
    rw [← hw1, ← hDe, heap_alloc_old _ _ _ (by simp)]
    exact World.alloc_heap_new w _
  obtain ⟨fx1, hfx⟩ : ∃ fx1 : Fx, fx1 = ⟨fun b => fx.U0 b ∨ b = D ∨ b = D + 1, Lof its κ, w1, κ, (fx.gl.now S.ctx).into hold (by omega) (by omega), NP⟩ := ⟨_, rfl⟩
  have hnp1 : ∀ v w, ¬ fx1.px v w := fun v w h => by rw [hfx] at h; exact h
  have S1 : St its.length fx1 env its κ w1 := by
    rw [hfx]
    exact S.into how hold (by omega) (by omega) (by omega) (by omega) (by omega)
  have hnX : ∀ b, D ≤ b → some b ∉ fx1.X0 := fun b hb' hm => by
    rw [hfx] at hm
    have := (S.ctx.live b hm).1
    omega
  have hu : fx1.U0 (D + 1) := by rw [hfx]; exact .inr (.inr rfl)
  have huD : fx1.U0 D := by rw [hfx]; exact .inr (.inl rfl)
  have hw0 : fx1.w0 = w1 := by rw [hfx]
  have hκ0 : fx1.κ0 = κ := by rw [hfx]
  have hg' : a.eval g = .func (.func gf) #[] (caps.map (Cell.den κ)).toArray := ha.ev (evS_den (κ := κ) hg)
  refine ⟨D + 1, [{ target := .collected D, args := #[] }], w1, { target := .fn (.func gf) (caps.map (Cell.den κ)).toArray, args := #[.func (.yield (D + 1)) #[] #[]] }, w1, gf, (SV.den κ (yv (D + 1)) :: caps.map (Cell.den κ)).toArray, w1, ?_, ?_, fun _ _ => trivial, ?_, (fun h => by cases h), ?_⟩
  · have := run_enterLoop_outer (P := P) (w := w) fnid a.tmps pl.toArray assign body
    rw [hDe] at this
    rw [← hw1, hrec, hDe]
    exact this
  · simp only [resolve, hg']
    simp [go_sem, Deferred.ofValue]
  · simp [invoke, hcf, yv, SV.den, Cell.den]
  · have hsc0 : scE its.length (enumS 0 (yv (D + 1) :: caps.map .c)) = true := by
      have hv : SV.lt its.length (.f gf caps) = true := by
        cases g with
        | tmp t => exact S.lk (lkE_mem hg)
        | func f => simp only [evS, Option.some.injEq, SV.f.injEq] at hg; obtain ⟨_, rfl⟩ := hg; rfl
        | global x => cases hg
        | const c =>
          cases c <;> simp [evS] at hg
          split at hg <;> cases hg
      have gen : ∀ (cs : List Cell) (i : Nat), cs.all (Cell.lt its.length) = true → scE its.length (enumS i (cs.map .c)) = true := by
        intro cs
        induction cs with
        | nil => intro i _; rfl
        | cons c cs ih =>
          intro i h
          simp only [List.all_cons, Bool.and_eq_true] at h
          have := ih (i + 1) h.2
          unfold scE at this ⊢
          simp only [List.map_cons, enumS, List.all_cons, this, Bool.and_true]
          exact h.1
      have h1 := gen caps 1 hv
      unfold scE at h1 ⊢
      simp only [enumS, List.all_cons, h1]
      rfl
    have hI := hIter fx1 (D + 1) rec hu (hnX _ (by omega)) (by rw [hw0]; exact hL) (by rw [hrec]) (by rw [hrec]) (by rw [hrec]) (by rw [hrec]) (by rw [hrec]) hnp1 (by rw [hκ0, hrec]; exact ⟨ha.size, rfl, ha.get⟩)
    have hI' := hI κ w1 (S1.prune hsc0)
    rw [denE_enumS] at hI'
    have hmap : (yv (D + 1) :: caps.map SV.c).map (SV.den κ) = SV.den κ (yv (D + 1)) :: caps.map (Cell.den κ) := by
      simp only [List.map_cons, List.map_map]
      rfl
    rw [hmap] at hI'
    refine callsIn_wide.2 (Calls.mono (calls_enter (px := fx1.px) hf hb hN (by simpa using hle) (fun v w h => (hnp1 v w h).elim) hI') fun e w3 hq => ?_)
    obtain ⟨κx, rfl, S3⟩ := hq
    have hL3 := S3.rec_ hu (hnX _ (by omega)) (o := .loop rec) (by rw [hw0]; exact hL)
    refine ⟨_, _, run_endLoop hL3 (by rw [hrec]; simp), ?_⟩
    have hpn : rec.pending = none := by rw [hrec]
    rw [hpn]
    have S4 := S3.put (.loop { rec with state := .exhausted, pending := none }) hu howE
    obtain ⟨fx2, hfx2⟩ : ∃ fx2, fx2 = fx1.put (D + 1) (.loop { rec with state := .exhausted, pending := none }) hu := ⟨_, rfl⟩
    obtain ⟨w4, hw4⟩ : ∃ w4, w4 = w3.putObj (D + 1) (.loop { rec with state := .exhausted, pending := none }) := ⟨_, rfl⟩
    rw [← hw4]
    rw [← hfx2, ← hw4] at S4
    rw [hκ0] at S4
    have hscR : scE itsE.length envR = true := scE_mono (Nat.le_of_ble_eq_true hEl) (lkEs_sc S.sce hR)
    have S4' := S4.prune hscR
    have hden : denE (κ ++ κx) envR = denE κ envR := denE_app (by rw [S.len]; exact lkEs_sc S.sce hR)
    have hl := xfer (P := P) (px := fx2.px) (fun v w h => by rw [hfx2] at h; exact hnp1 v w h) none [{ target := .collected D, args := #[] }] os a w4 hnd (hRest fx2 _ w4 S4' a (by rw [hden]; exact ha.sub (lkEs_sub hR)))
    show wp3 P fx.px (.seq (.region rid os.toArray false) .ret) Kn Ke (LvE P fn n0 fx rs its') _ w4
    refine (wpIn_wide (n := 0)).1 ?_
    have ea : ({ a with defers := [{ target := .collected D, args := #[] }] ++ a.defers } : Act) = { a with defers := a.defers ++ [{ target := .collected D, args := #[] }] } := by
      rw [ha.defers]
      rfl
    rw [ea]
    refine wpIn_seq (wpIn_mono (wpIn_region_lit hl) fun e a5 w5 hq => ?_)
    obtain ⟨rfl, a0, rfl, hA⟩ := hq
    refine wpIn_ret ?_
    show LvE P fn n0 fx rs its' _ w5
    obtain ⟨κ5, ha5, S5⟩ := hA
    unfold LvE
    simp only [ha5.defers, List.nil_append]
    have hu2 : fx2.U0 D := by rw [hfx2]; exact huD
    have hX2 : fx2.X0 = fx1.X0 := by rw [hfx2]; rfl
    have hU : fx2.U0 = fx1.U0 := by rw [hfx2]; rfl
    have hκ2 : fx2.κ0 = fx1.κ0 := by rw [hfx2]; rfl
    have hW : fx2.w0 = w1.putObj (D + 1) (.loop { rec with state := .exhausted, pending := none }) := by rw [hfx2]; simp only [Fx.put, hw0]
    have hK5 := S5.rec_ hu2 (by rw [hX2]; exact hnX D (Nat.le_refl _)) (o := .deferred (some [])) (by
      rw [hfx2]
      simp only [Fx.put]
      rw [World.putObj_heap_other (by omega), hw0]
      exact hK)
    refine ⟨by simp, .inl ⟨D, _, rfl, run_takeDeferred hK5, ?_⟩⟩
    have S6 := S5.put (.deferred none) hu2 how2
    have S7 := S.outof (D := D) (l := D + 1) S6 (hU.trans (by rw [hfx])) (hX2.trans (by rw [hfx])) (hκ2.trans hκ0) (fun b hb' => by
      show (fx2.w0.putObj D _).heap[b]? = _
      rw [hW, World.putObj_heap_other (by omega), World.putObj_heap_other (by omega)]
      exact hold b hb') (by show _ ≤ (fx2.w0.putObj D _).heap.size; rw [hW]; simp; omega) (by show fx2.w0.os = _; rw [hW, ← hw1]; rfl) (by show fx2.w0.tape = _; rw [hW, ← hw1]; rfl) (by show fx2.w0.output = _; rw [hW, ← hw1]; rfl)
    exact (hRet a0 _ ⟨κ5, ha5, S7⟩).2
end
end V
end Go.Proofs.YtladkmnfmpojiaaGreatDoor
