/-
  Rules for whole statements.
-/
import Derived.Test.YtojcklkcjnnkaaaDoorReg2
namespace Go.Proofs.YtojcklkcjnnkaaaDoor
namespace V
section
variable {P : Program} {N n0 : Nat} {fx : Fx} {its its' : List Item} {κ : List Conc} {w : World} {tt : TT} {ld : Nat → Bool} {ops : Array Oper} {Kn : Act → World → Prop}
theorem append_inj_len {α : Type} {a b c d : List α} (h : a ++ c = b ++ d) (hl : a.length = b.length) : a = b ∧ c = d := List.append_inj h hl
theorem WL.storeS {rest : List Oper} {l : Env} {op : Op} {t : TypeId} {ps : String} {af : Array Edge} {K : World → Prop} (hr : RunSK P N l ⟨none, op, t, ps, af, none⟩ w K) (h : ∀ w', K w' → WL P fx.px ops rest Kn N l w') : WL P fx.px ops (⟨none, op, t, ps, af, none⟩ :: rest) Kn N l w := WL.storeK hr h
theorem kl_ow : ∀ it ∈ kl its, it.ow = false := fun it hit => by
  obtain ⟨i, hi⟩ := List.getElem?_of_mem hit
  obtain ⟨_, _, h, _⟩ := kl_get hi
  exact h
theorem St.env {env env' : Env'} (S : St n0 fx env its κ w) (h : scE its.length env' = true) : St n0 fx env' its κ w := ⟨S.len, S.pre, S.n0, h, S.sci, S.ctx, S.ok⟩
theorem stR_length {E : Operand → Option SV} {op : Op} {q : Nat × TypeId × List Cell} (_h : stR tt its E op = some q) : (setB its q.1 q.2.1 q.2.2).length = its.length := by simp [setB]
theorem simR_ok (htt : TTOk P tt) (rest : List Oper) : ∀ (r : List Oper) (evs : List Evi) (env : EnvC) (its : List Item) (env1 : EnvC) (its1 : List Item) (p : List Int), simR N tt ld ops r evs env its = some (env1, its1, p, p) → WF env → scC its.length env →
    (∀ κ w, St n0 fx [] its1 κ w → WF env1 → scC its1.length env1 → WL P fx.px ops rest Kn N (denC κ env1) w) → ∀ κ w, St n0 fx [] its κ w → WL P fx.px ops (r ++ rest) Kn N (denC κ env) w
  | [], evs, env, its, env1, its1, p, h, hw, hs, hk, κ, w, S => by
    simp only [simR, Option.some.injEq, Prod.mk.injEq] at h
    obtain ⟨rfl, rfl, _⟩ := h
    exact hk κ w S hw hs
  | ⟨some d, op, t, ps, af, gd⟩ :: r, evs, env, its, env1, its1, p, h, hw, hs, hk, κ, w, S => by
    simp only [List.cons_append]
    unfold simR at h
    split at h
    · cases h
    · rename_i pa g hp
      split at h
      · cases h
      · rename_i hfr
        simp only [Bool.and_eq_true] at hfr
        obtain ⟨hfr, hN⟩ := hfr
        have hf := gpath_ok hp
        split at h
        · rename_i c x y
          split at h
          · rename_i s v hcx
            split at h
            · rename_i ec hec
              split at h
              · rename_i z hz
                have hzl : z.lt its.length = true := by
                  unfold pickV at hz
                  split at hz
                  · split at hz <;> (injection hz with hz; subst hz; rfl)
                  · cases hz
                exact step_val hw hp hN (fun hg => pick_ok hw hf hg hcx hec hz) (simR_ok htt rest r evs _ its env1 its1 p h (hw.push hf hfr) (hs.push hzl) hk κ w S)
              · cases h
            · cases h
          · cases h
        · split at h
          · rename_i v hv
            split at h
            · rename_i hvl
              exact step_val hw hp hN (fun hg => sv1_ok htt S.kno (evC_ok hw hf hg hf hg) hv) (simR_ok htt rest r evs _ its env1 its1 p h (hw.push hf hfr) (hs.push hvl) hk κ w S)
            · cases h
          · split at h
            · rename_i e evs' _
              have hg : g = true := hf
              subst hg
              split at h
              · rename_i v a b hv
                split at h
                · rename_i hvl
                  cases hr : simR N tt ld ops r evs' ((d, ⟨[], true, v⟩) :: env) its with
                  | none => simp [hr] at h
                  | some q =>
                    obtain ⟨e1, i1, q1, q2⟩ := q
                    simp only [hr, Option.map_some, Option.some.injEq, Prod.mk.injEq] at h
                    obtain ⟨rfl, rfl, h1, h2⟩ := h
                    rw [← h1] at h2
                    obtain ⟨h3, h4⟩ := append_inj_len h2 (svE_len hv).symm
                    subst h3; subst h4
                    exact step_val hw hp hN (fun hg => svE_ok htt S.kno (evC_ok hw (pa := []) (pb := []) rfl rfl rfl rfl) hv) (simR_ok htt rest r evs' _ its _ _ _ hr (hw.push hf hfr) (hs.push hvl) hk κ w S)
                · cases h
              · cases h
            · cases h
  | ⟨none, op, t, ps, af, none⟩ :: r, evs, env, its, env1, its1, p, h, hw, hs, hk, κ, w, S => by
    simp only [List.cons_append]
    unfold simR at h
    have hE : ∀ κ x v, evC env [] [] x = some v → ev (denC κ env) x = some (v.den κ) := fun κ => evC_ok hw (pa := []) (pb := []) rfl rfl rfl rfl
    split at h
    · rename_i i T cs hst
      refine WL.storeS (stR_ok htt S.kill kl_ow (hE κ) hst) fun w' S' => ?_
      have hl := stR_length hst
      simp only [kl_length] at hl
      exact simR_ok htt rest r evs env _ env1 its1 p h hw (by rw [hl]; exact hs) hk κ w' S'
    · split at h
      · rename_i v hv
        exact WL.val0 (sv1_ok htt S.kno (hE κ) hv) (simR_ok htt rest r evs env its env1 its1 p h hw hs hk κ w S)
      · cases h
  | ⟨none, op, t, ps, af, some q⟩ :: r, evs, env, its, env1, its1, p, h, hw, hs, hk, κ, w, S => by
    unfold simR at h
    cases h
theorem lkC_toC {t : Nat} : ∀ {env : Env'} {e : Ent}, lkC t (toC env) = some e → lkE t env = some e.x ∧ e.pa = [] ∧ e.g = true
  | (d, v) :: l, e, h => by
    simp only [toC, List.map_cons, lkC] at h
    simp only [lkE]
    cases hb : Nat.beq t d with
    | true => rw [hb] at h; simp only [Option.some.injEq] at h; subst h; exact ⟨rfl, rfl, rfl⟩
    | false => rw [hb] at h; exact lkC_toC (env := l) h
theorem WF_toC (env : Env') : WF (toC env) := fun t e h => by
  obtain ⟨_, h1, h2⟩ := lkC_toC h
  rw [h1]; exact h2
theorem denC_toC (κ : List Conc) (env : Env') : denC κ (toC env) = denE κ env := by
  unfold denC toC denE
  rw [List.map_map]
  rfl
theorem outE_sub {κ : List Conc} {env : EnvC} (hw : WF env) : ∀ (ts : List Nat) {e : Env'}, outE env ts = some e → Sub (denC κ env) (denE κ e)
  | [], e, h => by simp only [outE, Option.some.injEq] at h; subst h; trivial
  | t :: ts, e, h => by
    simp only [outE] at h
    split at h
    · rename_i g x hl
      split at h
      · rename_i e' he
        injection h with h; subst h
        have hg := hw t _ hl
        simp only at hg
        subst hg
        exact ⟨lkC_den hl, outE_sub hw ts he⟩
      · cases h
    · cases h
theorem outE_sc {n : Nat} {env : EnvC} (hs : scC n env) : ∀ (ts : List Nat) {e : Env'}, outE env ts = some e → scE n e = true
  | [], e, h => by simp only [outE, Option.some.injEq] at h; subst h; rfl
  | t :: ts, e, h => by
    simp only [outE] at h
    split at h
    · rename_i g x hl
      split at h
      · rename_i e' he
        injection h with h; subst h
        have h1 := hs t _ hl
        have h2 := outE_sc hs ts he
        unfold scE at h2 ⊢
        simp [h1, h2]
      · cases h
    · cases h
section
variable {Ke : Nat → Act → World → Prop} {Kr : Act → World → Prop} {env env' : Env'} {rest : List Oper}
theorem SL.simX (htt : TTOk P tt) {r rest : List Oper} {evs : List Evi} {q : List Int} {ts : List Nat} (h : simT N tt ld ops r evs env its ts = some (env', its', q, q)) (hk : SL P ops rest Kn N n0 fx env' its') : SL P ops (r ++ rest) Kn N n0 fx env its := by
  unfold simT at h
  cases hr : simR N tt ld ops r evs (toC env) its with
  | none => simp [hr] at h
  | some z =>
    obtain ⟨e1, i1, q1, q2⟩ := z
    cases ho : outE e1 ts with
    | none => simp [hr, ho] at h
    | some e2 =>
      simp only [hr, ho, Option.bind_some, Option.map_some, Option.some.injEq, Prod.mk.injEq] at h
      obtain ⟨rfl, rfl, rfl, rfl⟩ := h
      intro κ w S
      rw [← denC_toC]
      refine simR_ok htt rest r evs (toC env) its e1 _ _ hr (WF_toC env) (fun t e he => ?_) (fun κ w S' hw hs => ?_) κ w (S.env rfl)
      · have h1 := S.sce
        unfold scE at h1
        rw [List.all_eq_true] at h1
        exact h1 _ (lkE_mem (lkC_toC he).1)
      · exact WL.prune (outE_sub hw ts ho) (hk κ w (S'.env (outE_sc hs ts ho)))
/-- A whole statement; what follows it goes on. -/
theorem SC.r (htt : TTOk P tt) {id : Nat} {os : List Oper} {y : Code} (env' : Env') (ch : List (Nat × TypeId × List Cell)) (evs : List Evi) (q : List Int)
    (h : simT N tt (fun _ => true) os.toArray os evs env its (env'.map (·.1)) = some (env', ch.foldl (fun i c => setB i c.1 c.2.1 c.2.2) its, q, q)) (hk : SC P y Kn Ke Kr N n0 fx env' (ch.foldl (fun i c => setB i c.1 c.2.1 c.2.2) its)) : SC P (.seq (.region id os.toArray false) y) Kn Ke Kr N n0 fx env its :=
  SC.seq (SC.reg (by
    have := SL.simX (rest := []) htt h (SL.nilThen hk)
    rwa [List.append_nil] at this))
/-- The first k operations of a statement. -/
theorem SL.sim (htt : TTOk P tt) (k : Nat) (env' : Env') (ch : List (Nat × TypeId × List Cell)) (evs : List Evi) (q : List Int)
    (h : simT N tt (fun _ => true) ops (rest.take k) evs env its (env'.map (·.1)) = some (env', ch.foldl (fun i c => setB i c.1 c.2.1 c.2.2) its, q, q)) (hk : SL P ops (rest.drop k) Kn N n0 fx env' (ch.foldl (fun i c => setB i c.1 c.2.1 c.2.2) its)) : SL P ops rest Kn N n0 fx env its := by
  have := SL.simX htt h hk
  rwa [List.take_append_drop] at this
theorem SC.if' {c : Operand} {x y : Code} {α : Type} {e : Bool} {X Y : Option α} {r : α} (hc : evS env c = some (vb e)) (hp : (if e = true then X else Y) = some r) (ht : X = some r → SC P x Kn Ke Kr N n0 fx env its) (hf : Y = some r → SC P y Kn Ke Kr N n0 fx env its) : SC P (.cond c x y) Kn Ke Kr N n0 fx env its := fun κ w S =>
  WC.cond (t := e) (evS_den hc) (fun he => ht (if_t hp he) κ w S) (fun he => hf (if_f hp he) κ w S)
/-- A branch that is known. -/
theorem SC.ift {c : Operand} {x y : Code} (hc : evS env c = some (vb true)) (ht : SC P x Kn Ke Kr N n0 fx env its) : SC P (.cond c x y) Kn Ke Kr N n0 fx env its := fun κ w S =>
  WC.cond (t := true) (evS_den hc) (fun _ => ht κ w S) (fun he => by cases he)
theorem SC.iff {c : Operand} {x y : Code} (hc : evS env c = some (vb false)) (hf : SC P y Kn Ke Kr N n0 fx env its) : SC P (.cond c x y) Kn Ke Kr N n0 fx env its := fun κ w S =>
  WC.cond (t := false) (evS_den hc) (fun he => by cases he) (fun _ => hf κ w S)
end
end
end V
end Go.Proofs.YtojcklkcjnnkaaaDoor
