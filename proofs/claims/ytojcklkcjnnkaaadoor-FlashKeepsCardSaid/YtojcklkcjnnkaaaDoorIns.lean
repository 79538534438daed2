/-
  slices.Insert of one element into a row of the call's own: parts.
-/
import Derived.Test.YtojcklkcjnnkaaaDoorRow
import Derived.Test.YtojcklkcjnnkaaaDoorProg
import Derived.WalkKit
import Derived.Deep.RegionLaw
import Derived.Lib.Walk
import Derived.Lib.SliceRun
import Derived.Lib.AppendZerosOnto
import Derived.Lib.Overlaps
import Derived.Laws.Externs
import Derived.Below
import Derived.Shelf.RegionOpenPlain
namespace Go.Proofs.YtojcklkcjnnkaaaDoor
open Go.Lib Go.RowKit
namespace V
section
variable {P : Program}
theorem run_copy_zz (w : World) (dT sT ty elem : TypeId) (sz : Nat) (g o dLen dCap : Nat) (a : Addr) (sLen sCap : Nat) (cur : Array Value) (t : TypeId) (fz : Nat × Nat) (hfz : Fz t fz cur.size) (cs : List Value) (k : Nat)
    (hu : P.underlying dT = some (.slice elem)) (hs : ∀ w, (sizeOf elem).run P w = .ok sz w)
    (hg : w.heap[g]? = some (.cells cur t fz)) (hk : Nat.min sLen dLen = k) (hn : cs.length = k * sz)
    (hsrc : ∀ j v, cs[j]? = some v → w.cell? (a.add j) = some v) (hfit : o + cs.length ≤ cur.size) (h1 : ∀ v ∈ cs, v.oneCell' = true) :
    (Builtin.copy_ #[dT, sT] ty #[.slice (some ⟨g, o, none⟩) dLen dCap, .slice (some a) sLen sCap]).run P w =
      .ok (goInt k) (w.setRow g (cur.toList.take o ++ cs ++ cur.toList.drop (o + cs.length)).toArray) := by
  have hf := run_firstCells_some (P := P) w sz k a sLen sCap cs hn hsrc
  have hst := run_storeCells_z P g o t fz cs 0 cur w hg hfz (by simpa using hfit) h1
  simp only [Nat.add_zero] at hst
  simp [Builtin.copy_, run_underlying hu, Builtin.lenOf, hs, hk, hf, hst]
theorem wp_copy_run (w : World) {o : Oper} {a : Act} {K : Act → World → Prop} {Q : Exit → Act → World → Prop} (d s : Operand) (t t' : TypeId)
    (ho : o.op = .call { callee := .builtin .copy, args := #[d, s], argTypes := #[t, t'] }) (v u : Value) (hd : a.eval d = v) (hs : a.eval s = u) {v' : Value} {w' : World}
    (hr : (Builtin.copy_ #[t, t'] o.type #[v, u]).run P w = .ok v' w') (h : K (a.put o.dst v') w') : o.wp P a w K Q := by
  unfold Oper.wp execOp
  simp only [ho, resolve, invoke, builtin, Sem.run_bind, Sem.run_pure, Result.andThen_ok, List.map_toArray, List.map_cons, List.map_nil, hd, hs, hr]
  exact h
theorem wpList_copy_run (w : World) {ops : Array Oper} {rest : List Oper} {o : Oper} {a : Act} {Q : Exit → Act → World → Prop} (hgd : o.guard = none) (d s : Operand) (t t' : TypeId)
    (ho : o.op = .call { callee := .builtin .copy, args := #[d, s], argTypes := #[t, t'] }) (v u : Value) (hd : a.eval d = v) (hs : a.eval s = u) {v' : Value} {w' : World}
    (hr : (Builtin.copy_ #[t, t'] o.type #[v, u]).run P w = .ok v' w') (h : wpList P ops Q rest (a.put o.dst v') w') : wpList P ops Q (o :: rest) a w :=
  wpList_plain hgd fun _ hK => wp_copy_run w d s t t' ho v u hd hs hr (hK _ _ h)
theorem step_copy_run {ops : Array Oper} {o : Oper} {a : Act} {w : World} {K : Act → World → Prop} {Q : Exit → Act → World → Prop} {E : Prop}
    (hg : o.guard = none) (d x : Operand) (dT sT : TypeId) (hop : o.op = Op.call { callee := Callee.builtin Builtin.copy, args := #[d, x], argTypes := #[dT, sT] })
    (v u : Value) (hd : a.eval d = v) (hx : a.eval x = u) {v' : Value} {w' : World} (hr : (Builtin.copy_ #[dT, sT] o.type #[v, u]).run P w = .ok v' w') (hK : K (a.put o.dst v') w') :
    if Region.wanted o (yielded ops a.tmps) = true then Oper.wp P o a w K Q else E := by
  have hw : Region.wanted o (yielded ops a.tmps) = true := by simp [Region.wanted, hg]
  rw [if_pos hw]
  unfold Oper.wp
  simp [execOp, hop, resolve, invoke, builtin, hd, hx, hr, Result.andThen]
  exact hK

/-- The contract of a function that turns a row of the call's own, with another row of the call's own beside it. -/
theorem spec_row2 {f : FuncId} {α : Type} {sz : Nat} {E : TypeId} {R : RT α} [GRep R] {l l' m : List α} {v : Value}
    (h : ∀ (U0 : Nat → Prop) (w : World) (A B : Option Addr) (c d : Nat), Own sz E R (Mu U0 [ob A, ob B]) w A c l → Own sz E R (Mu U0 [ob A, ob B]) w B d m → Ctx U0 [ob A, ob B] w [ob A, ob B] w →
      Calls P f #[.slice A l.length c, v, .slice B m.length d] w fun e w' => ∃ A' c', e = .returned (.slice A' l'.length c') ∧ Own sz E R (Mu U0 [ob A', ob B]) w' A' c' l' ∧ Ctx U0 [ob A, ob B] w [ob A', ob B] w') :
    Spec P f [vs 0, SV.c (.v v), vs 1] [.own sz E R l, .own sz E R m] (vs 2) [.gone, .gone, .own sz E R l'] := fun U0 κ w gl S => by
  obtain ⟨x, hx, hokx⟩ := S.conc (i := 0) rfl
  obtain ⟨y, hy, hoky⟩ := S.conc (i := 1) rfl
  have hlen : κ.length = 2 := S.len
  match κ, hlen, hx, hy, gl, S with
  | [c0, c1], _, hx, hy, gl, S =>
    simp at hx hy
    subst hx
    subst hy
    cases c0 with
    | r A n c =>
      cases c1 with
      | r B k d =>
        obtain ⟨hn, ho⟩ := hokx
        obtain ⟨hk, hp⟩ := hoky
        subst hn
        subst hk
        have hC : Ctx U0 [ob A, ob B] w [ob A, ob B] w := S.ctx
        refine (h U0 w A B c d ho hp hC).mono ?_
        rintro e w' ⟨A', c', rfl, ho', C⟩
        have C1 : Ctx U0 [ob A, ob B] w [ob A'] w' := C.pick [0] (by simp) rfl
        refine ⟨[.r A' l'.length c'], rfl, ⟨rfl, rfl, by simp, rfl, rfl, C1.addNone.1.addNone.1, ?_⟩⟩
        intro i it cc h1 h2
        match i with
        | 0 =>
          simp at h1 h2
          subst h1
          subst h2
          exact trivial
        | 1 =>
          simp at h1 h2
          subst h1
          subst h2
          exact trivial
        | 2 =>
          simp at h1 h2
          subst h1
          subst h2
          refine ⟨rfl, ho'.mu fun b hb => ?_⟩
          rcases hb with hb | hb
          · exact .inl hb
          · have hb2 : some b ∈ [none, none, ob A'] := hb
            refine .inr ?_
            simp at hb2 ⊢
            exact .inl hb2
        | i + 3 => simp at h1
      | _ => exact hoky.elim
    | _ => exact hokx.elim
end
end V
end Go.Proofs.YtojcklkcjnnkaaaDoor
