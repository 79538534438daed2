/-
  slices.Delete at a row of the call's own, of elements of many cells: what it returns, what the row holds then.
-/
import Derived.Test.YtojcklkcjnnkaaaDoorRow
import Derived.Test.YtojcklkcjnnkaaaDoorProg
import Derived.WalkKit
import Derived.Deep.RegionLaw
import Derived.Lib.Walk
import Derived.Lib.SliceRun
namespace Go.Proofs.YtojcklkcjnnkaaaDoor
namespace V
section
variable {P : Program}
theorem run_append_room_z (w : World) (t ty e : TypeId) (sz : Nat) (ht : P.underlying t = some (.slice e)) (hs : ∀ w, (sizeOf e).run P w = .ok sz w) (g q n cap : Nat) (cur : Array Value) (fz : Nat × Nat) (hfz : Fz e fz cur.size) (hg : w.heap[g]? = some (.cells cur e fz))
    (a : Addr) (m c : Nat) (news : List Value) (hl : news.length = m * sz) (hnews : ∀ j u, news[j]? = some u → w.cell? (a.add j) = some u) (h1 : ∀ u ∈ news, u.oneCell' = true) (hroom : n + m ≤ cap) (hfit : q + n * sz + news.length ≤ cur.size) :
    (Builtin.append_ #[t, t] ty #[.slice (some ⟨g, q, none⟩) n cap, .slice (some a) m c]).run P w = .ok (.slice (some ⟨g, q, none⟩) (n + m) cap) (w.setRow g (cur.toList.take (q + n * sz) ++ news ++ cur.toList.drop (q + n * sz + news.length)).toArray) := by
  have hf := run_firstCells_some (P := P) w sz m a m c news hl hnews
  have hst := run_storeCells_z P g (q + n * sz) e fz news 0 cur w hg hfz (by simpa using hfit) h1
  simp only [Nat.add_zero] at hst
  simp [Builtin.append_, run_underlying ht, hs, Builtin.lenOf, hroom, hf, Addr.add_lit, hst]
theorem step_append_z {ops : Array Oper} {o : Oper} {a : Act} {w : World} {K : Act → World → Prop} {Q : Exit → Act → World → Prop} {E : Prop}
    (hg : o.guard = none) (s x : Operand) (t : TypeId) (hop : o.op = Op.call { callee := Callee.builtin Builtin.append, args := #[s, x], argTypes := #[t, t] })
    (e : TypeId) (sz : Nat) (ht : P.underlying t = some (.slice e)) (hz : ∀ w, (sizeOf e).run P w = .ok sz w) (b q n cap : Nat) (hs : a.eval s = .slice (some ⟨b, q, none⟩) n cap) (cur : Array Value) (fz : Nat × Nat) (hfz : Fz e fz cur.size) (hb : w.heap[b]? = some (.cells cur e fz))
    (ad : Addr) (m c : Nat) (news : List Value) (hx : a.eval x = .slice (some ad) m c) (hn : news.length = m * sz) (hc : ∀ j u, news[j]? = some u → w.cell? (ad.add j) = some u) (h1c : ∀ u ∈ news, u.oneCell' = true)
    (hroom : n + m ≤ cap) (hfit : q + n * sz + news.length ≤ cur.size)
    (hK : K (a.put o.dst (.slice (some ⟨b, q, none⟩) (n + m) cap)) (w.setRow b (cur.toList.take (q + n * sz) ++ news ++ cur.toList.drop (q + n * sz + news.length)).toArray)) :
    if Region.wanted o (yielded ops a.tmps) = true then Oper.wp P o a w K Q else E := by
  have hw : Region.wanted o (yielded ops a.tmps) = true := by simp [Region.wanted, hg]
  rw [if_pos hw]
  have hrun := run_append_room_z (P := P) w t o.type e sz ht hz b q n cap cur fz hfz hb ad m c news hn hc h1c hroom hfit
  unfold Oper.wp
  have he : (execOp a.eval o).run P w = .ok (.value (.slice (some ⟨b, q, none⟩) (n + m) cap)) (w.setRow b (cur.toList.take (q + n * sz) ++ news ++ cur.toList.drop (q + n * sz + news.length)).toArray) := by
    simp only [execOp, hop, resolve, invoke, builtin, Sem.run_bind, Sem.run_pure, Result.andThen_ok, List.map_toArray, List.map_cons, List.map_nil, hs, hx, hrun]
  rw [he]
  exact hK
theorem run_clear_z (w : World) (t e ty : TypeId) (z : Value) (sz : Nat) (ht : P.underlying t = some (.slice e)) (hv : ∀ w, (zeroValue e).run P w = .ok z w) (hz : z.cells.size = sz) (h1 : ∀ u ∈ z.cells.toList, u.oneCell' = true) (b q k c : Nat) (hk : 0 < k) (cur : Array Value) (fz : Nat × Nat) (hfz : Fz e fz cur.size) (hg : w.heap[b]? = some (.cells cur e fz)) (hfit : q + k * sz ≤ cur.size) :
    (Builtin.clear_ #[t] ty #[.slice (some ⟨b, q, none⟩) k c]).run P w = .ok (.tuple #[]) (w.setRow b (cur.toList.take q ++ (Builtin.zeroCells z.cells k).toList ++ cur.toList.drop (q + k * sz)).toArray) := by
  have hlen : (Builtin.zeroCells z.cells k).toList.length = k * sz := by rw [Array.length_toList, size_zeroCells, hz]
  have hone : ∀ u ∈ (Builtin.zeroCells z.cells k).toList, u.oneCell' = true := by
    intro u hu
    unfold Builtin.zeroCells at hu
    simp only [Array.toList_map, List.mem_map] at hu
    obtain ⟨q, hq, rfl⟩ := hu
    have hq2 : q < k * z.cells.size := by simpa using hq
    have hpos : 0 < z.cells.size := by
      rcases Nat.eq_zero_or_pos z.cells.size with h | h
      · rw [h] at hq2; simp at hq2
      · exact h
    have hlt : q % z.cells.size < z.cells.size := Nat.mod_lt _ hpos
    rw [getElem!_pos z.cells _ hlt]
    exact h1 _ (by simp)
  have hst := run_storeCells_z P b q e fz (Builtin.zeroCells z.cells k).toList 0 cur w hg hfz (by rw [hlen]; simpa using hfit) hone
  simp only [Nat.add_zero] at hst
  rw [hlen] at hst
  obtain ⟨m, rfl⟩ : ∃ m, k = m + 1 := ⟨k - 1, by omega⟩
  simp [Builtin.clear_, run_underlying ht, hv, hst]
end
theorem spec_row1 {P : Program} {f : FuncId} {α : Type} {sz : Nat} {E : TypeId} {R : RT α} [GRep R] {l l' : List α} {vals : List Value}
    (h : ∀ (U0 : Nat → Prop) (w : World) (A : Option Addr) (c : Nat), Own sz E R (Mu U0 [ob A]) w A c l → Ctx U0 [ob A] w [ob A] w → Calls P f (Value.slice A l.length c :: vals).toArray w fun e w' => ∃ A' c', e = .returned (.slice A' l'.length c') ∧ Own sz E R (Mu U0 [ob A']) w' A' c' l' ∧ Ctx U0 [ob A] w [ob A'] w') :
    Spec P f (vs 0 :: vals.map fun v => SV.c (.v v)) [.own sz E R l] (vs 1) [.gone, .own sz E R l'] := fun U0 κ w gl S => by
  obtain ⟨c, hc, hok⟩ := S.conc (i := 0) rfl
  have hlen : κ.length = 1 := S.len
  match κ, hlen, hc, gl, S with
  | [c0], _, hc, gl, S =>
    simp at hc
    subst hc
    cases c0 with
    | r A n c =>
      obtain ⟨hn, ho⟩ := hok
      subst hn
      have hL : Lof [Item.own sz E R l] [Conc.r A l.length c] = [ob A] := rfl
      have hC : Ctx U0 [ob A] w [ob A] w := S.ctx
      have ha : ((vs 0 :: vals.map fun v => SV.c (.v v)).map (SV.den [Conc.r A l.length c])).toArray = (Value.slice A l.length c :: vals).toArray := by
        rw [List.map_cons, List.map_map]
        have : (SV.den [Conc.r A l.length c] ∘ fun v => SV.c (.v v)) = id := rfl
        rw [this, List.map_id]
        rfl
      rw [ha]
      refine (h U0 w A c ho hC).mono ?_
      rintro e w' ⟨A', c', rfl, ho', C⟩
      refine ⟨[.r A' l'.length c'], rfl, ⟨rfl, rfl, by simp, rfl, rfl, C.addNone.1, ?_⟩⟩
      intro i it cc h1 h2
      match i with
      | 0 =>
        simp at h1 h2
        subst h1
        subst h2
        exact trivial
      | 1 =>
        simp at h1 h2
        subst h1
        subst h2
        refine ⟨rfl, ho'.mu fun b hb => ?_⟩
        rcases hb with hb | hb
        · exact .inl hb
        · exact .inr (by
            have hb2 : some b ∈ [none, ob A'] := hb
            simpa using hb2)
      | i + 2 => simp at h1
    | _ => exact hok.elim
end V
end Go.Proofs.YtojcklkcjnnkaaaDoor
