/-
  slices.Delete: what its pure twin says, for the walks.
-/
import Derived.Test.YtphigebccfoppaaDel2
import Derived.Test.YtphigebccfoppaaRow
namespace Go.Proofs.Ytphigebccfoppaa
namespace V
theorem spec_row1 {P : Program} {f : FuncId} {α : Type} {sz : Nat} {E : TypeId} {R : RT α} [GRep R] {l l' : List α} {vals : List Value}
    (h : ∀ (U0 : Nat → Prop) (w : World) (A : Option Addr) (c : Nat), Own sz E R (Mu U0 [ob A]) w A c l → Ctx U0 [ob A] w [ob A] w → Calls P f (Value.slice A l.length c :: vals).toArray w fun e w' => ∃ A' c', e = .returned (.slice A' l'.length c') ∧ Own sz E R (Mu U0 [ob A']) w' A' c' l' ∧ Ctx U0 [ob A] w [ob A'] w') :
    Spec P f (vs 0 :: vals.map fun v => SV.c (.v v)) [.own sz E R l] (vs 1) [.gone, .own sz E R l'] := fun U0 κ w S => by
  obtain ⟨c, hc, hok⟩ := S.conc (i := 0) rfl
  have hlen : κ.length = 1 := S.len
  match κ, hlen, hc, S with
  | [c0], _, hc, S =>
    simp at hc
    subst hc
    cases c0 with
    | r A n c =>
      obtain ⟨hn, ho⟩ := hok
      subst hn
      have hL : Lof [Item.own sz E R l] [Conc.r A l.length c] = [ob A] := rfl
      have hC : Ctx U0 [ob A] w [ob A] w := S.ctx
      have ha : ((vs 0 :: vals.map fun v => SV.c (.v v)).map (SV.den [Conc.r A l.length c])).toArray = (Value.slice A l.length c :: vals).toArray := by
        rw [List.map_cons, List.map_map]
        have : (SV.den [Conc.r A l.length c] ∘ fun v => SV.c (.v v)) = id := rfl
        rw [this, List.map_id]
        rfl
      rw [ha]
      refine (h U0 w A c ho hC).mono ?_
      rintro e w' ⟨A', c', rfl, ho', C⟩
      refine ⟨[.r A' l'.length c'], rfl, ⟨rfl, rfl, by simp, rfl, rfl, C.addNone.1, ?_⟩⟩
      intro i it cc h1 h2
      match i with
      | 0 =>
        simp at h1 h2
        subst h1
        subst h2
        exact trivial
      | 1 =>
        simp at h1 h2
        subst h1
        subst h2
        refine ⟨rfl, ho'.mu fun b hb => ?_⟩
        rcases hb with hb | hb
        · exact .inl hb
        · exact .inr (by
            have hb2 : some b ∈ [none, ob A'] := hb
            simpa using hb2)
      | i + 2 => simp at h1
    | _ => exact hok.elim
theorem del_nil (w : World) : Calls Try.prog 56 #[.slice none 0 0, .int .i64 0, .int .i64 0] w fun e w' => e = .returned (.slice none 0 0) ∧ w' = w := by
  go_enter Try.func56, Try.ntmps56
  go_wp2
  all_goals (go_ret; exact ⟨rfl, rfl⟩)
theorem spec_del {α : Type} {R : RT α} [GRep R] (l : List α) (i j : Int) (h0 : 0 ≤ i) (h1 : i ≤ j) (h2 : j ≤ l.length) : Spec Try.prog 56 [vs 0, vi .i64 i, vi .i64 j] [.own 18 38 R l] (vs 1) [.gone, .own 18 38 R (l.take i.toNat ++ l.drop j.toNat)] := by
  refine spec_row1 (vals := [.int .i64 i, .int .i64 j]) fun U0 w A c ho C => ?_
  rcases own_form ho with ⟨rfl, rfl, rfl⟩ | ⟨b, cur, fz, rfl, hfz, hg, hle, hm, hsz, he⟩
  · simp at h2
    have hi : i = 0 := by omega
    have hj : j = 0 := by omega
    subst hi
    subst hj
    refine (del_nil w).mono ?_
    rintro e w' ⟨rfl, rfl⟩
    exact ⟨none, 0, rfl, ho, C⟩
  · obtain ⟨i, rfl⟩ := Int.eq_ofNat_of_zero_le h0
    obtain ⟨j, rfl⟩ := Int.eq_ofNat_of_zero_le (by omega : 0 ≤ j)
    have hij : i ≤ j := by omega
    have hjl : j ≤ l.length := by omega
    have hone := Els.one _ _ he
    refine (del_calls b l.length c i j cur fz w hg hfz hsz hle hm hone hij hjl).mono ?_
    rintro e w' ⟨rfl, ⟨cur', hg', hs', ht⟩, hgr⟩
    have hlen : (l.take i ++ l.drop j).length = l.length - (j - i) := by
      rw [List.length_append, List.length_take, List.length_drop]
      omega
    have hT := C.turn (w' := w') (y := some b) (L' := [some b]) (i := 0) rfl hgr.os hgr.tape hgr.output hgr.size (fun k hk hne => hgr.block k hk fun e => hne e.symm) (.inl rfl) rfl
    refine ⟨some ⟨b, 0, none⟩, c, by rw [show (l.take (i : Int).toNat ++ l.drop (j : Int).toNat) = l.take i ++ l.drop j from rfl, hlen], ?_, hT.1⟩
    show Own 18 38 R _ w' (some ⟨b, 0, none⟩) c (l.take i ++ l.drop j)
    refine own_mk (by rw [hs']; exact hfz) hg' (by rw [hlen]; omega) hm (by rw [hs']; exact hsz) ?_
    rw [hlen, ht]
    have e1 := Els.take i l _ he
    have e2 := Els.drop j l _ he
    rw [List.take_take, Nat.min_eq_left (Nat.mul_le_mul_right _ (by omega))] at e1
    exact Els.step hT.2.h1 hT.2.mono _ _ (Els.append _ _ _ _ e1 e2)
end V
end Go.Proofs.Ytphigebccfoppaa
