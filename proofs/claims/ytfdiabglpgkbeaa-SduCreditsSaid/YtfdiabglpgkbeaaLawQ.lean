/-
  SduCredits: the law.
-/
import Derived.Test.YtfdiabglpgkbeaaLawW
namespace Go.Proofs.Ytfdiabglpgkbeaa
namespace V
/-- What is known of the steps. -/
structure GW (x : T_wirelesslaw33_Way) : Prop where
  len : (x.Steps.length : Int) ≤ 140737488351232
  each : ∀ s ∈ x.Steps, (s.SDU.length : Int) ≤ 140737488351232 ∧ (∀ y ∈ s.SDU, Byte y) ∧ 0 ≤ s.N ∧ s.N ≤ 255
def total (l : List T_wirelesslaw33_Step) : Nat := (l.map fun s => s.SDU.length).sum
theorem total_snoc (l : List T_wirelesslaw33_Step) (s : T_wirelesslaw33_Step) : total (l ++ [s]) = total l + s.SDU.length := by simp [total]
theorem total_take {l : List T_wirelesslaw33_Step} {i : Nat} {s : T_wirelesslaw33_Step} (h : l[i]? = some s) : total (l.take (i + 1)) = total (l.take i) + s.SDU.length := by
  rw [← take_succ' h, total_snoc]
theorem first (x : T_wirelesslaw33_Way) (g : GW x) : ∃ o, iter (fun s => wirelesslaw33_SduCredits_l4 FF x s.1 s.2) FF (0, 0) = some o ∧ (o = .inr true ∨ ∃ n : Nat, o = .inl (n : Int) ∧ (x.Steps.length ≤ 60 → n = total x.Steps ∧ ∀ s ∈ x.Steps, s.SDU.length ≤ 16384)) := by
  refine iter_by (body := fun s : Int × Int => wirelesslaw33_SduCredits_l4 FF x s.1 s.2) (fun s => ∃ i : Nat, s.2 = i ∧ i ≤ 60 ∧ i ≤ x.Steps.length ∧ s.1 = total (x.Steps.take i) ∧ total (x.Steps.take i) ≤ i * 16384 ∧ ∀ s ∈ x.Steps.take i, s.SDU.length ≤ 16384) _ (fun s => (60 - s.2).toNat) (fun s hs => ?_) FF (0, 0) ⟨0, rfl, by simp, by simp, by simp [total], by simp [total], by simp⟩ (by simp [FF])
  obtain ⟨n, j⟩ := s
  obtain ⟨i, rfl, hi, hil, rfl, hb, hall⟩ := hs
  simp only
  show (∃ s', wirelesslaw33_SduCredits_l4 FF x _ _ = _ ∧ _) ∨ ∃ o, wirelesslaw33_SduCredits_l4 FF x _ _ = _ ∧ _
  unfold wirelesslaw33_SduCredits_l4
  have hn := len_nat x.Steps
  by_cases hc : i < x.Steps.length ∧ i < 60
  · have hx : x.Steps[i]? = some x.Steps[i] := List.getElem?_eq_getElem hc.1
    have ht := total_take hx
    rw [if_pos (by simp; omega), idx_nat, hx, Option.bind_some, Option.bind_some]
    by_cases hl : len x.Steps[i].SDU > 16384
    · rw [if_pos (by simpa using hl), ex_holds]
      exact .inr ⟨_, rfl, .inl rfl⟩
    · rw [if_neg (by simpa using hl)]
      rw [len_nat] at hl
      refine .inl ⟨_, rfl, ⟨i + 1, ?_, by omega, by omega, ?_, by omega, fun s hs => ?_⟩, ?_⟩
      · exact w64_nat i (by omega)
      · simp only
        rw [len_nat, w64_small (by omega) (by omega)]
        omega
      · rw [← take_succ' hx] at hs
        rcases List.mem_append.1 hs with hs | hs
        · exact hall s hs
        · rw [List.mem_singleton] at hs; subst hs; omega
      · simp only
        rw [w64_nat i (by omega)]
        omega
  · rw [if_neg (by simp; omega)]
    refine .inr ⟨_, rfl, .inr ⟨_, rfl, fun h60 => ?_⟩⟩
    have : i = x.Steps.length := by omega
    subst this
    rw [List.take_length] at hall ⊢
    exact ⟨rfl, hall⟩
/-- The steps. -/
theorem steps_ok (x : T_wirelesslaw33_Way) (g : GW x) {mt mp : Int} (h60 : x.Steps.length ≤ 60) (hs : ∀ s ∈ x.Steps, s.SDU.length ≤ 16384) (w : T_wirelesslaw33_wire) (h : WI mt mp 0 0 0 w) :
    ∃ w', iter (fun s : T_wirelesslaw33_wire × Int => wirelesslaw33_SduCredits_l3 FF x s.1 s.2) FF (w, 0) = some (.inl w') ∧ WI mt mp 60 60 (total x.Steps) w' := by
  obtain ⟨o, h1, w', rfl, h2⟩ := iter_by (body := fun s : T_wirelesslaw33_wire × Int => wirelesslaw33_SduCredits_l3 FF x s.1 s.2) (fun s => ∃ i : Nat, s.2 = i ∧ i ≤ x.Steps.length ∧ WI mt mp i i (total (x.Steps.take i)) s.1) (fun o => ∃ w', o = .inl w' ∧ WI mt mp 60 60 (total x.Steps) w') (fun s => (60 - s.2).toNat) (fun s hs' => by
    obtain ⟨w, j⟩ := s
    obtain ⟨i, rfl, hil, hw⟩ := hs'
    show (∃ s', wirelesslaw33_SduCredits_l3 FF x _ _ = _ ∧ _) ∨ ∃ o, wirelesslaw33_SduCredits_l3 FF x _ _ = _ ∧ _
    unfold wirelesslaw33_SduCredits_l3
    have hn := len_nat x.Steps
    simp only at hw ⊢
    by_cases hc : i < x.Steps.length
    · have hx : x.Steps[i]? = some x.Steps[i] := List.getElem?_eq_getElem hc
      have hm := List.getElem_mem hc
      have ht := total_take hx
      obtain ⟨g1, g2, g3, g4⟩ := g.each _ hm
      obtain ⟨w', r1, r2⟩ := step_ok (F := FF) (by decide) hw (by omega) (by omega) ⟨hs _ hm, g2, g3, g4⟩
      have r3 := sound_ok (F := FF) (by decide) r2 (by omega) (by omega)
      rw [if_pos (by rw [decide_eq_true_eq]; omega), idx_nat, hx, Option.bind_some, r1, Option.bind_some, r3, Option.bind_some, if_neg (by decide), w64_nat i (by omega)]
      exact .inl ⟨_, rfl, ⟨i + 1, rfl, by omega, by rw [ht]; exact r2⟩, by simp only; omega⟩
    · rw [if_neg (by rw [decide_eq_true_eq]; omega)]
      have : i = x.Steps.length := by omega
      subst this
      rw [List.take_length] at hw
      exact .inr ⟨_, rfl, _, rfl, hw.mono (by omega) (by omega) (Nat.le_refl _)⟩) FF (w, 0) ⟨0, rfl, by simp, by simpa [total] using h⟩ (by simp [FF])
  exact ⟨w', h1, h2⟩
/-- The end: all SDUs arrive. -/
theorem last_ok {mt mp : Int} {m : Nat} (hm : m ≤ 16384) (w : T_wirelesslaw33_wire) (h : WI mt mp 60 60 m w) :
    ∃ w', iter (fun s : T_wirelesslaw33_wire × Int => wirelesslaw33_SduCredits_l1 FF s.1 s.2) FF (w, 0) = some (.inl w') ∧ w'.got.length = w'.queued.length := by
  obtain ⟨o, h1, w', rfl, h2⟩ := iter_by (body := fun s : T_wirelesslaw33_wire × Int => wirelesslaw33_SduCredits_l1 FF s.1 s.2) (fun s => ∃ i : Nat, s.2 = i ∧ WI mt mp 60 60 m s.1 ∧ i ≤ 20 ∧ (s.1.got = s.1.queued ∨ rem mp s.1 + 60 * i ≤ 800)) (fun o => ∃ w', o = .inl w' ∧ w'.got.length = w'.queued.length) (fun s => (60 - s.2).toNat) (fun s hs' => by
    obtain ⟨w, j⟩ := s
    obtain ⟨i, rfl, hw, hi, hr⟩ := hs'
    show (∃ s', wirelesslaw33_SduCredits_l1 FF _ _ = _ ∧ _) ∨ ∃ o, wirelesslaw33_SduCredits_l1 FF _ _ = _ ∧ _
    unfold wirelesslaw33_SduCredits_l1 wirelesslaw33_SduCredits_j6 wirelesslaw33_SduCredits_j8 wirelesslaw33_SduCredits_j7
    simp only at hw hr ⊢
    have hg := hw.inv.gotq.1
    have e1 := len_nat w.got
    have e2 := len_nat w.queued
    by_cases hc : w.got.length < w.queued.length
    · have hr' : rem mp w + 60 * i ≤ 800 := by
        rcases hr with hr | hr
        · rw [hr] at hc; omega
        · exact hr
      obtain ⟨w1, w2, w3, w4, r1, r2, r3, r4, r5, r6⟩ := round (F := FF) (by decide) hw (Nat.le_refl _) (Nat.le_refl _) hm
      have r7 := sound_ok (F := FF) (by decide) r5 (by omega) (by omega)
      rw [if_pos (by simp; omega), r1, Option.bind_some, r2, Option.bind_some, r3, Option.bind_some, r4, Option.bind_some, r7, Option.bind_some, if_neg (by decide), w64_nat i (by omega)]
      exact .inl ⟨_, rfl, ⟨i + 1, rfl, r5, by omega, by simp only; rcases r6 with r6 | r6; exact .inl r6; exact .inr (by omega)⟩, by simp only; omega⟩
    · rw [if_neg (by simp; omega)]
      exact .inr ⟨_, rfl, _, rfl, by omega⟩) FF (w, 0) ⟨0, rfl, h, by omega, .inr (by have := rem_le h; simp only; omega)⟩ (by simp [FF])
  exact ⟨w', h1, h2⟩
theorem credits_law (x : T_wirelesslaw33_Way) (g : GW x) : wirelesslaw33_SduCredits FF x = some true := by
  unfold wirelesslaw33_SduCredits
  obtain ⟨o, h1, h2⟩ := first x g
  rw [h1, Option.bind_some]
  rcases h2 with rfl | ⟨n, rfl, hn⟩
  · rfl
  simp only
  unfold wirelesslaw33_SduCredits_j1 wirelesslaw33_end
  simp only [Option.bind_some]
  unfold wirelesslaw33_SduCredits_j2
  rw [ex_holds]
  by_cases hc : x.Steps.length > 60 ∨ n > 16384
  · rw [if_pos (by simp [len_nat]; omega)]
    rfl
  rw [if_neg (by simp [len_nat]; omega)]
  have hn := hn (by omega)
  rw [ref_check FF _ (by decide) ⟨by simp, by simp, by simp⟩, Option.bind_some, Option.bind_some]
  by_cases h0 : chk (T_api_Channel.mk 64 65 1 x.MTU x.MPS x.MTU x.MPS x.Credits x.Credits 0 [] 0 [] (-1) false) = 0
  · have hok := chk_ok.1 h0
    rw [if_neg (by simpa using h0)]
    have hw : WI x.MTU x.MPS 0 0 0 (T_wirelesslaw33_wire.mk (T_api_Channel.mk 64 65 1 x.MTU x.MPS x.MTU x.MPS x.Credits x.Credits 0 [] 0 [] (-1) false) (T_api_Channel.mk 64 65 1 x.MTU x.MPS x.MTU x.MPS x.Credits x.Credits 0 [] 0 [] (-1) false) [] [] [] [] false) := by
      refine ⟨⟨hok, rfl, rfl, rfl, hok, rfl, rfl, rfl, by simp, by simp, [], 0, rfl, rfl, .inl ⟨rfl, rfl⟩, by simp⟩, rfl, by simp, by simp, by simp⟩
    obtain ⟨w1, r1, r2⟩ := steps_ok x g (by omega) hn.2 _ hw
    rw [r1, Option.bind_some]
    simp only
    unfold wirelesslaw33_SduCredits_j3
    obtain ⟨w2, s1, s2⟩ := last_ok (by omega) w1 r2
    rw [s1, Option.bind_some]
    simp only
    unfold wirelesslaw33_SduCredits_j4 wirelesslaw33_SduCredits_j5
    rw [if_pos (by simp [len_nat, s2]), ex_holds]
    rfl
  · rw [if_pos (by simpa using h0)]
    rfl
end V
end Go.Proofs.Ytfdiabglpgkbeaa
