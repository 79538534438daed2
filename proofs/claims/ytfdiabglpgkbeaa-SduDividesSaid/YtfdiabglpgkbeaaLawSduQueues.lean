/-
  SduQueues: the law.
-/
import Derived.Test.YtfdiabglpgkbeaaLawB
namespace Go.Proofs.Ytfdiabglpgkbeaa
namespace V
theorem queue_both (F : Nat) (c : T_api_Channel) (b : List Int) (hF : 5000 < F) (hs : Sm c) (hb : b.length ≤ 16384) (h : Ok c) : ∃ r, sdu_Queue F c b = some r ∧ wirelessref33_Queue F c b = some r ∧ Ok r.1 ∧ Sm r.1 := by
  unfold sdu_Queue wirelessref33_Queue sdu_Queue_j1
  rw [copied_ok F c (by omega) hs]
  simp only [Option.bind_some]
  by_cases h1 : c.Failed = true
  · exact ⟨_, by rw [if_pos h1], by rw [if_pos h1], h, hs⟩
  rw [if_neg h1, if_neg h1]
  by_cases h2 : decide (len b > c.PeerMTU) = true
  · exact ⟨_, by rw [if_pos h2], by rw [if_pos h2], h, hs⟩
  rw [if_neg h2, if_neg h2]
  by_cases h3 : decide (len c.Out ≥ 64) = true
  · exact ⟨_, by rw [if_pos h3], by rw [if_pos h3], h, hs⟩
  rw [if_neg h3, if_neg h3]
  have hlb := len_nat b
  have hlo := len_nat c.Out
  simp only [decide_eq_true_eq] at h2 h3
  have ho := h.few
  rw [join_ok F [b] (by simp; omega) (by simp) (by simp; omega), app_small (l := ([] : List (List Int))) (by simp; omega) (by omega), app_small (l := ([] : List Int)) (by simp; omega) (by omega)]
  simp only [Option.bind_some, List.nil_append, List.flatten_singleton]
  rw [app_small (by simp; omega) (by omega)]
  simp only [Option.bind_some]
  refine ⟨_, rfl, rfl, ?_, ?_⟩
  · obtain ⟨a1, a2, b1, b2, b3, b4, b5, b6, b7, a4, a5, c1, c2, c3⟩ := h
    refine ⟨a1, a2, b1, b2, b3, b4, b5, b6, b7, by simp only [List.length_append, List.length_singleton]; omega, fun s hs => ?_, ?_, c2, c3⟩
    · rcases List.mem_append.1 hs with hs | hs
      · exact a5 s hs
      · rw [List.mem_singleton] at hs
        subst hs
        show (_ : Int) ≤ c.PeerMTU
        omega
    · unfold lastOf at c1 ⊢
      simp only
      cases hc : c.Out with
      | nil => rw [hc] at c1; simp only [List.nil_append] at c1 ⊢; omega
      | cons s r => rw [hc] at c1; exact c1
  · refine ⟨?_, fun s hs' => ?_, hs.inn⟩
    · simp only [List.length_append, List.length_singleton]; omega
    · rcases List.mem_append.1 hs' with hs' | hs'
      · exact hs.each s hs'
      · rw [List.mem_singleton] at hs'
        subst hs'
        omega
theorem grant_both (F : Nat) (c : T_api_Channel) (n : Int) (hF : 5000 < F) (hs : Sm c) (h : Ok c) : ∃ r, sdu_Grant F c n = some r ∧ wirelessref33_Grant F c n = some r ∧ Ok r.1 ∧ Sm r.1 := by
  unfold sdu_Grant wirelessref33_Grant sdu_Grant_j1 sdu_more
  rw [copied_ok F c (by omega) hs]
  simp only [Option.bind_some]
  have hrx := h.rx
  by_cases h1 : c.Failed = true
  · exact ⟨_, by rw [if_pos h1], by rw [if_pos h1], h, hs⟩
  rw [if_neg h1, if_neg h1]
  by_cases h2 : decide (n < 1) = true
  · exact ⟨_, by rw [if_pos h2]; rfl, by rw [if_pos h2], h, hs⟩
  rw [if_neg h2, if_neg h2]
  rw [w64_small (x := 65535 - c.RxCredits) (by omega) (by omega)]
  by_cases h3 : decide (n > 65535 - c.RxCredits) = true
  · exact ⟨_, by rw [if_pos h3]; rfl, by rw [if_pos h3], h, hs⟩
  rw [if_neg h3, if_neg h3]
  simp only [decide_eq_true_eq] at h2 h3
  refine ⟨_, rfl, rfl, ?_, ⟨hs.out, hs.each, hs.inn⟩⟩
  obtain ⟨a1, a2, b1, b2, b3, b4, b5, b6, b7, a4, a5, c1, c2, c3⟩ := h
  refine ⟨a1, a2, b1, b2, b3, b4, b5, ?_, b7, a4, a5, c1, c2, c3⟩
  show 0 ≤ w64 _ ∧ w64 _ ≤ 65535
  rw [w64_small (by omega) (by omega)]
  omega
theorem credit_both (F : Nat) (c : T_api_Channel) (n : Int) (hF : 5000 < F) (hs : Sm c) (h : Ok c) : ∃ r, sdu_Credit F c n = some r ∧ wirelessref33_Credit F c n = some r ∧ Ok r.1 ∧ Sm r.1 := by
  unfold sdu_Credit wirelessref33_Credit sdu_Credit_j1 sdu_more
  rw [copied_ok F c (by omega) hs]
  simp only [Option.bind_some]
  have hrx := h.tx
  have hf : Ok { c with Failed := true } := by
    obtain ⟨a1, a2, b1, b2, b3, b4, b5, b6, b7, a4, a5, c1, c2, c3⟩ := h
    exact ⟨a1, a2, b1, b2, b3, b4, b5, b6, b7, a4, a5, c1, c2, c3⟩
  have hsf : Sm { c with Failed := true } := ⟨hs.out, hs.each, hs.inn⟩
  by_cases h1 : c.Failed = true
  · exact ⟨_, by rw [if_pos h1], by rw [if_pos h1], h, hs⟩
  rw [if_neg h1, if_neg h1]
  rw [w64_small (x := 65535 - c.TxCredits) (by omega) (by omega)]
  by_cases h2 : n < 1
  · refine ⟨_, by rw [if_pos (by simpa using h2)]; rfl, by rw [if_pos (by simp [h2]), if_pos (by simpa using h2)], hf, hsf⟩
  rw [if_neg (c := decide (n < 1) = true) (by simpa using h2)]
  by_cases h3 : n > 65535 - c.TxCredits
  · exact ⟨_, by rw [if_pos (by simpa using h3)]; rfl, by rw [if_pos (by simp [h3]), if_neg (by simpa using h2)], hf, hsf⟩
  rw [if_neg (c := decide (n > 65535 - c.TxCredits) = true) (by simpa using h3), if_neg (by simp [h2, h3])]
  have hff : c.Failed = false := by simpa using h1
  refine ⟨_, rfl, ?_, ?_, ⟨hs.out, hs.each, hs.inn⟩⟩
  · rfl
  obtain ⟨a1, a2, b1, b2, b3, b4, b5, b6, b7, a4, a5, c1, c2, c3⟩ := h
  refine ⟨a1, a2, b1, b2, b3, b4, ?_, b6, b7, a4, a5, c1, c2, c3⟩
  show 0 ≤ w64 _ ∧ w64 _ ≤ 65535
  rw [w64_small (by omega) (by omega)]
  omega
theorem ok_check {F : Nat} {c : T_api_Channel} (hF : 5000 < F) (hs : Sm c) (h : Ok c) : wirelessref33_Check F c = some 0 := by
  rw [ref_check F c (by omega) hs.gch, chk_ok.2 h]
theorem queues_law (c : T_api_Channel) (b : List Int) (n : Int) (h : GCh c) : wirelesslaw33_SduQueues FF c b n = some true := by
  unfold wirelesslaw33_SduQueues
  obtain ⟨l, hl⟩ := light_ok FF c (by decide)
  rw [hl, ex_holds, ref_check FF c (by decide) h]
  simp only [Option.bind_some]
  by_cases h1 : ((!l) || decide (len b > 16384)) = true
  · rw [if_pos h1]; rfl
  rw [if_neg h1]
  simp only [Option.bind_some]
  by_cases h2 : ¬ chk c = 0
  · rw [if_pos (by simpa using h2)]
  have h2 : chk c = 0 := by omega
  rw [if_neg (by simpa using h2)]
  have hlt : l = true := by simp at h1; exact h1.1
  subst hlt
  have hs := light_true FF c (by decide) h hl
  have hok := chk_ok.1 h2
  have hb : b.length ≤ 16384 := by
    simp [len] at h1
    omega
  obtain ⟨r, q1, q2, q3, q4⟩ := queue_both FF c b (by decide) hs hb hok
  obtain ⟨r', g1, g2, g3, g4⟩ := grant_both FF c n (by decide) hs hok
  obtain ⟨r'', d1, d2, d3, d4⟩ := credit_both FF c n (by decide) hs hok
  have e1 := channel_ok FF r.1 (by decide) (by have := q4.out; omega)
  have e2 := channel_ok FF r'.1 (by decide) (by have := g4.out; omega)
  have e3 := channel_ok FF r''.1 (by decide) (by have := d4.out; omega)
  have k1 := ok_check (F := FF) (by decide) q4 q3
  have k2 := ok_check (F := FF) (by decide) g4 g3
  have k3 := ok_check (F := FF) (by decide) d4 d3
  simp [q1, q2, g1, g2, d1, d2, e1, e2, e3, k1, k2, k3]
end V
end Go.Proofs.Ytfdiabglpgkbeaa
