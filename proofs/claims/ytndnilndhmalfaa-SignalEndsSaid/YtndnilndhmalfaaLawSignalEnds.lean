/-
  SignalEnds: the plain law.
-/
import Derived.Test.YtndnilndhmalfaaLawSignalAnswers
namespace Go.Proofs.Ytndnilndhmalfaa
namespace V
/-- What answers is no request. -/
theorem ans_end {a b : T_api_Signal} (h : ansOf a b = true) : (a.Kind = 20 ∨ a.Kind = 6 ∨ a.Kind = 18) ∧ a.ID = b.ID ∧ b.Kind ≠ 20 ∧ b.Kind ≠ 6 ∧ b.Kind ≠ 18 := by
  unfold ansOf at h
  simp only [Bool.and_eq_true, beq_iff_eq] at h
  obtain ⟨hi, h⟩ := h
  by_cases h1 : a.Kind = 20
  · rw [if_pos h1] at h
    simp at h
    omega
  · rw [if_neg h1] at h
    by_cases h2 : a.Kind = 6
    · rw [if_pos h2] at h
      simp at h
      omega
    · rw [if_neg h2] at h
      by_cases h3 : a.Kind = 18
      · rw [if_pos h3] at h
        simp at h
        omega
      · rw [if_neg h3] at h
        cases h
theorem ans_none {b c : T_api_Signal} (h1 : b.Kind ≠ 20) (h2 : b.Kind ≠ 6) (h3 : b.Kind ≠ 18) : ansOf b c = false := by
  unfold ansOf
  simp [h1, h2, h3]
theorem ends_law (a b c : T_api_Signal) : wirelesslaw34_SignalEnds FF a b c = some true := by
  unfold wirelesslaw34_SignalEnds
  simp only [ans_ok, ex_holds, Option.bind_some]
  cases h : ansOf a b with
  | false => rfl
  | true =>
    obtain ⟨h0, h1, h2, h3, h4⟩ := ans_end h
    have hk : ((((a.Kind == 20) || (a.Kind == 6)) || (a.Kind == 18)) && (a.ID == b.ID)) = true := by
      simp [h1]
      omega
    simp [hk, ans_none h2 h3 h4]
end V
end Go.Proofs.Ytndnilndhmalfaa
