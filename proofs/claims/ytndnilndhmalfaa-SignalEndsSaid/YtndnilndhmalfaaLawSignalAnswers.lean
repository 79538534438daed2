/-
  SignalAnswers, SignalEnds: the plain laws.
-/
import Derived.Test.YtndnilndhmalfaaLawA
namespace Go.Proofs.Ytndnilndhmalfaa
namespace V
/-- Whether b answers a. -/
def ansOf (a b : T_api_Signal) : Bool := (a.ID == b.ID) && (if a.Kind = 20 then ((b.Kind == 21) || (b.Kind == 1)) else if a.Kind = 6 then ((b.Kind == 1) || (((b.Kind == 7) && (b.Source == a.Source)) && (b.Dest == a.Dest))) else if a.Kind = 18 then ((b.Kind == 19) || (b.Kind == 1)) else false)
theorem ans_ok (F : Nat) (a b : T_api_Signal) : signal_Answers F a b = some (ansOf a b) := by
  unfold signal_Answers ansOf
  by_cases hi : a.ID = b.ID
  · rw [if_neg (by simp [hi])]
    by_cases h1 : a.Kind = 20
    · simp [h1, hi]
    · by_cases h2 : a.Kind = 6
      · simp [h2, hi]
      · by_cases h3 : a.Kind = 18
        · simp [h3, hi]
        · simp [h1, h2, h3]
  · rw [if_pos (by simpa using hi)]
    simp [hi]
theorem refans_ok (F : Nat) (a b : T_api_Signal) : wirelessref34_Answers F a b = some (ansOf a b) := by
  unfold wirelessref34_Answers ansOf
  by_cases hi : a.ID = b.ID
  · rw [if_neg (by simp [hi])]
    by_cases hb : b.Kind = 1
    · by_cases h1 : a.Kind = 20
      · simp [h1, hi, hb]
      · by_cases h2 : a.Kind = 6
        · simp [h2, hi, hb]
        · by_cases h3 : a.Kind = 18
          · simp [h3, hi, hb]
          · simp [h1, h2, h3, hb]
    · by_cases h1 : a.Kind = 20
      · simp [h1, hi, hb]
      · by_cases h2 : a.Kind = 6
        · simp [h2, hi, hb]
        · by_cases h3 : a.Kind = 18
          · simp [h3, hi, hb]
          · simp [h1, h2, h3, hb]
  · rw [if_pos (by simpa using hi)]
    simp [hi]
theorem answers_law (a b : T_api_Signal) : wirelesslaw34_SignalAnswers FF a b = some true := by
  unfold wirelesslaw34_SignalAnswers
  rw [ans_ok, refans_ok]
  simp only [Option.bind_some, beq_self_eq_true, if_true, ex_holds, wirelesslaw34_SignalAnswers_j1]
end V
end Go.Proofs.Ytndnilndhmalfaa
