/-
  Find, Range and Group: the plain law.
-/
import Derived.Test.YtchlimkophmjlaaLawC
namespace Go.Proofs.Ytchlimkophmjlaa
namespace V
theorem finds_law (db : List T_api_Attribute) (f l : Int) (hdb : ∀ a ∈ db, AOk a) (hn : db.length ≤ 140737488355328) : wirelesslaw43_DatabaseFinds FF db f l = some true := by
  have hF : FF = 1125899906842624 := rfl
  unfold wirelesslaw43_DatabaseFinds
  obtain ⟨b, h1, h2⟩ := fine_ok FF db hdb (by omega) (by omega)
  rw [h1, Option.bind_some, example_ok]
  cases b with
  | false => rfl
  | true =>
    obtain ⟨hl, hv, _⟩ := h2 rfl
    rw [if_neg (by decide), ugroup FF db hdb f (by omega) (by omega), rgroup FF db hdb f (by omega) (by omega), ufind FF db f (by omega) (by omega), rfind FF db f (by omega) (by omega), urange FF db f l (by omega) hv (by omega), rrange FF db f l (by omega) (by omega)]
    have hs := sameDB FF (db.filter (inr f l)) (Nat.le_trans (List.length_filter_le ..) (by omega)) (Nat.lt_of_le_of_lt (List.length_filter_le ..) (by omega))
    simp only [Option.bind_some]
    rw [hs, if_pos (by simp)]
    rfl
end V
end Go.Proofs.Ytchlimkophmjlaa
