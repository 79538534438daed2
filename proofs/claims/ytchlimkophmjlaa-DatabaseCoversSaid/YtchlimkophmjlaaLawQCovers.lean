/-
  Every attribute belongs to exactly one service: the plain law.
-/
import Derived.Test.YtchlimkophmjlaaLawD
namespace Go.Proofs.Ytchlimkophmjlaa
namespace V
theorem covers_law (db : List T_api_Attribute) (hdb : ∀ a ∈ db, AOk a) (hn : db.length ≤ 140737488355328) : wirelesslaw43_DatabaseCovers FF db = some true := by
  have hF : FF = 1125899906842624 := rfl
  unfold wirelesslaw43_DatabaseCovers
  obtain ⟨b, h1, h2⟩ := fine_ok FF db hdb (by omega) (by omega)
  rw [h1, Option.bind_some, example_ok]
  cases b with
  | false => rfl
  | true =>
    obtain ⟨hl, hv, hck⟩ := h2 rfl
    obtain ⟨hasc, hfirst, _⟩ := rcheck_good FF db hdb (by omega) (by omega) hck
    rw [if_neg (by decide), covers_iter FF db hdb hl hv hasc hfirst (by omega), Option.bind_some]
    simp only
    unfold wirelesslaw43_DatabaseCovers_j1
    rw [if_pos (by simp), example_ok]
    rfl
end V
end Go.Proofs.Ytchlimkophmjlaa
