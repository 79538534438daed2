/-
  Found and Hash: the plain law.
-/
import Derived.Test.YtchlimkophmjlaaLawO
namespace Go.Proofs.Ytchlimkophmjlaa
namespace V
theorem founds_law (db : List T_api_Attribute) (hdb : ∀ a ∈ db, AOk a) (hn : db.length ≤ 140737488355328) : wirelesslaw43_DatabaseFounds FF db = some true := by
  have hF : FF = 1125899906842624 := rfl
  unfold wirelesslaw43_DatabaseFounds
  obtain ⟨b, h1, h2⟩ := fine_ok FF db hdb (by omega) (by omega)
  rw [h1, Option.bind_some, example_ok]
  cases b with
  | false => rfl
  | true =>
    obtain ⟨hl, hv, hck⟩ := h2 rfl
    have hg := rcheck_all FF db hdb (by omega) (by omega) hck
    obtain ⟨y, h3, h4⟩ := hash_same FF db hdb hv (by omega) (by omega)
    have hfl := fnd_len (grp db) db ([], false)
    simp only [List.length_nil] at hfl
    rw [if_neg (by decide), ufound FF db hdb (by omega) (by omega), rfound FF db hdb hg (by omega) (by omega), Option.bind_some, Option.bind_some, sameFound FF _ (by omega) (by omega), Option.bind_some, if_pos rfl, h3, h4, Option.bind_some, Option.bind_some, Option.bind_some, if_pos (by simp)]
    rfl
end V
end Go.Proofs.Ytchlimkophmjlaa
