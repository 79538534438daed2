/-
  DatabaseSets: the plain law, from the facts on its arguments.
-/
import Derived.Test.YtchlimkophmjlaaLawG
import Derived.Test.YtchlimkophmjlaaLawS
namespace Go.Proofs.Ytchlimkophmjlaa
namespace V
def VOk (v : List Int) : Prop := (∀ x ∈ v, Byte x) ∧ v.length ≤ 140737488355328
theorem gval {v : List Int} (h : GAll (GInt .u8) v) : VOk v := ⟨gbytes h, glen h⟩
theorem sets_top (db : List T_api_Attribute) (h : Int) (v : List Int) (hd : DOk db) (hv : VOk v) : wirelesslaw43_DatabaseSets FF db h v = some true := sets_law db h v hd.1 hd.2 hv.1 hv.2
end V
end Go.Proofs.Ytchlimkophmjlaa
