/-
  DatabaseFounds: the plain law, from the facts on its arguments.
-/
import Derived.Test.YtchlimkophmjlaaLawG
import Derived.Test.YtchlimkophmjlaaLawQFounds
namespace Go.Proofs.Ytchlimkophmjlaa
namespace V
theorem founds_top (db : List T_api_Attribute) (h : DOk db) : wirelesslaw43_DatabaseFounds FF db = some true := founds_law db h.1 h.2
end V
end Go.Proofs.Ytchlimkophmjlaa
