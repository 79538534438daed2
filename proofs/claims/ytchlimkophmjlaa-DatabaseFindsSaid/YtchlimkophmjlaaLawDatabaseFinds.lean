/-
  DatabaseFinds: the plain law, from the facts on its arguments.
-/
import Derived.Test.YtchlimkophmjlaaLawG
import Derived.Test.YtchlimkophmjlaaLawQFinds
namespace Go.Proofs.Ytchlimkophmjlaa
namespace V
theorem finds_top (db : List T_api_Attribute) (f l : Int) (h : DOk db) : wirelesslaw43_DatabaseFinds FF db f l = some true := finds_law db f l h.1 h.2
end V
end Go.Proofs.Ytchlimkophmjlaa
