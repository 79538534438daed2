/-
  DatabaseChecks: the plain law, from the facts on its arguments.
-/
import Derived.Test.YtchlimkophmjlaaLawG
namespace Go.Proofs.Ytchlimkophmjlaa
namespace V
theorem checks_top (db : List T_api_Attribute) (h : DOk db) : wirelesslaw43_DatabaseChecks FF db = some true := checks_law db h.1 h.2
end V
end Go.Proofs.Ytchlimkophmjlaa
