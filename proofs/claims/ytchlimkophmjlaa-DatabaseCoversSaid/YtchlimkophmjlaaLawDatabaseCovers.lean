/-
  DatabaseCovers: the plain law, from the facts on its arguments.
-/
import Derived.Test.YtchlimkophmjlaaLawG
import Derived.Test.YtchlimkophmjlaaLawQCovers
namespace Go.Proofs.Ytchlimkophmjlaa
namespace V
theorem covers_top (db : List T_api_Attribute) (h : DOk db) : wirelesslaw43_DatabaseCovers FF db = some true := covers_law db h.1 h.2
end V
end Go.Proofs.Ytchlimkophmjlaa
