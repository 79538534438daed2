/-
  DatabaseDescribes: the plain law, from the facts on its arguments.
-/
import Derived.Test.YtchlimkophmjlaaLawI
import Derived.Test.YtchlimkophmjlaaLawQDescribes
namespace Go.Proofs.Ytchlimkophmjlaa
namespace V
theorem describes_top (l : List T_api_Service) (first : Int) (h : LOk l) (h1 : 0 ≤ first ∧ first < 65536) : wirelesslaw43_DatabaseDescribes FF l first = some true := describes_law l first h h1.1 h1.2
end V
end Go.Proofs.Ytchlimkophmjlaa
