/- Arrays among a law's arguments. -/
import Derived.Test.YtbgfhaahhdnogaaGreatBridge
import Derived.OpenShut
namespace Go.Proofs.YtbgfhaahhdnogaaGreat
namespace V
end V
end Go.Proofs.YtbgfhaahhdnogaaGreat
