/-
  FriendKeeps: the plain law.
-/
import Derived.Test.YtphigebccfoppaaOpen
import Derived.Test.YtphigebccfoppaaLawQKeeps
namespace Go.Proofs.Ytphigebccfoppaa
namespace V
theorem keeps_top (l : List T_wirelesslaw51_Event) : wirelesslaw51_FriendKeeps FF l = some true := keeps_law l
end V
end Go.Proofs.Ytphigebccfoppaa
