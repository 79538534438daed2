/-
  FriendServes: the plain law.
-/
import Derived.Test.YtphigebccfoppaaOpen
import Derived.Test.YtphigebccfoppaaLawQServes
namespace Go.Proofs.Ytphigebccfoppaa
namespace V
theorem serves_top (l : List T_wirelesslaw51_Op) : wirelesslaw51_FriendServes FF l = some true := serves_law l
end V
end Go.Proofs.Ytphigebccfoppaa
