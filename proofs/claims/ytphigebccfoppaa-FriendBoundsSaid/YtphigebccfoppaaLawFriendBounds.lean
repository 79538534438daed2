/-
  FriendBounds: the plain law, from the facts on its arguments.
-/
import Derived.Test.YtphigebccfoppaaOpen
import Derived.Test.YtphigebccfoppaaLawQBounds
namespace Go.Proofs.Ytphigebccfoppaa
namespace V
theorem glen {α : Type} {G : α → Prop} {l : List α} (h : GAll G l) : l.length ≤ 140737488355328 := Nat.le_trans h.1 (by unfold reachBytes; decide)
theorem gops {l : List T_wirelesslaw51_Op} (h : GAll G_T_wirelesslaw51_Op l) : OOk l := fun o ho => ⟨glen (h.2 o ho).2.2.2.2.2.1.1.2.2.2.2.2.2.2, glen (h.2 o ho).2.2.2.2.2.1.2.2.2.2.2.2.2.2.2.2⟩
theorem bounds_top (l : List T_wirelesslaw51_Op) (h : OOk l) : wirelesslaw51_FriendBounds FF l = some true := bounds_law l h
end V
end Go.Proofs.Ytphigebccfoppaa
