/-
  No cell of these rows narrows 'for every input' (looked for: loops, veiled, ifaces, maps, wideKeys, modest, calm, conditions, laid).
  DERIVED. THE GIVEN ROWS OF THIS SEAT. 4 by the template 'for every input the law returns true; each argument reads behind the call as it read before'; 0 by the template 'total and deterministic' (their statements: YtphigebccfoppaaTotals.lean).
  GIVEN WITH THE SEED: the statements are not yours to turn. If you find one false, say at which input.
  Laid BY PROGRAM, IN A SANDBOX (cutbox-rows.mjs): the forced cells as the released guide's own fill.sh prints them over the translation a535c6bf902fa922… (all of the seat's roots in one cut). By AI agents, Wed Nov 11 2026. No macro, syntax, notation, axiom, sorry.
-/
import Derived.Test.YtphigebccfoppaaChecked
import GoSem.Claim
import GoSem.ClaimJoined
import GoSem.ClaimMapViews
import Derived.JoinedTies
import Derived.KernelRfl
namespace Go.Proofs.Ytphigebccfoppaa
/- THE CELL 'sum', in the pinned program and in every row, IS THE sha256 OF THE DUMP (.gsa) THAT YtphigebccfoppaaProg.lean LOADS. Nothing in Lean hashes anything: it is a label: what it is worth is what the hold of that sum in a sandbox is worth. -/
noncomputable def Try.pinned : Pinned := { name := "ytphigebccfoppaa", sum := "a535c6bf902fa9228385efc969b78888751e10e534bb88ba337537d6c0d3742d", checked := Try.checked }
namespace Rows
def none {H : Type} : Left H := { results := [], args := [] }

/-- 'wirelesslaw51.FriendBounds': WHATEVER THE INPUT: true; the input reads as it did. -/
def friendBoundsSpec : ChangeSpec := { name := "friendBounds", fn := fun _ => fun
  | [d] => { results := [.lit (.bool true)], args := [d] }
  | _ => none }
def friendBoundsRow : OpenClaim := { program := "ytphigebccfoppaa", sum := "a535c6bf902fa9228385efc969b78888751e10e534bb88ba337537d6c0d3742d", func := "wireless/wirelesslaw51.FriendBounds", spec := "friendBounds", inPlace := ["slices.overlaps[wireless/api.Queued]"], unfollowed := true, recurses := true, apart := false }
def FriendBoundsSaid : Prop := friendBoundsRow.holds Try.pinned (OpenSpec.ofChange friendBoundsSpec)

/-- ITS FALSE NEIGHBOUR: 'it returns false'. Refute it at one input. -/
def friendBoundsWrong : ChangeSpec := { name := "friendBounds", fn := fun _ => fun
  | [d] => { results := [.lit (.bool false)], args := [d] }
  | _ => none }
def FriendBoundsWrongFalsely : Prop := friendBoundsRow.holds Try.pinned (OpenSpec.ofChange friendBoundsWrong)

/-- 'wirelesslaw51.FriendKeeps': WHATEVER THE INPUT: true; the input reads as it did. -/
def friendKeepsSpec : ChangeSpec := { name := "friendKeeps", fn := fun _ => fun
  | [d] => { results := [.lit (.bool true)], args := [d] }
  | _ => none }
def friendKeepsRow : OpenClaim := { program := "ytphigebccfoppaa", sum := "a535c6bf902fa9228385efc969b78888751e10e534bb88ba337537d6c0d3742d", func := "wireless/wirelesslaw51.FriendKeeps", spec := "friendKeeps", inPlace := ["slices.overlaps[wireless/api.Queued]"], unfollowed := true, recurses := true, apart := false }
def FriendKeepsSaid : Prop := friendKeepsRow.holds Try.pinned (OpenSpec.ofChange friendKeepsSpec)

/-- ITS FALSE NEIGHBOUR: 'it returns false'. Refute it at one input. -/
def friendKeepsWrong : ChangeSpec := { name := "friendKeeps", fn := fun _ => fun
  | [d] => { results := [.lit (.bool false)], args := [d] }
  | _ => none }
def FriendKeepsWrongFalsely : Prop := friendKeepsRow.holds Try.pinned (OpenSpec.ofChange friendKeepsWrong)

/-- 'wirelesslaw51.FriendAsks': WHATEVER THE INPUT: true; the input reads as it did. -/
def friendAsksSpec : ChangeSpec := { name := "friendAsks", fn := fun _ => fun
  | [d] => { results := [.lit (.bool true)], args := [d] }
  | _ => none }
def friendAsksRow : OpenClaim := { program := "ytphigebccfoppaa", sum := "a535c6bf902fa9228385efc969b78888751e10e534bb88ba337537d6c0d3742d", func := "wireless/wirelesslaw51.FriendAsks", spec := "friendAsks", inPlace := ["slices.overlaps[wireless/api.Queued]"], unfollowed := true, recurses := true, apart := false }
def FriendAsksSaid : Prop := friendAsksRow.holds Try.pinned (OpenSpec.ofChange friendAsksSpec)

/-- ITS FALSE NEIGHBOUR: 'it returns false'. Refute it at one input. -/
def friendAsksWrong : ChangeSpec := { name := "friendAsks", fn := fun _ => fun
  | [d] => { results := [.lit (.bool false)], args := [d] }
  | _ => none }
def FriendAsksWrongFalsely : Prop := friendAsksRow.holds Try.pinned (OpenSpec.ofChange friendAsksWrong)

/-- 'wirelesslaw51.FriendServes': WHATEVER THE INPUT: true; the input reads as it did. -/
def friendServesSpec : ChangeSpec := { name := "friendServes", fn := fun _ => fun
  | [d] => { results := [.lit (.bool true)], args := [d] }
  | _ => none }
def friendServesRow : OpenClaim := { program := "ytphigebccfoppaa", sum := "a535c6bf902fa9228385efc969b78888751e10e534bb88ba337537d6c0d3742d", func := "wireless/wirelesslaw51.FriendServes", spec := "friendServes", inPlace := ["slices.overlaps[wireless/api.Queued]", "slices.overlaps[uint16]"], unfollowed := true, recurses := true, apart := false }
def FriendServesSaid : Prop := friendServesRow.holds Try.pinned (OpenSpec.ofChange friendServesSpec)

/-- ITS FALSE NEIGHBOUR: 'it returns false'. Refute it at one input. -/
def friendServesWrong : ChangeSpec := { name := "friendServes", fn := fun _ => fun
  | [d] => { results := [.lit (.bool false)], args := [d] }
  | _ => none }
def FriendServesWrongFalsely : Prop := friendServesRow.holds Try.pinned (OpenSpec.ofChange friendServesWrong)

/- THE SECOND FORM. 'bulk': how many values and letters a reading holds, each counted each time it is reached (what is shared counts as often as it is met; a slice's spare places count too). A statement '..UptoSaid' is the law's where the arguments, and the package variables that the reading takes, are together of bulk at most 1048576: NARROWER than '..Said'. Prove '..Said' where nothing that the law and all that it calls make is longer than what came in: it says more and counts as full. Else prove '..UptoSaid'. A law counts once. -/
mutual
def uptoBulk {H : Type} : DataW H → Nat
  | .lit (.string bytes) => bytes.length + 1
  | .lit _ => 1
  | .nil => 1
  | .ptr d => uptoBulk d + 1
  | .slice elems spare => uptoBulkAll elems + uptoBulkAll spare + 1
  | .agg parts => uptoBulkAll parts + 1
  | .iface _ d => uptoBulk d + 1
  | .map entries => uptoBulkEntries entries + 1
  | .held _ => 1
def uptoBulkAll {H : Type} : List (DataW H) → Nat
  | [] => 0
  | d :: r => uptoBulk d + uptoBulkAll r
def uptoBulkEntries {H : Type} : List (Lit × DataW H) → Nat
  | [] => 0
  | x :: r => uptoBulkEntry x + uptoBulkEntries r
def uptoBulkEntry {H : Type} : Lit × DataW H → Nat
  | (.string bytes, d) => bytes.length + uptoBulk d + 1
  | (_, d) => uptoBulk d + 1
 end
def uptoSmall : (H : Type) → List (DataW H) → Bool := fun _ ds => decide (uptoBulkAll ds ≤ 1048576)
def OpenSpec.upto (s : _root_.Go.ChangeSpec) : _root_.Go.OpenSpec := { _root_.Go.OpenSpec.ofChange s with cond := some uptoSmall }

/-- 'wirelesslaw51.FriendBounds', WHERE WHAT IT READS IS OF BULK AT MOST 1048576: true; the input reads as it did. -/
def friendBoundsUptoRow : OpenClaim := { program := "ytphigebccfoppaa", sum := "a535c6bf902fa9228385efc969b78888751e10e534bb88ba337537d6c0d3742d", func := "wireless/wirelesslaw51.FriendBounds", spec := "friendBounds", inPlace := ["slices.overlaps[wireless/api.Queued]"], unfollowed := true, recurses := true, apart := false, narrowed := true }
def FriendBoundsUptoSaid : Prop := friendBoundsUptoRow.holds Try.pinned (OpenSpec.upto friendBoundsSpec)

/-- 'wirelesslaw51.FriendKeeps', WHERE WHAT IT READS IS OF BULK AT MOST 1048576: true; the input reads as it did. -/
def friendKeepsUptoRow : OpenClaim := { program := "ytphigebccfoppaa", sum := "a535c6bf902fa9228385efc969b78888751e10e534bb88ba337537d6c0d3742d", func := "wireless/wirelesslaw51.FriendKeeps", spec := "friendKeeps", inPlace := ["slices.overlaps[wireless/api.Queued]"], unfollowed := true, recurses := true, apart := false, narrowed := true }
def FriendKeepsUptoSaid : Prop := friendKeepsUptoRow.holds Try.pinned (OpenSpec.upto friendKeepsSpec)

/-- 'wirelesslaw51.FriendAsks', WHERE WHAT IT READS IS OF BULK AT MOST 1048576: true; the input reads as it did. -/
def friendAsksUptoRow : OpenClaim := { program := "ytphigebccfoppaa", sum := "a535c6bf902fa9228385efc969b78888751e10e534bb88ba337537d6c0d3742d", func := "wireless/wirelesslaw51.FriendAsks", spec := "friendAsks", inPlace := ["slices.overlaps[wireless/api.Queued]"], unfollowed := true, recurses := true, apart := false, narrowed := true }
def FriendAsksUptoSaid : Prop := friendAsksUptoRow.holds Try.pinned (OpenSpec.upto friendAsksSpec)

/-- 'wirelesslaw51.FriendServes', WHERE WHAT IT READS IS OF BULK AT MOST 1048576: true; the input reads as it did. -/
def friendServesUptoRow : OpenClaim := { program := "ytphigebccfoppaa", sum := "a535c6bf902fa9228385efc969b78888751e10e534bb88ba337537d6c0d3742d", func := "wireless/wirelesslaw51.FriendServes", spec := "friendServes", inPlace := ["slices.overlaps[wireless/api.Queued]", "slices.overlaps[uint16]"], unfollowed := true, recurses := true, apart := false, narrowed := true }
def FriendServesUptoSaid : Prop := friendServesUptoRow.holds Try.pinned (OpenSpec.upto friendServesSpec)

end Rows
end Go.Proofs.Ytphigebccfoppaa
