/-
  No cell of these rows narrows 'for every input' (looked for: loops, veiled, ifaces, maps, wideKeys, modest, calm, conditions, laid).
  DERIVED. THE GIVEN ROWS OF THIS SEAT. 7 by the template 'for every input the law returns true; each argument reads behind the call as it read before'; 0 by the template 'total and deterministic' (their statements: YtpcckohcoajenaaTotals.lean).
  GIVEN WITH THE SEED: the statements are not yours to turn. If you find one false, say at which input.
  Laid BY PROGRAM, IN A SANDBOX (cutbox-rows.mjs): the forced cells as the released guide's own fill.sh prints them over the translation 7360f50fae44a470… (all of the seat's roots in one cut). By AI agents, Wed Nov 11 2026. No macro, syntax, notation, axiom, sorry.
-/
import Derived.Test.YtpcckohcoajenaaChecked
import GoSem.Claim
import GoSem.ClaimJoined
import GoSem.ClaimMapViews
import Derived.JoinedTies
import Derived.KernelRfl
namespace Go.Proofs.Ytpcckohcoajenaa
/- THE CELL 'sum', in the pinned program and in every row, IS THE sha256 OF THE DUMP (.gsa) THAT YtpcckohcoajenaaProg.lean LOADS. Nothing in Lean hashes anything: it is a label: what it is worth is what the hold of that sum in a sandbox is worth. -/
noncomputable def Try.pinned : Pinned := { name := "ytpcckohcoajenaa", sum := "7360f50fae44a4705e3bc9e3656a9c362a5a1fa1c12faa259abce7f803855f86", checked := Try.checked }
namespace Rows
def none {H : Type} : Left H := { results := [], args := [] }

/-- 'wirelesslaw32.FragmentEncodes': WHATEVER THE INPUT: true; the input reads as it did. -/
def fragmentEncodesSpec : ChangeSpec := { name := "fragmentEncodes", fn := fun _ => fun
  | [d] => { results := [.lit (.bool true)], args := [d] }
  | _ => none }
def fragmentEncodesRow : OpenClaim := { program := "ytpcckohcoajenaa", sum := "7360f50fae44a4705e3bc9e3656a9c362a5a1fa1c12faa259abce7f803855f86", func := "wireless/wirelesslaw32.FragmentEncodes", spec := "fragmentEncodes", unfollowed := true, recurses := true, apart := false }
def FragmentEncodesSaid : Prop := fragmentEncodesRow.holds Try.pinned (OpenSpec.ofChange fragmentEncodesSpec)

/-- ITS FALSE NEIGHBOUR: 'it returns false'. Refute it at one input. -/
def fragmentEncodesWrong : ChangeSpec := { name := "fragmentEncodes", fn := fun _ => fun
  | [d] => { results := [.lit (.bool false)], args := [d] }
  | _ => none }
def FragmentEncodesWrongFalsely : Prop := fragmentEncodesRow.holds Try.pinned (OpenSpec.ofChange fragmentEncodesWrong)

/-- 'wirelesslaw32.FragmentDecodes': WHATEVER THE INPUT: true; the input reads as it did. -/
def fragmentDecodesSpec : ChangeSpec := { name := "fragmentDecodes", fn := fun _ => fun
  | [d] => { results := [.lit (.bool true)], args := [d] }
  | _ => none }
def fragmentDecodesRow : OpenClaim := { program := "ytpcckohcoajenaa", sum := "7360f50fae44a4705e3bc9e3656a9c362a5a1fa1c12faa259abce7f803855f86", func := "wireless/wirelesslaw32.FragmentDecodes", spec := "fragmentDecodes", unfollowed := true, recurses := true, apart := false }
def FragmentDecodesSaid : Prop := fragmentDecodesRow.holds Try.pinned (OpenSpec.ofChange fragmentDecodesSpec)

/-- ITS FALSE NEIGHBOUR: 'it returns false'. Refute it at one input. -/
def fragmentDecodesWrong : ChangeSpec := { name := "fragmentDecodes", fn := fun _ => fun
  | [d] => { results := [.lit (.bool false)], args := [d] }
  | _ => none }
def FragmentDecodesWrongFalsely : Prop := fragmentDecodesRow.holds Try.pinned (OpenSpec.ofChange fragmentDecodesWrong)

/-- 'wirelesslaw32.FragmentSplits': WHATEVER THE INPUT: true; the input reads as it did. -/
def fragmentSplitsSpec : ChangeSpec := { name := "fragmentSplits", fn := fun _ => fun
  | [d1, d2] => { results := [.lit (.bool true)], args := [d1, d2] }
  | _ => none }
def fragmentSplitsRow : OpenClaim := { program := "ytpcckohcoajenaa", sum := "7360f50fae44a4705e3bc9e3656a9c362a5a1fa1c12faa259abce7f803855f86", func := "wireless/wirelesslaw32.FragmentSplits", spec := "fragmentSplits", unfollowed := true, recurses := true, apart := false }
def FragmentSplitsSaid : Prop := fragmentSplitsRow.holds Try.pinned (OpenSpec.ofChange fragmentSplitsSpec)

/-- ITS FALSE NEIGHBOUR: 'it returns false'. Refute it at one input. -/
def fragmentSplitsWrong : ChangeSpec := { name := "fragmentSplits", fn := fun _ => fun
  | [d1, d2] => { results := [.lit (.bool false)], args := [d1, d2] }
  | _ => none }
def FragmentSplitsWrongFalsely : Prop := fragmentSplitsRow.holds Try.pinned (OpenSpec.ofChange fragmentSplitsWrong)

/-- 'wirelesslaw32.FragmentFeeds': WHATEVER THE INPUT: true; the input reads as it did. -/
def fragmentFeedsSpec : ChangeSpec := { name := "fragmentFeeds", fn := fun _ => fun
  | [d1, d2] => { results := [.lit (.bool true)], args := [d1, d2] }
  | _ => none }
def fragmentFeedsRow : OpenClaim := { program := "ytpcckohcoajenaa", sum := "7360f50fae44a4705e3bc9e3656a9c362a5a1fa1c12faa259abce7f803855f86", func := "wireless/wirelesslaw32.FragmentFeeds", spec := "fragmentFeeds", unfollowed := true, recurses := true, apart := false }
def FragmentFeedsSaid : Prop := fragmentFeedsRow.holds Try.pinned (OpenSpec.ofChange fragmentFeedsSpec)

/-- ITS FALSE NEIGHBOUR: 'it returns false'. Refute it at one input. -/
def fragmentFeedsWrong : ChangeSpec := { name := "fragmentFeeds", fn := fun _ => fun
  | [d1, d2] => { results := [.lit (.bool false)], args := [d1, d2] }
  | _ => none }
def FragmentFeedsWrongFalsely : Prop := fragmentFeedsRow.holds Try.pinned (OpenSpec.ofChange fragmentFeedsWrong)

/-- 'wirelesslaw32.FragmentWhole': WHATEVER THE INPUT: true; the input reads as it did. -/
def fragmentWholeSpec : ChangeSpec := { name := "fragmentWhole", fn := fun _ => fun
  | [d1, d2, d3] => { results := [.lit (.bool true)], args := [d1, d2, d3] }
  | _ => none }
def fragmentWholeRow : OpenClaim := { program := "ytpcckohcoajenaa", sum := "7360f50fae44a4705e3bc9e3656a9c362a5a1fa1c12faa259abce7f803855f86", func := "wireless/wirelesslaw32.FragmentWhole", spec := "fragmentWhole", unfollowed := true, recurses := true, apart := false }
def FragmentWholeSaid : Prop := fragmentWholeRow.holds Try.pinned (OpenSpec.ofChange fragmentWholeSpec)

/-- ITS FALSE NEIGHBOUR: 'it returns false'. Refute it at one input. -/
def fragmentWholeWrong : ChangeSpec := { name := "fragmentWhole", fn := fun _ => fun
  | [d1, d2, d3] => { results := [.lit (.bool false)], args := [d1, d2, d3] }
  | _ => none }
def FragmentWholeWrongFalsely : Prop := fragmentWholeRow.holds Try.pinned (OpenSpec.ofChange fragmentWholeWrong)

/-- 'wirelesslaw32.FragmentUnique': WHATEVER THE INPUT: true; the input reads as it did. -/
def fragmentUniqueSpec : ChangeSpec := { name := "fragmentUnique", fn := fun _ => fun
  | [d1, d2] => { results := [.lit (.bool true)], args := [d1, d2] }
  | _ => none }
def fragmentUniqueRow : OpenClaim := { program := "ytpcckohcoajenaa", sum := "7360f50fae44a4705e3bc9e3656a9c362a5a1fa1c12faa259abce7f803855f86", func := "wireless/wirelesslaw32.FragmentUnique", spec := "fragmentUnique", unfollowed := true, recurses := true, apart := false }
def FragmentUniqueSaid : Prop := fragmentUniqueRow.holds Try.pinned (OpenSpec.ofChange fragmentUniqueSpec)

/-- ITS FALSE NEIGHBOUR: 'it returns false'. Refute it at one input. -/
def fragmentUniqueWrong : ChangeSpec := { name := "fragmentUnique", fn := fun _ => fun
  | [d1, d2] => { results := [.lit (.bool false)], args := [d1, d2] }
  | _ => none }
def FragmentUniqueWrongFalsely : Prop := fragmentUniqueRow.holds Try.pinned (OpenSpec.ofChange fragmentUniqueWrong)

/-- 'wirelesslaw32.FragmentRecovers': WHATEVER THE INPUT: true; the input reads as it did. -/
def fragmentRecoversSpec : ChangeSpec := { name := "fragmentRecovers", fn := fun _ => fun
  | [d1, d2, d3] => { results := [.lit (.bool true)], args := [d1, d2, d3] }
  | _ => none }
def fragmentRecoversRow : OpenClaim := { program := "ytpcckohcoajenaa", sum := "7360f50fae44a4705e3bc9e3656a9c362a5a1fa1c12faa259abce7f803855f86", func := "wireless/wirelesslaw32.FragmentRecovers", spec := "fragmentRecovers", unfollowed := true, recurses := true, apart := false }
def FragmentRecoversSaid : Prop := fragmentRecoversRow.holds Try.pinned (OpenSpec.ofChange fragmentRecoversSpec)

/-- ITS FALSE NEIGHBOUR: 'it returns false'. Refute it at one input. -/
def fragmentRecoversWrong : ChangeSpec := { name := "fragmentRecovers", fn := fun _ => fun
  | [d1, d2, d3] => { results := [.lit (.bool false)], args := [d1, d2, d3] }
  | _ => none }
def FragmentRecoversWrongFalsely : Prop := fragmentRecoversRow.holds Try.pinned (OpenSpec.ofChange fragmentRecoversWrong)

/- THE SECOND FORM. 'bulk': how many values and letters a reading holds, each counted each time it is reached (what is shared counts as often as it is met; a slice's spare places count too). A statement '..UptoSaid' is the law's where the arguments, and the package variables that the reading takes, are together of bulk at most 1048576: NARROWER than '..Said'. Prove '..Said' where nothing that the law and all that it calls make is longer than what came in: it says more and counts as full. Else prove '..UptoSaid'. A law counts once. -/
mutual
def uptoBulk {H : Type} : DataW H → Nat
  | .lit (.string bytes) => bytes.length + 1
  | .lit _ => 1
  | .nil => 1
  | .ptr d => uptoBulk d + 1
  | .slice elems spare => uptoBulkAll elems + uptoBulkAll spare + 1
  | .agg parts => uptoBulkAll parts + 1
  | .iface _ d => uptoBulk d + 1
  | .map entries => uptoBulkEntries entries + 1
  | .held _ => 1
def uptoBulkAll {H : Type} : List (DataW H) → Nat
  | [] => 0
  | d :: r => uptoBulk d + uptoBulkAll r
def uptoBulkEntries {H : Type} : List (Lit × DataW H) → Nat
  | [] => 0
  | x :: r => uptoBulkEntry x + uptoBulkEntries r
def uptoBulkEntry {H : Type} : Lit × DataW H → Nat
  | (.string bytes, d) => bytes.length + uptoBulk d + 1
  | (_, d) => uptoBulk d + 1
 end
def uptoSmall : (H : Type) → List (DataW H) → Bool := fun _ ds => decide (uptoBulkAll ds ≤ 1048576)
def OpenSpec.upto (s : _root_.Go.ChangeSpec) : _root_.Go.OpenSpec := { _root_.Go.OpenSpec.ofChange s with cond := some uptoSmall }

/-- 'wirelesslaw32.FragmentEncodes', WHERE WHAT IT READS IS OF BULK AT MOST 1048576: true; the input reads as it did. -/
def fragmentEncodesUptoRow : OpenClaim := { program := "ytpcckohcoajenaa", sum := "7360f50fae44a4705e3bc9e3656a9c362a5a1fa1c12faa259abce7f803855f86", func := "wireless/wirelesslaw32.FragmentEncodes", spec := "fragmentEncodes", unfollowed := true, recurses := true, apart := false, narrowed := true }
def FragmentEncodesUptoSaid : Prop := fragmentEncodesUptoRow.holds Try.pinned (OpenSpec.upto fragmentEncodesSpec)

/-- 'wirelesslaw32.FragmentDecodes', WHERE WHAT IT READS IS OF BULK AT MOST 1048576: true; the input reads as it did. -/
def fragmentDecodesUptoRow : OpenClaim := { program := "ytpcckohcoajenaa", sum := "7360f50fae44a4705e3bc9e3656a9c362a5a1fa1c12faa259abce7f803855f86", func := "wireless/wirelesslaw32.FragmentDecodes", spec := "fragmentDecodes", unfollowed := true, recurses := true, apart := false, narrowed := true }
def FragmentDecodesUptoSaid : Prop := fragmentDecodesUptoRow.holds Try.pinned (OpenSpec.upto fragmentDecodesSpec)

/-- 'wirelesslaw32.FragmentSplits', WHERE WHAT IT READS IS OF BULK AT MOST 1048576: true; the input reads as it did. -/
def fragmentSplitsUptoRow : OpenClaim := { program := "ytpcckohcoajenaa", sum := "7360f50fae44a4705e3bc9e3656a9c362a5a1fa1c12faa259abce7f803855f86", func := "wireless/wirelesslaw32.FragmentSplits", spec := "fragmentSplits", unfollowed := true, recurses := true, apart := false, narrowed := true }
def FragmentSplitsUptoSaid : Prop := fragmentSplitsUptoRow.holds Try.pinned (OpenSpec.upto fragmentSplitsSpec)

/-- 'wirelesslaw32.FragmentFeeds', WHERE WHAT IT READS IS OF BULK AT MOST 1048576: true; the input reads as it did. -/
def fragmentFeedsUptoRow : OpenClaim := { program := "ytpcckohcoajenaa", sum := "7360f50fae44a4705e3bc9e3656a9c362a5a1fa1c12faa259abce7f803855f86", func := "wireless/wirelesslaw32.FragmentFeeds", spec := "fragmentFeeds", unfollowed := true, recurses := true, apart := false, narrowed := true }
def FragmentFeedsUptoSaid : Prop := fragmentFeedsUptoRow.holds Try.pinned (OpenSpec.upto fragmentFeedsSpec)

/-- 'wirelesslaw32.FragmentWhole', WHERE WHAT IT READS IS OF BULK AT MOST 1048576: true; the input reads as it did. -/
def fragmentWholeUptoRow : OpenClaim := { program := "ytpcckohcoajenaa", sum := "7360f50fae44a4705e3bc9e3656a9c362a5a1fa1c12faa259abce7f803855f86", func := "wireless/wirelesslaw32.FragmentWhole", spec := "fragmentWhole", unfollowed := true, recurses := true, apart := false, narrowed := true }
def FragmentWholeUptoSaid : Prop := fragmentWholeUptoRow.holds Try.pinned (OpenSpec.upto fragmentWholeSpec)

/-- 'wirelesslaw32.FragmentUnique', WHERE WHAT IT READS IS OF BULK AT MOST 1048576: true; the input reads as it did. -/
def fragmentUniqueUptoRow : OpenClaim := { program := "ytpcckohcoajenaa", sum := "7360f50fae44a4705e3bc9e3656a9c362a5a1fa1c12faa259abce7f803855f86", func := "wireless/wirelesslaw32.FragmentUnique", spec := "fragmentUnique", unfollowed := true, recurses := true, apart := false, narrowed := true }
def FragmentUniqueUptoSaid : Prop := fragmentUniqueUptoRow.holds Try.pinned (OpenSpec.upto fragmentUniqueSpec)

/-- 'wirelesslaw32.FragmentRecovers', WHERE WHAT IT READS IS OF BULK AT MOST 1048576: true; the input reads as it did. -/
def fragmentRecoversUptoRow : OpenClaim := { program := "ytpcckohcoajenaa", sum := "7360f50fae44a4705e3bc9e3656a9c362a5a1fa1c12faa259abce7f803855f86", func := "wireless/wirelesslaw32.FragmentRecovers", spec := "fragmentRecovers", unfollowed := true, recurses := true, apart := false, narrowed := true }
def FragmentRecoversUptoSaid : Prop := fragmentRecoversUptoRow.holds Try.pinned (OpenSpec.upto fragmentRecoversSpec)

end Rows
end Go.Proofs.Ytpcckohcoajenaa
