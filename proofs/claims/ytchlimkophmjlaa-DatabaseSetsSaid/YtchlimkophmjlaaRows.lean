/-
  No cell of these rows narrows 'for every input' (looked for: loops, veiled, ifaces, maps, wideKeys, modest, calm, conditions, laid).
  DERIVED. THE GIVEN ROWS OF THIS SEAT. 7 by the template 'for every input the law returns true; each argument reads behind the call as it read before'; 0 by the template 'total and deterministic' (their statements: YtchlimkophmjlaaTotals.lean).
  GIVEN WITH THE SEED: the statements are not yours to turn. If you find one false, say at which input.
  Laid BY PROGRAM, IN A SANDBOX (cutbox-rows.mjs): the forced cells as the released guide's own fill.sh prints them over the translation e1cd82a0d0d75793… (all of the seat's roots in one cut). By AI agents, Wed Nov 11 2026. No macro, syntax, notation, axiom, sorry.
-/
import Derived.Test.YtchlimkophmjlaaChecked
import GoSem.Claim
import GoSem.ClaimJoined
import GoSem.ClaimMapViews
import Derived.JoinedTies
import Derived.KernelRfl
namespace Go.Proofs.Ytchlimkophmjlaa
/- THE CELL 'sum', in the pinned program and in every row, IS THE sha256 OF THE DUMP (.gsa) THAT YtchlimkophmjlaaProg.lean LOADS. Nothing in Lean hashes anything: it is a label: what it is worth is what the hold of that sum in a sandbox is worth. -/
noncomputable def Try.pinned : Pinned := { name := "ytchlimkophmjlaa", sum := "e1cd82a0d0d757933b97e39ba4c1a5e1ccdab69bcee1bb74fba401a55888f7b4", checked := Try.checked }
namespace Rows
def none {H : Type} : Left H := { results := [], args := [] }

/-- 'wirelesslaw43.DatabaseChecks': WHATEVER THE INPUT: true; the input reads as it did. -/
def databaseChecksSpec : ChangeSpec := { name := "databaseChecks", fn := fun _ => fun
  | [d] => { results := [.lit (.bool true)], args := [d] }
  | _ => none }
def databaseChecksRow : OpenClaim := { program := "ytchlimkophmjlaa", sum := "e1cd82a0d0d757933b97e39ba4c1a5e1ccdab69bcee1bb74fba401a55888f7b4", func := "wireless/wirelesslaw43.DatabaseChecks", spec := "databaseChecks", unfollowed := true, recurses := true, apart := false }
def DatabaseChecksSaid : Prop := databaseChecksRow.holds Try.pinned (OpenSpec.ofChange databaseChecksSpec)

/-- ITS FALSE NEIGHBOUR: 'it returns false'. Refute it at one input. -/
def databaseChecksWrong : ChangeSpec := { name := "databaseChecks", fn := fun _ => fun
  | [d] => { results := [.lit (.bool false)], args := [d] }
  | _ => none }
def DatabaseChecksWrongFalsely : Prop := databaseChecksRow.holds Try.pinned (OpenSpec.ofChange databaseChecksWrong)

/-- 'wirelesslaw43.DatabaseBuilds': WHATEVER THE INPUT: true; the input reads as it did. -/
def databaseBuildsSpec : ChangeSpec := { name := "databaseBuilds", fn := fun _ => fun
  | [d1, d2] => { results := [.lit (.bool true)], args := [d1, d2] }
  | _ => none }
def databaseBuildsRow : OpenClaim := { program := "ytchlimkophmjlaa", sum := "e1cd82a0d0d757933b97e39ba4c1a5e1ccdab69bcee1bb74fba401a55888f7b4", func := "wireless/wirelesslaw43.DatabaseBuilds", spec := "databaseBuilds", unfollowed := true, recurses := true, apart := false }
def DatabaseBuildsSaid : Prop := databaseBuildsRow.holds Try.pinned (OpenSpec.ofChange databaseBuildsSpec)

/-- ITS FALSE NEIGHBOUR: 'it returns false'. Refute it at one input. -/
def databaseBuildsWrong : ChangeSpec := { name := "databaseBuilds", fn := fun _ => fun
  | [d1, d2] => { results := [.lit (.bool false)], args := [d1, d2] }
  | _ => none }
def DatabaseBuildsWrongFalsely : Prop := databaseBuildsRow.holds Try.pinned (OpenSpec.ofChange databaseBuildsWrong)

/-- 'wirelesslaw43.DatabaseDescribes': WHATEVER THE INPUT: true; the input reads as it did. -/
def databaseDescribesSpec : ChangeSpec := { name := "databaseDescribes", fn := fun _ => fun
  | [d1, d2] => { results := [.lit (.bool true)], args := [d1, d2] }
  | _ => none }
def databaseDescribesRow : OpenClaim := { program := "ytchlimkophmjlaa", sum := "e1cd82a0d0d757933b97e39ba4c1a5e1ccdab69bcee1bb74fba401a55888f7b4", func := "wireless/wirelesslaw43.DatabaseDescribes", spec := "databaseDescribes", unfollowed := true, recurses := true, apart := false }
def DatabaseDescribesSaid : Prop := databaseDescribesRow.holds Try.pinned (OpenSpec.ofChange databaseDescribesSpec)

/-- ITS FALSE NEIGHBOUR: 'it returns false'. Refute it at one input. -/
def databaseDescribesWrong : ChangeSpec := { name := "databaseDescribes", fn := fun _ => fun
  | [d1, d2] => { results := [.lit (.bool false)], args := [d1, d2] }
  | _ => none }
def DatabaseDescribesWrongFalsely : Prop := databaseDescribesRow.holds Try.pinned (OpenSpec.ofChange databaseDescribesWrong)

/-- 'wirelesslaw43.DatabaseFinds': WHATEVER THE INPUT: true; the input reads as it did. -/
def databaseFindsSpec : ChangeSpec := { name := "databaseFinds", fn := fun _ => fun
  | [d1, d2, d3] => { results := [.lit (.bool true)], args := [d1, d2, d3] }
  | _ => none }
def databaseFindsRow : OpenClaim := { program := "ytchlimkophmjlaa", sum := "e1cd82a0d0d757933b97e39ba4c1a5e1ccdab69bcee1bb74fba401a55888f7b4", func := "wireless/wirelesslaw43.DatabaseFinds", spec := "databaseFinds", unfollowed := true, recurses := true, apart := false }
def DatabaseFindsSaid : Prop := databaseFindsRow.holds Try.pinned (OpenSpec.ofChange databaseFindsSpec)

/-- ITS FALSE NEIGHBOUR: 'it returns false'. Refute it at one input. -/
def databaseFindsWrong : ChangeSpec := { name := "databaseFinds", fn := fun _ => fun
  | [d1, d2, d3] => { results := [.lit (.bool false)], args := [d1, d2, d3] }
  | _ => none }
def DatabaseFindsWrongFalsely : Prop := databaseFindsRow.holds Try.pinned (OpenSpec.ofChange databaseFindsWrong)

/-- 'wirelesslaw43.DatabaseCovers': WHATEVER THE INPUT: true; the input reads as it did. -/
def databaseCoversSpec : ChangeSpec := { name := "databaseCovers", fn := fun _ => fun
  | [d] => { results := [.lit (.bool true)], args := [d] }
  | _ => none }
def databaseCoversRow : OpenClaim := { program := "ytchlimkophmjlaa", sum := "e1cd82a0d0d757933b97e39ba4c1a5e1ccdab69bcee1bb74fba401a55888f7b4", func := "wireless/wirelesslaw43.DatabaseCovers", spec := "databaseCovers", unfollowed := true, recurses := true, apart := false }
def DatabaseCoversSaid : Prop := databaseCoversRow.holds Try.pinned (OpenSpec.ofChange databaseCoversSpec)

/-- ITS FALSE NEIGHBOUR: 'it returns false'. Refute it at one input. -/
def databaseCoversWrong : ChangeSpec := { name := "databaseCovers", fn := fun _ => fun
  | [d] => { results := [.lit (.bool false)], args := [d] }
  | _ => none }
def DatabaseCoversWrongFalsely : Prop := databaseCoversRow.holds Try.pinned (OpenSpec.ofChange databaseCoversWrong)

/-- 'wirelesslaw43.DatabaseFounds': WHATEVER THE INPUT: true; the input reads as it did. -/
def databaseFoundsSpec : ChangeSpec := { name := "databaseFounds", fn := fun _ => fun
  | [d] => { results := [.lit (.bool true)], args := [d] }
  | _ => none }
def databaseFoundsRow : OpenClaim := { program := "ytchlimkophmjlaa", sum := "e1cd82a0d0d757933b97e39ba4c1a5e1ccdab69bcee1bb74fba401a55888f7b4", func := "wireless/wirelesslaw43.DatabaseFounds", spec := "databaseFounds", unfollowed := true, recurses := true, apart := false }
def DatabaseFoundsSaid : Prop := databaseFoundsRow.holds Try.pinned (OpenSpec.ofChange databaseFoundsSpec)

/-- ITS FALSE NEIGHBOUR: 'it returns false'. Refute it at one input. -/
def databaseFoundsWrong : ChangeSpec := { name := "databaseFounds", fn := fun _ => fun
  | [d] => { results := [.lit (.bool false)], args := [d] }
  | _ => none }
def DatabaseFoundsWrongFalsely : Prop := databaseFoundsRow.holds Try.pinned (OpenSpec.ofChange databaseFoundsWrong)

/-- 'wirelesslaw43.DatabaseSets': WHATEVER THE INPUT: true; the input reads as it did. -/
def databaseSetsSpec : ChangeSpec := { name := "databaseSets", fn := fun _ => fun
  | [d1, d2, d3] => { results := [.lit (.bool true)], args := [d1, d2, d3] }
  | _ => none }
def databaseSetsRow : OpenClaim := { program := "ytchlimkophmjlaa", sum := "e1cd82a0d0d757933b97e39ba4c1a5e1ccdab69bcee1bb74fba401a55888f7b4", func := "wireless/wirelesslaw43.DatabaseSets", spec := "databaseSets", unfollowed := true, recurses := true, apart := false }
def DatabaseSetsSaid : Prop := databaseSetsRow.holds Try.pinned (OpenSpec.ofChange databaseSetsSpec)

/-- ITS FALSE NEIGHBOUR: 'it returns false'. Refute it at one input. -/
def databaseSetsWrong : ChangeSpec := { name := "databaseSets", fn := fun _ => fun
  | [d1, d2, d3] => { results := [.lit (.bool false)], args := [d1, d2, d3] }
  | _ => none }
def DatabaseSetsWrongFalsely : Prop := databaseSetsRow.holds Try.pinned (OpenSpec.ofChange databaseSetsWrong)

/- THE SECOND FORM. 'bulk': how many values and letters a reading holds, each counted each time it is reached (what is shared counts as often as it is met; a slice's spare places count too). A statement '..UptoSaid' is the law's where the arguments, and the package variables that the reading takes, are together of bulk at most 1048576: NARROWER than '..Said'. Prove '..Said' where nothing that the law and all that it calls make is longer than what came in: it says more and counts as full. Else prove '..UptoSaid'. A law counts once. -/
mutual
def uptoBulk {H : Type} : DataW H → Nat
  | .lit (.string bytes) => bytes.length + 1
  | .lit _ => 1
  | .nil => 1
  | .ptr d => uptoBulk d + 1
  | .slice elems spare => uptoBulkAll elems + uptoBulkAll spare + 1
  | .agg parts => uptoBulkAll parts + 1
  | .iface _ d => uptoBulk d + 1
  | .map entries => uptoBulkEntries entries + 1
  | .held _ => 1
def uptoBulkAll {H : Type} : List (DataW H) → Nat
  | [] => 0
  | d :: r => uptoBulk d + uptoBulkAll r
def uptoBulkEntries {H : Type} : List (Lit × DataW H) → Nat
  | [] => 0
  | x :: r => uptoBulkEntry x + uptoBulkEntries r
def uptoBulkEntry {H : Type} : Lit × DataW H → Nat
  | (.string bytes, d) => bytes.length + uptoBulk d + 1
  | (_, d) => uptoBulk d + 1
 end
def uptoSmall : (H : Type) → List (DataW H) → Bool := fun _ ds => decide (uptoBulkAll ds ≤ 1048576)
def OpenSpec.upto (s : _root_.Go.ChangeSpec) : _root_.Go.OpenSpec := { _root_.Go.OpenSpec.ofChange s with cond := some uptoSmall }

/-- 'wirelesslaw43.DatabaseChecks', WHERE WHAT IT READS IS OF BULK AT MOST 1048576: true; the input reads as it did. -/
def databaseChecksUptoRow : OpenClaim := { program := "ytchlimkophmjlaa", sum := "e1cd82a0d0d757933b97e39ba4c1a5e1ccdab69bcee1bb74fba401a55888f7b4", func := "wireless/wirelesslaw43.DatabaseChecks", spec := "databaseChecks", unfollowed := true, recurses := true, apart := false, narrowed := true }
def DatabaseChecksUptoSaid : Prop := databaseChecksUptoRow.holds Try.pinned (OpenSpec.upto databaseChecksSpec)

/-- 'wirelesslaw43.DatabaseBuilds', WHERE WHAT IT READS IS OF BULK AT MOST 1048576: true; the input reads as it did. -/
def databaseBuildsUptoRow : OpenClaim := { program := "ytchlimkophmjlaa", sum := "e1cd82a0d0d757933b97e39ba4c1a5e1ccdab69bcee1bb74fba401a55888f7b4", func := "wireless/wirelesslaw43.DatabaseBuilds", spec := "databaseBuilds", unfollowed := true, recurses := true, apart := false, narrowed := true }
def DatabaseBuildsUptoSaid : Prop := databaseBuildsUptoRow.holds Try.pinned (OpenSpec.upto databaseBuildsSpec)

/-- 'wirelesslaw43.DatabaseDescribes', WHERE WHAT IT READS IS OF BULK AT MOST 1048576: true; the input reads as it did. -/
def databaseDescribesUptoRow : OpenClaim := { program := "ytchlimkophmjlaa", sum := "e1cd82a0d0d757933b97e39ba4c1a5e1ccdab69bcee1bb74fba401a55888f7b4", func := "wireless/wirelesslaw43.DatabaseDescribes", spec := "databaseDescribes", unfollowed := true, recurses := true, apart := false, narrowed := true }
def DatabaseDescribesUptoSaid : Prop := databaseDescribesUptoRow.holds Try.pinned (OpenSpec.upto databaseDescribesSpec)

/-- 'wirelesslaw43.DatabaseFinds', WHERE WHAT IT READS IS OF BULK AT MOST 1048576: true; the input reads as it did. -/
def databaseFindsUptoRow : OpenClaim := { program := "ytchlimkophmjlaa", sum := "e1cd82a0d0d757933b97e39ba4c1a5e1ccdab69bcee1bb74fba401a55888f7b4", func := "wireless/wirelesslaw43.DatabaseFinds", spec := "databaseFinds", unfollowed := true, recurses := true, apart := false, narrowed := true }
def DatabaseFindsUptoSaid : Prop := databaseFindsUptoRow.holds Try.pinned (OpenSpec.upto databaseFindsSpec)

/-- 'wirelesslaw43.DatabaseCovers', WHERE WHAT IT READS IS OF BULK AT MOST 1048576: true; the input reads as it did. -/
def databaseCoversUptoRow : OpenClaim := { program := "ytchlimkophmjlaa", sum := "e1cd82a0d0d757933b97e39ba4c1a5e1ccdab69bcee1bb74fba401a55888f7b4", func := "wireless/wirelesslaw43.DatabaseCovers", spec := "databaseCovers", unfollowed := true, recurses := true, apart := false, narrowed := true }
def DatabaseCoversUptoSaid : Prop := databaseCoversUptoRow.holds Try.pinned (OpenSpec.upto databaseCoversSpec)

/-- 'wirelesslaw43.DatabaseFounds', WHERE WHAT IT READS IS OF BULK AT MOST 1048576: true; the input reads as it did. -/
def databaseFoundsUptoRow : OpenClaim := { program := "ytchlimkophmjlaa", sum := "e1cd82a0d0d757933b97e39ba4c1a5e1ccdab69bcee1bb74fba401a55888f7b4", func := "wireless/wirelesslaw43.DatabaseFounds", spec := "databaseFounds", unfollowed := true, recurses := true, apart := false, narrowed := true }
def DatabaseFoundsUptoSaid : Prop := databaseFoundsUptoRow.holds Try.pinned (OpenSpec.upto databaseFoundsSpec)

/-- 'wirelesslaw43.DatabaseSets', WHERE WHAT IT READS IS OF BULK AT MOST 1048576: true; the input reads as it did. -/
def databaseSetsUptoRow : OpenClaim := { program := "ytchlimkophmjlaa", sum := "e1cd82a0d0d757933b97e39ba4c1a5e1ccdab69bcee1bb74fba401a55888f7b4", func := "wireless/wirelesslaw43.DatabaseSets", spec := "databaseSets", unfollowed := true, recurses := true, apart := false, narrowed := true }
def DatabaseSetsUptoSaid : Prop := databaseSetsUptoRow.holds Try.pinned (OpenSpec.upto databaseSetsSpec)

end Rows
end Go.Proofs.Ytchlimkophmjlaa
