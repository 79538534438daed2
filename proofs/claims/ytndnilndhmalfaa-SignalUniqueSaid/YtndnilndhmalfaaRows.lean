/-
  No cell of these rows narrows 'for every input' (looked for: loops, veiled, ifaces, maps, wideKeys, modest, calm, conditions, laid).
  DERIVED. THE GIVEN ROWS OF THIS SEAT. 7 by the template 'for every input the law returns true; each argument reads behind the call as it read before'; 0 by the template 'total and deterministic' (their statements: YtndnilndhmalfaaTotals.lean).
  GIVEN WITH THE SEED: the statements are not yours to turn. If you find one false, say at which input.
  Laid BY PROGRAM, IN A SANDBOX (cutbox-rows.mjs): the forced cells as the released guide's own fill.sh prints them over the translation 1372af875ecd86a8… (all of the seat's roots in one cut). By AI agents, Wed Nov 11 2026. No macro, syntax, notation, axiom, sorry.
-/
import Derived.Test.YtndnilndhmalfaaChecked
import GoSem.Claim
import GoSem.ClaimJoined
import GoSem.ClaimMapViews
import Derived.JoinedTies
import Derived.KernelRfl
namespace Go.Proofs.Ytndnilndhmalfaa
/- THE CELL 'sum', in the pinned program and in every row, IS THE sha256 OF THE DUMP (.gsa) THAT YtndnilndhmalfaaProg.lean LOADS. Nothing in Lean hashes anything: it is a label: what it is worth is what the hold of that sum in a sandbox is worth. -/
noncomputable def Try.pinned : Pinned := { name := "ytndnilndhmalfaa", sum := "1372af875ecd86a8650cb04fbc9f563bb725846888b13be60b889c2939e482e4", checked := Try.checked }
namespace Rows
def none {H : Type} : Left H := { results := [], args := [] }

/-- 'wirelesslaw34.SignalChecks': WHATEVER THE INPUT: true; the input reads as it did. -/
def signalChecksSpec : ChangeSpec := { name := "signalChecks", fn := fun _ => fun
  | [d] => { results := [.lit (.bool true)], args := [d] }
  | _ => none }
def signalChecksRow : OpenClaim := { program := "ytndnilndhmalfaa", sum := "1372af875ecd86a8650cb04fbc9f563bb725846888b13be60b889c2939e482e4", func := "wireless/wirelesslaw34.SignalChecks", spec := "signalChecks", unfollowed := true, recurses := true, apart := false }
def SignalChecksSaid : Prop := signalChecksRow.holds Try.pinned (OpenSpec.ofChange signalChecksSpec)

/-- ITS FALSE NEIGHBOUR: 'it returns false'. Refute it at one input. -/
def signalChecksWrong : ChangeSpec := { name := "signalChecks", fn := fun _ => fun
  | [d] => { results := [.lit (.bool false)], args := [d] }
  | _ => none }
def SignalChecksWrongFalsely : Prop := signalChecksRow.holds Try.pinned (OpenSpec.ofChange signalChecksWrong)

/-- 'wirelesslaw34.SignalEncodes': WHATEVER THE INPUT: true; the input reads as it did. -/
def signalEncodesSpec : ChangeSpec := { name := "signalEncodes", fn := fun _ => fun
  | [d] => { results := [.lit (.bool true)], args := [d] }
  | _ => none }
def signalEncodesRow : OpenClaim := { program := "ytndnilndhmalfaa", sum := "1372af875ecd86a8650cb04fbc9f563bb725846888b13be60b889c2939e482e4", func := "wireless/wirelesslaw34.SignalEncodes", spec := "signalEncodes", unfollowed := true, recurses := true, apart := false }
def SignalEncodesSaid : Prop := signalEncodesRow.holds Try.pinned (OpenSpec.ofChange signalEncodesSpec)

/-- ITS FALSE NEIGHBOUR: 'it returns false'. Refute it at one input. -/
def signalEncodesWrong : ChangeSpec := { name := "signalEncodes", fn := fun _ => fun
  | [d] => { results := [.lit (.bool false)], args := [d] }
  | _ => none }
def SignalEncodesWrongFalsely : Prop := signalEncodesRow.holds Try.pinned (OpenSpec.ofChange signalEncodesWrong)

/-- 'wirelesslaw34.SignalDecodes': WHATEVER THE INPUT: true; the input reads as it did. -/
def signalDecodesSpec : ChangeSpec := { name := "signalDecodes", fn := fun _ => fun
  | [d] => { results := [.lit (.bool true)], args := [d] }
  | _ => none }
def signalDecodesRow : OpenClaim := { program := "ytndnilndhmalfaa", sum := "1372af875ecd86a8650cb04fbc9f563bb725846888b13be60b889c2939e482e4", func := "wireless/wirelesslaw34.SignalDecodes", spec := "signalDecodes", unfollowed := true, recurses := true, apart := false }
def SignalDecodesSaid : Prop := signalDecodesRow.holds Try.pinned (OpenSpec.ofChange signalDecodesSpec)

/-- ITS FALSE NEIGHBOUR: 'it returns false'. Refute it at one input. -/
def signalDecodesWrong : ChangeSpec := { name := "signalDecodes", fn := fun _ => fun
  | [d] => { results := [.lit (.bool false)], args := [d] }
  | _ => none }
def SignalDecodesWrongFalsely : Prop := signalDecodesRow.holds Try.pinned (OpenSpec.ofChange signalDecodesWrong)

/-- 'wirelesslaw34.SignalBack': WHATEVER THE INPUT: true; the input reads as it did. -/
def signalBackSpec : ChangeSpec := { name := "signalBack", fn := fun _ => fun
  | [d] => { results := [.lit (.bool true)], args := [d] }
  | _ => none }
def signalBackRow : OpenClaim := { program := "ytndnilndhmalfaa", sum := "1372af875ecd86a8650cb04fbc9f563bb725846888b13be60b889c2939e482e4", func := "wireless/wirelesslaw34.SignalBack", spec := "signalBack", unfollowed := true, recurses := true, apart := false }
def SignalBackSaid : Prop := signalBackRow.holds Try.pinned (OpenSpec.ofChange signalBackSpec)

/-- ITS FALSE NEIGHBOUR: 'it returns false'. Refute it at one input. -/
def signalBackWrong : ChangeSpec := { name := "signalBack", fn := fun _ => fun
  | [d] => { results := [.lit (.bool false)], args := [d] }
  | _ => none }
def SignalBackWrongFalsely : Prop := signalBackRow.holds Try.pinned (OpenSpec.ofChange signalBackWrong)

/-- 'wirelesslaw34.SignalUnique': WHATEVER THE INPUT: true; the input reads as it did. -/
def signalUniqueSpec : ChangeSpec := { name := "signalUnique", fn := fun _ => fun
  | [d] => { results := [.lit (.bool true)], args := [d] }
  | _ => none }
def signalUniqueRow : OpenClaim := { program := "ytndnilndhmalfaa", sum := "1372af875ecd86a8650cb04fbc9f563bb725846888b13be60b889c2939e482e4", func := "wireless/wirelesslaw34.SignalUnique", spec := "signalUnique", unfollowed := true, recurses := true, apart := false }
def SignalUniqueSaid : Prop := signalUniqueRow.holds Try.pinned (OpenSpec.ofChange signalUniqueSpec)

/-- ITS FALSE NEIGHBOUR: 'it returns false'. Refute it at one input. -/
def signalUniqueWrong : ChangeSpec := { name := "signalUnique", fn := fun _ => fun
  | [d] => { results := [.lit (.bool false)], args := [d] }
  | _ => none }
def SignalUniqueWrongFalsely : Prop := signalUniqueRow.holds Try.pinned (OpenSpec.ofChange signalUniqueWrong)

/-- 'wirelesslaw34.SignalAnswers': WHATEVER THE INPUT: true; the input reads as it did. -/
def signalAnswersSpec : ChangeSpec := { name := "signalAnswers", fn := fun _ => fun
  | [d1, d2] => { results := [.lit (.bool true)], args := [d1, d2] }
  | _ => none }
def signalAnswersRow : OpenClaim := { program := "ytndnilndhmalfaa", sum := "1372af875ecd86a8650cb04fbc9f563bb725846888b13be60b889c2939e482e4", func := "wireless/wirelesslaw34.SignalAnswers", spec := "signalAnswers", unfollowed := true, recurses := true, apart := false }
def SignalAnswersSaid : Prop := signalAnswersRow.holds Try.pinned (OpenSpec.ofChange signalAnswersSpec)

/-- ITS FALSE NEIGHBOUR: 'it returns false'. Refute it at one input. -/
def signalAnswersWrong : ChangeSpec := { name := "signalAnswers", fn := fun _ => fun
  | [d1, d2] => { results := [.lit (.bool false)], args := [d1, d2] }
  | _ => none }
def SignalAnswersWrongFalsely : Prop := signalAnswersRow.holds Try.pinned (OpenSpec.ofChange signalAnswersWrong)

/-- 'wirelesslaw34.SignalEnds': WHATEVER THE INPUT: true; the input reads as it did. -/
def signalEndsSpec : ChangeSpec := { name := "signalEnds", fn := fun _ => fun
  | [d1, d2, d3] => { results := [.lit (.bool true)], args := [d1, d2, d3] }
  | _ => none }
def signalEndsRow : OpenClaim := { program := "ytndnilndhmalfaa", sum := "1372af875ecd86a8650cb04fbc9f563bb725846888b13be60b889c2939e482e4", func := "wireless/wirelesslaw34.SignalEnds", spec := "signalEnds", unfollowed := true, recurses := true, apart := false }
def SignalEndsSaid : Prop := signalEndsRow.holds Try.pinned (OpenSpec.ofChange signalEndsSpec)

/-- ITS FALSE NEIGHBOUR: 'it returns false'. Refute it at one input. -/
def signalEndsWrong : ChangeSpec := { name := "signalEnds", fn := fun _ => fun
  | [d1, d2, d3] => { results := [.lit (.bool false)], args := [d1, d2, d3] }
  | _ => none }
def SignalEndsWrongFalsely : Prop := signalEndsRow.holds Try.pinned (OpenSpec.ofChange signalEndsWrong)

/- THE SECOND FORM. 'bulk': how many values and letters a reading holds, each counted each time it is reached (what is shared counts as often as it is met; a slice's spare places count too). A statement '..UptoSaid' is the law's where the arguments, and the package variables that the reading takes, are together of bulk at most 1048576: NARROWER than '..Said'. Prove '..Said' where nothing that the law and all that it calls make is longer than what came in: it says more and counts as full. Else prove '..UptoSaid'. A law counts once. -/
mutual
def uptoBulk {H : Type} : DataW H → Nat
  | .lit (.string bytes) => bytes.length + 1
  | .lit _ => 1
  | .nil => 1
  | .ptr d => uptoBulk d + 1
  | .slice elems spare => uptoBulkAll elems + uptoBulkAll spare + 1
  | .agg parts => uptoBulkAll parts + 1
  | .iface _ d => uptoBulk d + 1
  | .map entries => uptoBulkEntries entries + 1
  | .held _ => 1
def uptoBulkAll {H : Type} : List (DataW H) → Nat
  | [] => 0
  | d :: r => uptoBulk d + uptoBulkAll r
def uptoBulkEntries {H : Type} : List (Lit × DataW H) → Nat
  | [] => 0
  | x :: r => uptoBulkEntry x + uptoBulkEntries r
def uptoBulkEntry {H : Type} : Lit × DataW H → Nat
  | (.string bytes, d) => bytes.length + uptoBulk d + 1
  | (_, d) => uptoBulk d + 1
 end
def uptoSmall : (H : Type) → List (DataW H) → Bool := fun _ ds => decide (uptoBulkAll ds ≤ 1048576)
def OpenSpec.upto (s : _root_.Go.ChangeSpec) : _root_.Go.OpenSpec := { _root_.Go.OpenSpec.ofChange s with cond := some uptoSmall }

/-- 'wirelesslaw34.SignalChecks', WHERE WHAT IT READS IS OF BULK AT MOST 1048576: true; the input reads as it did. -/
def signalChecksUptoRow : OpenClaim := { program := "ytndnilndhmalfaa", sum := "1372af875ecd86a8650cb04fbc9f563bb725846888b13be60b889c2939e482e4", func := "wireless/wirelesslaw34.SignalChecks", spec := "signalChecks", unfollowed := true, recurses := true, apart := false, narrowed := true }
def SignalChecksUptoSaid : Prop := signalChecksUptoRow.holds Try.pinned (OpenSpec.upto signalChecksSpec)

/-- 'wirelesslaw34.SignalEncodes', WHERE WHAT IT READS IS OF BULK AT MOST 1048576: true; the input reads as it did. -/
def signalEncodesUptoRow : OpenClaim := { program := "ytndnilndhmalfaa", sum := "1372af875ecd86a8650cb04fbc9f563bb725846888b13be60b889c2939e482e4", func := "wireless/wirelesslaw34.SignalEncodes", spec := "signalEncodes", unfollowed := true, recurses := true, apart := false, narrowed := true }
def SignalEncodesUptoSaid : Prop := signalEncodesUptoRow.holds Try.pinned (OpenSpec.upto signalEncodesSpec)

/-- 'wirelesslaw34.SignalDecodes', WHERE WHAT IT READS IS OF BULK AT MOST 1048576: true; the input reads as it did. -/
def signalDecodesUptoRow : OpenClaim := { program := "ytndnilndhmalfaa", sum := "1372af875ecd86a8650cb04fbc9f563bb725846888b13be60b889c2939e482e4", func := "wireless/wirelesslaw34.SignalDecodes", spec := "signalDecodes", unfollowed := true, recurses := true, apart := false, narrowed := true }
def SignalDecodesUptoSaid : Prop := signalDecodesUptoRow.holds Try.pinned (OpenSpec.upto signalDecodesSpec)

/-- 'wirelesslaw34.SignalBack', WHERE WHAT IT READS IS OF BULK AT MOST 1048576: true; the input reads as it did. -/
def signalBackUptoRow : OpenClaim := { program := "ytndnilndhmalfaa", sum := "1372af875ecd86a8650cb04fbc9f563bb725846888b13be60b889c2939e482e4", func := "wireless/wirelesslaw34.SignalBack", spec := "signalBack", unfollowed := true, recurses := true, apart := false, narrowed := true }
def SignalBackUptoSaid : Prop := signalBackUptoRow.holds Try.pinned (OpenSpec.upto signalBackSpec)

/-- 'wirelesslaw34.SignalUnique', WHERE WHAT IT READS IS OF BULK AT MOST 1048576: true; the input reads as it did. -/
def signalUniqueUptoRow : OpenClaim := { program := "ytndnilndhmalfaa", sum := "1372af875ecd86a8650cb04fbc9f563bb725846888b13be60b889c2939e482e4", func := "wireless/wirelesslaw34.SignalUnique", spec := "signalUnique", unfollowed := true, recurses := true, apart := false, narrowed := true }
def SignalUniqueUptoSaid : Prop := signalUniqueUptoRow.holds Try.pinned (OpenSpec.upto signalUniqueSpec)

/-- 'wirelesslaw34.SignalAnswers', WHERE WHAT IT READS IS OF BULK AT MOST 1048576: true; the input reads as it did. -/
def signalAnswersUptoRow : OpenClaim := { program := "ytndnilndhmalfaa", sum := "1372af875ecd86a8650cb04fbc9f563bb725846888b13be60b889c2939e482e4", func := "wireless/wirelesslaw34.SignalAnswers", spec := "signalAnswers", unfollowed := true, recurses := true, apart := false, narrowed := true }
def SignalAnswersUptoSaid : Prop := signalAnswersUptoRow.holds Try.pinned (OpenSpec.upto signalAnswersSpec)

/-- 'wirelesslaw34.SignalEnds', WHERE WHAT IT READS IS OF BULK AT MOST 1048576: true; the input reads as it did. -/
def signalEndsUptoRow : OpenClaim := { program := "ytndnilndhmalfaa", sum := "1372af875ecd86a8650cb04fbc9f563bb725846888b13be60b889c2939e482e4", func := "wireless/wirelesslaw34.SignalEnds", spec := "signalEnds", unfollowed := true, recurses := true, apart := false, narrowed := true }
def SignalEndsUptoSaid : Prop := signalEndsUptoRow.holds Try.pinned (OpenSpec.upto signalEndsSpec)

end Rows
end Go.Proofs.Ytndnilndhmalfaa
