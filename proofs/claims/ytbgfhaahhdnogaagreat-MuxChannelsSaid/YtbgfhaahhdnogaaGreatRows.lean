/-
  No cell of these rows narrows 'for every input' (looked for: loops, veiled, ifaces, maps, wideKeys, modest, calm, conditions, laid).
  DERIVED. THE GIVEN ROWS OF THIS SEAT. 5 by the template 'for every input the law returns true; each argument reads behind the call as it read before'; 0 by the template 'total and deterministic' (their statements: YtbgfhaahhdnogaaGreatTotals.lean).
  GIVEN WITH THE SEED: the statements are not yours to turn. If you find one false, say at which input.
  Laid BY PROGRAM, IN A SANDBOX (cutbox-rows.mjs): the forced cells as the released guide's own fill.sh prints them over the translation e2bfc567803ba35e… (all of the seat's roots in one cut). By AI agents, Wed Nov 11 2026. No macro, syntax, notation, axiom, sorry.
-/
import Derived.Test.YtbgfhaahhdnogaaGreatChecked
import GoSem.Claim
import GoSem.ClaimJoined
import GoSem.ClaimMapViews
import Derived.JoinedTies
import Derived.KernelRfl
namespace Go.Proofs.YtbgfhaahhdnogaaGreat
/- THE CELL 'sum', in the pinned program and in every row, IS THE sha256 OF THE DUMP (.gsa) THAT YtbgfhaahhdnogaaGreatProg.lean LOADS. Nothing in Lean hashes anything: it is a label: what it is worth is what the hold of that sum in a sandbox is worth. -/
noncomputable def Tryz.pinned : Pinned := { name := "ytbgfhaahhdnogaagreat", sum := "e2bfc567803ba35e1d77e534c3de843ac2731ed8e6091d25475826121eef91e0", checked := Tryz.checked }
namespace Rows
def none {H : Type} : Left H := { results := [], args := [] }

/-- 'wirelesslaw35.MuxNews': WHATEVER THE INPUT: true; the input reads as it did. -/
def muxNewsSpec : ChangeSpec := { name := "muxNews", fn := fun _ => fun
  | [d1, d2, d3] => { results := [.lit (.bool true)], args := [d1, d2, d3] }
  | _ => none }
def muxNewsRow : OpenClaim := { program := "ytbgfhaahhdnogaagreat", sum := "e2bfc567803ba35e1d77e534c3de843ac2731ed8e6091d25475826121eef91e0", func := "wireless/wirelesslaw35.MuxNews", spec := "muxNews", inPlace := ["slices.overlaps[wireless/api.Channel]"], unfollowed := true, recurses := true, apart := false }
def MuxNewsSaid : Prop := muxNewsRow.holds Tryz.pinned (OpenSpec.ofChange muxNewsSpec)

/-- ITS FALSE NEIGHBOUR: 'it returns false'. Refute it at one input. -/
def muxNewsWrong : ChangeSpec := { name := "muxNews", fn := fun _ => fun
  | [d1, d2, d3] => { results := [.lit (.bool false)], args := [d1, d2, d3] }
  | _ => none }
def MuxNewsWrongFalsely : Prop := muxNewsRow.holds Tryz.pinned (OpenSpec.ofChange muxNewsWrong)

/-- 'wirelesslaw35.MuxPlays': WHATEVER THE INPUT: true; the input reads as it did. -/
def muxPlaysSpec : ChangeSpec := { name := "muxPlays", fn := fun _ => fun
  | [d] => { results := [.lit (.bool true)], args := [d] }
  | _ => none }
def muxPlaysRow : OpenClaim := { program := "ytbgfhaahhdnogaagreat", sum := "e2bfc567803ba35e1d77e534c3de843ac2731ed8e6091d25475826121eef91e0", func := "wireless/wirelesslaw35.MuxPlays", spec := "muxPlays", inPlace := ["slices.overlaps[wireless/api.Channel]"], unfollowed := true, recurses := true, apart := false }
def MuxPlaysSaid : Prop := muxPlaysRow.holds Tryz.pinned (OpenSpec.ofChange muxPlaysSpec)

/-- ITS FALSE NEIGHBOUR: 'it returns false'. Refute it at one input. -/
def muxPlaysWrong : ChangeSpec := { name := "muxPlays", fn := fun _ => fun
  | [d] => { results := [.lit (.bool false)], args := [d] }
  | _ => none }
def MuxPlaysWrongFalsely : Prop := muxPlaysRow.holds Tryz.pinned (OpenSpec.ofChange muxPlaysWrong)

/-- 'wirelesslaw35.MuxChannels': WHATEVER THE INPUT: true; the input reads as it did. -/
def muxChannelsSpec : ChangeSpec := { name := "muxChannels", fn := fun _ => fun
  | [d] => { results := [.lit (.bool true)], args := [d] }
  | _ => none }
def muxChannelsRow : OpenClaim := { program := "ytbgfhaahhdnogaagreat", sum := "e2bfc567803ba35e1d77e534c3de843ac2731ed8e6091d25475826121eef91e0", func := "wireless/wirelesslaw35.MuxChannels", spec := "muxChannels", inPlace := ["slices.overlaps[wireless/api.Channel]"], unfollowed := true, recurses := true, apart := false }
def MuxChannelsSaid : Prop := muxChannelsRow.holds Tryz.pinned (OpenSpec.ofChange muxChannelsSpec)

/-- ITS FALSE NEIGHBOUR: 'it returns false'. Refute it at one input. -/
def muxChannelsWrong : ChangeSpec := { name := "muxChannels", fn := fun _ => fun
  | [d] => { results := [.lit (.bool false)], args := [d] }
  | _ => none }
def MuxChannelsWrongFalsely : Prop := muxChannelsRow.holds Tryz.pinned (OpenSpec.ofChange muxChannelsWrong)

/-- 'wirelesslaw35.MuxFixed': WHATEVER THE INPUT: true; the input reads as it did. -/
def muxFixedSpec : ChangeSpec := { name := "muxFixed", fn := fun _ => fun
  | [d] => { results := [.lit (.bool true)], args := [d] }
  | _ => none }
def muxFixedRow : OpenClaim := { program := "ytbgfhaahhdnogaagreat", sum := "e2bfc567803ba35e1d77e534c3de843ac2731ed8e6091d25475826121eef91e0", func := "wireless/wirelesslaw35.MuxFixed", spec := "muxFixed", inPlace := ["slices.overlaps[wireless/api.Channel]"], unfollowed := true, recurses := true, apart := false }
def MuxFixedSaid : Prop := muxFixedRow.holds Tryz.pinned (OpenSpec.ofChange muxFixedSpec)

/-- ITS FALSE NEIGHBOUR: 'it returns false'. Refute it at one input. -/
def muxFixedWrong : ChangeSpec := { name := "muxFixed", fn := fun _ => fun
  | [d] => { results := [.lit (.bool false)], args := [d] }
  | _ => none }
def MuxFixedWrongFalsely : Prop := muxFixedRow.holds Tryz.pinned (OpenSpec.ofChange muxFixedWrong)

/-- 'wirelesslaw35.MuxAnswers': WHATEVER THE INPUT: true; the input reads as it did. -/
def muxAnswersSpec : ChangeSpec := { name := "muxAnswers", fn := fun _ => fun
  | [d] => { results := [.lit (.bool true)], args := [d] }
  | _ => none }
def muxAnswersRow : OpenClaim := { program := "ytbgfhaahhdnogaagreat", sum := "e2bfc567803ba35e1d77e534c3de843ac2731ed8e6091d25475826121eef91e0", func := "wireless/wirelesslaw35.MuxAnswers", spec := "muxAnswers", inPlace := ["slices.overlaps[wireless/api.Channel]"], unfollowed := true, recurses := true, apart := false }
def MuxAnswersSaid : Prop := muxAnswersRow.holds Tryz.pinned (OpenSpec.ofChange muxAnswersSpec)

/-- ITS FALSE NEIGHBOUR: 'it returns false'. Refute it at one input. -/
def muxAnswersWrong : ChangeSpec := { name := "muxAnswers", fn := fun _ => fun
  | [d] => { results := [.lit (.bool false)], args := [d] }
  | _ => none }
def MuxAnswersWrongFalsely : Prop := muxAnswersRow.holds Tryz.pinned (OpenSpec.ofChange muxAnswersWrong)

/- THE SECOND FORM. 'bulk': how many values and letters a reading holds, each counted each time it is reached (what is shared counts as often as it is met; a slice's spare places count too). A statement '..UptoSaid' is the law's where the arguments, and the package variables that the reading takes, are together of bulk at most 1048576: NARROWER than '..Said'. Prove '..Said' where nothing that the law and all that it calls make is longer than what came in: it says more and counts as full. Else prove '..UptoSaid'. A law counts once. -/
mutual
def uptoBulk {H : Type} : DataW H → Nat
  | .lit (.string bytes) => bytes.length + 1
  | .lit _ => 1
  | .nil => 1
  | .ptr d => uptoBulk d + 1
  | .slice elems spare => uptoBulkAll elems + uptoBulkAll spare + 1
  | .agg parts => uptoBulkAll parts + 1
  | .iface _ d => uptoBulk d + 1
  | .map entries => uptoBulkEntries entries + 1
  | .held _ => 1
def uptoBulkAll {H : Type} : List (DataW H) → Nat
  | [] => 0
  | d :: r => uptoBulk d + uptoBulkAll r
def uptoBulkEntries {H : Type} : List (Lit × DataW H) → Nat
  | [] => 0
  | x :: r => uptoBulkEntry x + uptoBulkEntries r
def uptoBulkEntry {H : Type} : Lit × DataW H → Nat
  | (.string bytes, d) => bytes.length + uptoBulk d + 1
  | (_, d) => uptoBulk d + 1
 end
def uptoSmall : (H : Type) → List (DataW H) → Bool := fun _ ds => decide (uptoBulkAll ds ≤ 1048576)
def OpenSpec.upto (s : _root_.Go.ChangeSpec) : _root_.Go.OpenSpec := { _root_.Go.OpenSpec.ofChange s with cond := some uptoSmall }

/-- 'wirelesslaw35.MuxNews', WHERE WHAT IT READS IS OF BULK AT MOST 1048576: true; the input reads as it did. -/
def muxNewsUptoRow : OpenClaim := { program := "ytbgfhaahhdnogaagreat", sum := "e2bfc567803ba35e1d77e534c3de843ac2731ed8e6091d25475826121eef91e0", func := "wireless/wirelesslaw35.MuxNews", spec := "muxNews", inPlace := ["slices.overlaps[wireless/api.Channel]"], unfollowed := true, recurses := true, apart := false, narrowed := true }
def MuxNewsUptoSaid : Prop := muxNewsUptoRow.holds Tryz.pinned (OpenSpec.upto muxNewsSpec)

/-- 'wirelesslaw35.MuxPlays', WHERE WHAT IT READS IS OF BULK AT MOST 1048576: true; the input reads as it did. -/
def muxPlaysUptoRow : OpenClaim := { program := "ytbgfhaahhdnogaagreat", sum := "e2bfc567803ba35e1d77e534c3de843ac2731ed8e6091d25475826121eef91e0", func := "wireless/wirelesslaw35.MuxPlays", spec := "muxPlays", inPlace := ["slices.overlaps[wireless/api.Channel]"], unfollowed := true, recurses := true, apart := false, narrowed := true }
def MuxPlaysUptoSaid : Prop := muxPlaysUptoRow.holds Tryz.pinned (OpenSpec.upto muxPlaysSpec)

/-- 'wirelesslaw35.MuxChannels', WHERE WHAT IT READS IS OF BULK AT MOST 1048576: true; the input reads as it did. -/
def muxChannelsUptoRow : OpenClaim := { program := "ytbgfhaahhdnogaagreat", sum := "e2bfc567803ba35e1d77e534c3de843ac2731ed8e6091d25475826121eef91e0", func := "wireless/wirelesslaw35.MuxChannels", spec := "muxChannels", inPlace := ["slices.overlaps[wireless/api.Channel]"], unfollowed := true, recurses := true, apart := false, narrowed := true }
def MuxChannelsUptoSaid : Prop := muxChannelsUptoRow.holds Tryz.pinned (OpenSpec.upto muxChannelsSpec)

/-- 'wirelesslaw35.MuxFixed', WHERE WHAT IT READS IS OF BULK AT MOST 1048576: true; the input reads as it did. -/
def muxFixedUptoRow : OpenClaim := { program := "ytbgfhaahhdnogaagreat", sum := "e2bfc567803ba35e1d77e534c3de843ac2731ed8e6091d25475826121eef91e0", func := "wireless/wirelesslaw35.MuxFixed", spec := "muxFixed", inPlace := ["slices.overlaps[wireless/api.Channel]"], unfollowed := true, recurses := true, apart := false, narrowed := true }
def MuxFixedUptoSaid : Prop := muxFixedUptoRow.holds Tryz.pinned (OpenSpec.upto muxFixedSpec)

/-- 'wirelesslaw35.MuxAnswers', WHERE WHAT IT READS IS OF BULK AT MOST 1048576: true; the input reads as it did. -/
def muxAnswersUptoRow : OpenClaim := { program := "ytbgfhaahhdnogaagreat", sum := "e2bfc567803ba35e1d77e534c3de843ac2731ed8e6091d25475826121eef91e0", func := "wireless/wirelesslaw35.MuxAnswers", spec := "muxAnswers", inPlace := ["slices.overlaps[wireless/api.Channel]"], unfollowed := true, recurses := true, apart := false, narrowed := true }
def MuxAnswersUptoSaid : Prop := muxAnswersUptoRow.holds Tryz.pinned (OpenSpec.upto muxAnswersSpec)

end Rows
end Go.Proofs.YtbgfhaahhdnogaaGreat
