/-
  No cell of these rows narrows 'for every input' (looked for: loops, veiled, ifaces, maps, wideKeys, modest, calm, conditions, laid).
  DERIVED. THE GIVEN ROWS OF THIS SEAT. 6 by the template 'for every input the law returns true; each argument reads behind the call as it read before'; 0 by the template 'total and deterministic' (their statements: YtfdiabglpgkbeaaTotals.lean).
  GIVEN WITH THE SEED: the statements are not yours to turn. If you find one false, say at which input.
  Laid BY PROGRAM, IN A SANDBOX (cutbox-rows.mjs): the forced cells as the released guide's own fill.sh prints them over the translation 8433e1f9d836c208… (all of the seat's roots in one cut). By AI agents, Wed Nov 11 2026. No macro, syntax, notation, axiom, sorry.
-/
import Derived.Test.YtfdiabglpgkbeaaChecked
import GoSem.Claim
import GoSem.ClaimJoined
import GoSem.ClaimMapViews
import Derived.JoinedTies
import Derived.KernelRfl
namespace Go.Proofs.Ytfdiabglpgkbeaa
/- THE CELL 'sum', in the pinned program and in every row, IS THE sha256 OF THE DUMP (.gsa) THAT YtfdiabglpgkbeaaProg.lean LOADS. Nothing in Lean hashes anything: it is a label: what it is worth is what the hold of that sum in a sandbox is worth. -/
noncomputable def Try.pinned : Pinned := { name := "ytfdiabglpgkbeaa", sum := "8433e1f9d836c208ec1c339328a29a5646c7fd246c7d5896865656ea572adcd6", checked := Try.checked }
namespace Rows
def none {H : Type} : Left H := { results := [], args := [] }

/-- 'wirelesslaw33.SduOutputs': WHATEVER THE INPUT: true; the input reads as it did. -/
def sduOutputsSpec : ChangeSpec := { name := "sduOutputs", fn := fun _ => fun
  | [d] => { results := [.lit (.bool true)], args := [d] }
  | _ => none }
def sduOutputsRow : OpenClaim := { program := "ytfdiabglpgkbeaa", sum := "8433e1f9d836c208ec1c339328a29a5646c7fd246c7d5896865656ea572adcd6", func := "wireless/wirelesslaw33.SduOutputs", spec := "sduOutputs", unfollowed := true, recurses := true, apart := false }
def SduOutputsSaid : Prop := sduOutputsRow.holds Try.pinned (OpenSpec.ofChange sduOutputsSpec)

/-- ITS FALSE NEIGHBOUR: 'it returns false'. Refute it at one input. -/
def sduOutputsWrong : ChangeSpec := { name := "sduOutputs", fn := fun _ => fun
  | [d] => { results := [.lit (.bool false)], args := [d] }
  | _ => none }
def SduOutputsWrongFalsely : Prop := sduOutputsRow.holds Try.pinned (OpenSpec.ofChange sduOutputsWrong)

/-- 'wirelesslaw33.SduInputs': WHATEVER THE INPUT: true; the input reads as it did. -/
def sduInputsSpec : ChangeSpec := { name := "sduInputs", fn := fun _ => fun
  | [d1, d2] => { results := [.lit (.bool true)], args := [d1, d2] }
  | _ => none }
def sduInputsRow : OpenClaim := { program := "ytfdiabglpgkbeaa", sum := "8433e1f9d836c208ec1c339328a29a5646c7fd246c7d5896865656ea572adcd6", func := "wireless/wirelesslaw33.SduInputs", spec := "sduInputs", unfollowed := true, recurses := true, apart := false }
def SduInputsSaid : Prop := sduInputsRow.holds Try.pinned (OpenSpec.ofChange sduInputsSpec)

/-- ITS FALSE NEIGHBOUR: 'it returns false'. Refute it at one input. -/
def sduInputsWrong : ChangeSpec := { name := "sduInputs", fn := fun _ => fun
  | [d1, d2] => { results := [.lit (.bool false)], args := [d1, d2] }
  | _ => none }
def SduInputsWrongFalsely : Prop := sduInputsRow.holds Try.pinned (OpenSpec.ofChange sduInputsWrong)

/-- 'wirelesslaw33.SduDivides': WHATEVER THE INPUT: true; the input reads as it did. -/
def sduDividesSpec : ChangeSpec := { name := "sduDivides", fn := fun _ => fun
  | [d1, d2, d3] => { results := [.lit (.bool true)], args := [d1, d2, d3] }
  | _ => none }
def sduDividesRow : OpenClaim := { program := "ytfdiabglpgkbeaa", sum := "8433e1f9d836c208ec1c339328a29a5646c7fd246c7d5896865656ea572adcd6", func := "wireless/wirelesslaw33.SduDivides", spec := "sduDivides", unfollowed := true, recurses := true, apart := false }
def SduDividesSaid : Prop := sduDividesRow.holds Try.pinned (OpenSpec.ofChange sduDividesSpec)

/-- ITS FALSE NEIGHBOUR: 'it returns false'. Refute it at one input. -/
def sduDividesWrong : ChangeSpec := { name := "sduDivides", fn := fun _ => fun
  | [d1, d2, d3] => { results := [.lit (.bool false)], args := [d1, d2, d3] }
  | _ => none }
def SduDividesWrongFalsely : Prop := sduDividesRow.holds Try.pinned (OpenSpec.ofChange sduDividesWrong)

/-- 'wirelesslaw33.SduQueues': WHATEVER THE INPUT: true; the input reads as it did. -/
def sduQueuesSpec : ChangeSpec := { name := "sduQueues", fn := fun _ => fun
  | [d1, d2, d3] => { results := [.lit (.bool true)], args := [d1, d2, d3] }
  | _ => none }
def sduQueuesRow : OpenClaim := { program := "ytfdiabglpgkbeaa", sum := "8433e1f9d836c208ec1c339328a29a5646c7fd246c7d5896865656ea572adcd6", func := "wireless/wirelesslaw33.SduQueues", spec := "sduQueues", unfollowed := true, recurses := true, apart := false }
def SduQueuesSaid : Prop := sduQueuesRow.holds Try.pinned (OpenSpec.ofChange sduQueuesSpec)

/-- ITS FALSE NEIGHBOUR: 'it returns false'. Refute it at one input. -/
def sduQueuesWrong : ChangeSpec := { name := "sduQueues", fn := fun _ => fun
  | [d1, d2, d3] => { results := [.lit (.bool false)], args := [d1, d2, d3] }
  | _ => none }
def SduQueuesWrongFalsely : Prop := sduQueuesRow.holds Try.pinned (OpenSpec.ofChange sduQueuesWrong)

/-- 'wirelesslaw33.SduCredits': WHATEVER THE INPUT: true; the input reads as it did. -/
def sduCreditsSpec : ChangeSpec := { name := "sduCredits", fn := fun _ => fun
  | [d] => { results := [.lit (.bool true)], args := [d] }
  | _ => none }
def sduCreditsRow : OpenClaim := { program := "ytfdiabglpgkbeaa", sum := "8433e1f9d836c208ec1c339328a29a5646c7fd246c7d5896865656ea572adcd6", func := "wireless/wirelesslaw33.SduCredits", spec := "sduCredits", unfollowed := true, recurses := true, apart := false }
def SduCreditsSaid : Prop := sduCreditsRow.holds Try.pinned (OpenSpec.ofChange sduCreditsSpec)

/-- ITS FALSE NEIGHBOUR: 'it returns false'. Refute it at one input. -/
def sduCreditsWrong : ChangeSpec := { name := "sduCredits", fn := fun _ => fun
  | [d] => { results := [.lit (.bool false)], args := [d] }
  | _ => none }
def SduCreditsWrongFalsely : Prop := sduCreditsRow.holds Try.pinned (OpenSpec.ofChange sduCreditsWrong)

/-- 'wirelesslaw33.SduChecks': WHATEVER THE INPUT: true; the input reads as it did. -/
def sduChecksSpec : ChangeSpec := { name := "sduChecks", fn := fun _ => fun
  | [d] => { results := [.lit (.bool true)], args := [d] }
  | _ => none }
def sduChecksRow : OpenClaim := { program := "ytfdiabglpgkbeaa", sum := "8433e1f9d836c208ec1c339328a29a5646c7fd246c7d5896865656ea572adcd6", func := "wireless/wirelesslaw33.SduChecks", spec := "sduChecks", unfollowed := true, recurses := true, apart := false }
def SduChecksSaid : Prop := sduChecksRow.holds Try.pinned (OpenSpec.ofChange sduChecksSpec)

/-- ITS FALSE NEIGHBOUR: 'it returns false'. Refute it at one input. -/
def sduChecksWrong : ChangeSpec := { name := "sduChecks", fn := fun _ => fun
  | [d] => { results := [.lit (.bool false)], args := [d] }
  | _ => none }
def SduChecksWrongFalsely : Prop := sduChecksRow.holds Try.pinned (OpenSpec.ofChange sduChecksWrong)

/- THE SECOND FORM. 'bulk': how many values and letters a reading holds, each counted each time it is reached (what is shared counts as often as it is met; a slice's spare places count too). A statement '..UptoSaid' is the law's where the arguments, and the package variables that the reading takes, are together of bulk at most 1048576: NARROWER than '..Said'. Prove '..Said' where nothing that the law and all that it calls make is longer than what came in: it says more and counts as full. Else prove '..UptoSaid'. A law counts once. -/
mutual
def uptoBulk {H : Type} : DataW H → Nat
  | .lit (.string bytes) => bytes.length + 1
  | .lit _ => 1
  | .nil => 1
  | .ptr d => uptoBulk d + 1
  | .slice elems spare => uptoBulkAll elems + uptoBulkAll spare + 1
  | .agg parts => uptoBulkAll parts + 1
  | .iface _ d => uptoBulk d + 1
  | .map entries => uptoBulkEntries entries + 1
  | .held _ => 1
def uptoBulkAll {H : Type} : List (DataW H) → Nat
  | [] => 0
  | d :: r => uptoBulk d + uptoBulkAll r
def uptoBulkEntries {H : Type} : List (Lit × DataW H) → Nat
  | [] => 0
  | x :: r => uptoBulkEntry x + uptoBulkEntries r
def uptoBulkEntry {H : Type} : Lit × DataW H → Nat
  | (.string bytes, d) => bytes.length + uptoBulk d + 1
  | (_, d) => uptoBulk d + 1
 end
def uptoSmall : (H : Type) → List (DataW H) → Bool := fun _ ds => decide (uptoBulkAll ds ≤ 1048576)
def OpenSpec.upto (s : _root_.Go.ChangeSpec) : _root_.Go.OpenSpec := { _root_.Go.OpenSpec.ofChange s with cond := some uptoSmall }

/-- 'wirelesslaw33.SduOutputs', WHERE WHAT IT READS IS OF BULK AT MOST 1048576: true; the input reads as it did. -/
def sduOutputsUptoRow : OpenClaim := { program := "ytfdiabglpgkbeaa", sum := "8433e1f9d836c208ec1c339328a29a5646c7fd246c7d5896865656ea572adcd6", func := "wireless/wirelesslaw33.SduOutputs", spec := "sduOutputs", unfollowed := true, recurses := true, apart := false, narrowed := true }
def SduOutputsUptoSaid : Prop := sduOutputsUptoRow.holds Try.pinned (OpenSpec.upto sduOutputsSpec)

/-- 'wirelesslaw33.SduInputs', WHERE WHAT IT READS IS OF BULK AT MOST 1048576: true; the input reads as it did. -/
def sduInputsUptoRow : OpenClaim := { program := "ytfdiabglpgkbeaa", sum := "8433e1f9d836c208ec1c339328a29a5646c7fd246c7d5896865656ea572adcd6", func := "wireless/wirelesslaw33.SduInputs", spec := "sduInputs", unfollowed := true, recurses := true, apart := false, narrowed := true }
def SduInputsUptoSaid : Prop := sduInputsUptoRow.holds Try.pinned (OpenSpec.upto sduInputsSpec)

/-- 'wirelesslaw33.SduDivides', WHERE WHAT IT READS IS OF BULK AT MOST 1048576: true; the input reads as it did. -/
def sduDividesUptoRow : OpenClaim := { program := "ytfdiabglpgkbeaa", sum := "8433e1f9d836c208ec1c339328a29a5646c7fd246c7d5896865656ea572adcd6", func := "wireless/wirelesslaw33.SduDivides", spec := "sduDivides", unfollowed := true, recurses := true, apart := false, narrowed := true }
def SduDividesUptoSaid : Prop := sduDividesUptoRow.holds Try.pinned (OpenSpec.upto sduDividesSpec)

/-- 'wirelesslaw33.SduQueues', WHERE WHAT IT READS IS OF BULK AT MOST 1048576: true; the input reads as it did. -/
def sduQueuesUptoRow : OpenClaim := { program := "ytfdiabglpgkbeaa", sum := "8433e1f9d836c208ec1c339328a29a5646c7fd246c7d5896865656ea572adcd6", func := "wireless/wirelesslaw33.SduQueues", spec := "sduQueues", unfollowed := true, recurses := true, apart := false, narrowed := true }
def SduQueuesUptoSaid : Prop := sduQueuesUptoRow.holds Try.pinned (OpenSpec.upto sduQueuesSpec)

/-- 'wirelesslaw33.SduCredits', WHERE WHAT IT READS IS OF BULK AT MOST 1048576: true; the input reads as it did. -/
def sduCreditsUptoRow : OpenClaim := { program := "ytfdiabglpgkbeaa", sum := "8433e1f9d836c208ec1c339328a29a5646c7fd246c7d5896865656ea572adcd6", func := "wireless/wirelesslaw33.SduCredits", spec := "sduCredits", unfollowed := true, recurses := true, apart := false, narrowed := true }
def SduCreditsUptoSaid : Prop := sduCreditsUptoRow.holds Try.pinned (OpenSpec.upto sduCreditsSpec)

/-- 'wirelesslaw33.SduChecks', WHERE WHAT IT READS IS OF BULK AT MOST 1048576: true; the input reads as it did. -/
def sduChecksUptoRow : OpenClaim := { program := "ytfdiabglpgkbeaa", sum := "8433e1f9d836c208ec1c339328a29a5646c7fd246c7d5896865656ea572adcd6", func := "wireless/wirelesslaw33.SduChecks", spec := "sduChecks", unfollowed := true, recurses := true, apart := false, narrowed := true }
def SduChecksUptoSaid : Prop := sduChecksUptoRow.holds Try.pinned (OpenSpec.upto sduChecksSpec)

end Rows
end Go.Proofs.Ytfdiabglpgkbeaa
