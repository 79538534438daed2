/-
  No cell of these rows narrows 'for every input' (looked for: loops, veiled, ifaces, maps, wideKeys, modest, calm, conditions, laid).
  DERIVED. THE GIVEN ROWS OF THIS SEAT. 5 by the template 'for every input the law returns true; each argument reads behind the call as it read before'; 0 by the template 'total and deterministic' (their statements: YtoahakdkgefgiaaGreatTotals.lean).
  GIVEN WITH THE SEED: the statements are not yours to turn. If you find one false, say at which input.
  Laid BY PROGRAM, IN A SANDBOX (cutbox-rows.mjs): the forced cells as the released guide's own fill.sh prints them over the translation f96f69538e8886b6… (all of the seat's roots in one cut). By AI agents, Wed Nov 11 2026. No macro, syntax, notation, axiom, sorry.
-/
import Derived.Test.YtoahakdkgefgiaaGreatChecked
import GoSem.Claim
import GoSem.ClaimJoined
import GoSem.ClaimMapViews
import Derived.JoinedTies
import Derived.KernelRfl
namespace Go.Proofs.YtoahakdkgefgiaaGreat
/- THE CELL 'sum', in the pinned program and in every row, IS THE sha256 OF THE DUMP (.gsa) THAT YtoahakdkgefgiaaGreatProg.lean LOADS. Nothing in Lean hashes anything: it is a label: what it is worth is what the hold of that sum in a sandbox is worth. -/
noncomputable def Tryz.pinned : Pinned := { name := "ytoahakdkgefgiaagreat", sum := "f96f69538e8886b6e88fe573717414d2dbb2feeb0f9c503eed46ad6c4f1fcdee", checked := Tryz.checked }
namespace Rows
def none {H : Type} : Left H := { results := [], args := [] }

/-- 'wirelesslaw45.ServerRefuses': WHATEVER THE INPUT: true; the input reads as it did. -/
def serverRefusesSpec : ChangeSpec := { name := "serverRefuses", fn := fun _ => fun
  | [d1, d2, d3] => { results := [.lit (.bool true)], args := [d1, d2, d3] }
  | _ => none }
def serverRefusesRow : OpenClaim := { program := "ytoahakdkgefgiaagreat", sum := "f96f69538e8886b6e88fe573717414d2dbb2feeb0f9c503eed46ad6c4f1fcdee", func := "wireless/wirelesslaw45.ServerRefuses", spec := "serverRefuses", inPlace := ["slices.overlaps[wireless/api.Subscription]"], unfollowed := true, recurses := true, apart := false }
def ServerRefusesSaid : Prop := serverRefusesRow.holds Tryz.pinned (OpenSpec.ofChange serverRefusesSpec)

/-- ITS FALSE NEIGHBOUR: 'it returns false'. Refute it at one input. -/
def serverRefusesWrong : ChangeSpec := { name := "serverRefuses", fn := fun _ => fun
  | [d1, d2, d3] => { results := [.lit (.bool false)], args := [d1, d2, d3] }
  | _ => none }
def ServerRefusesWrongFalsely : Prop := serverRefusesRow.holds Tryz.pinned (OpenSpec.ofChange serverRefusesWrong)

/-- 'wirelesslaw45.ServerWrites': WHATEVER THE INPUT: true; the input reads as it did. -/
def serverWritesSpec : ChangeSpec := { name := "serverWrites", fn := fun _ => fun
  | [d1, d2, d3, d4, d5] => { results := [.lit (.bool true)], args := [d1, d2, d3, d4, d5] }
  | _ => none }
def serverWritesRow : OpenClaim := { program := "ytoahakdkgefgiaagreat", sum := "f96f69538e8886b6e88fe573717414d2dbb2feeb0f9c503eed46ad6c4f1fcdee", func := "wireless/wirelesslaw45.ServerWrites", spec := "serverWrites", inPlace := ["slices.overlaps[wireless/api.Subscription]"], unfollowed := true, recurses := true, apart := false }
def ServerWritesSaid : Prop := serverWritesRow.holds Tryz.pinned (OpenSpec.ofChange serverWritesSpec)

/-- ITS FALSE NEIGHBOUR: 'it returns false'. Refute it at one input. -/
def serverWritesWrong : ChangeSpec := { name := "serverWrites", fn := fun _ => fun
  | [d1, d2, d3, d4, d5] => { results := [.lit (.bool false)], args := [d1, d2, d3, d4, d5] }
  | _ => none }
def ServerWritesWrongFalsely : Prop := serverWritesRow.holds Tryz.pinned (OpenSpec.ofChange serverWritesWrong)

/-- 'wirelesslaw45.ServerFits': WHATEVER THE INPUT: true; the input reads as it did. -/
def serverFitsSpec : ChangeSpec := { name := "serverFits", fn := fun _ => fun
  | [d1, d2, d3, d4] => { results := [.lit (.bool true)], args := [d1, d2, d3, d4] }
  | _ => none }
def serverFitsRow : OpenClaim := { program := "ytoahakdkgefgiaagreat", sum := "f96f69538e8886b6e88fe573717414d2dbb2feeb0f9c503eed46ad6c4f1fcdee", func := "wireless/wirelesslaw45.ServerFits", spec := "serverFits", inPlace := ["slices.overlaps[wireless/api.Subscription]"], unfollowed := true, recurses := true, apart := false }
def ServerFitsSaid : Prop := serverFitsRow.holds Tryz.pinned (OpenSpec.ofChange serverFitsSpec)

/-- ITS FALSE NEIGHBOUR: 'it returns false'. Refute it at one input. -/
def serverFitsWrong : ChangeSpec := { name := "serverFits", fn := fun _ => fun
  | [d1, d2, d3, d4] => { results := [.lit (.bool false)], args := [d1, d2, d3, d4] }
  | _ => none }
def ServerFitsWrongFalsely : Prop := serverFitsRow.holds Tryz.pinned (OpenSpec.ofChange serverFitsWrong)

/-- 'wirelesslaw45.ServerNews': WHATEVER THE INPUT: true; the input reads as it did. -/
def serverNewsSpec : ChangeSpec := { name := "serverNews", fn := fun _ => fun
  | [d1, d2, d3, d4, d5] => { results := [.lit (.bool true)], args := [d1, d2, d3, d4, d5] }
  | _ => none }
def serverNewsRow : OpenClaim := { program := "ytoahakdkgefgiaagreat", sum := "f96f69538e8886b6e88fe573717414d2dbb2feeb0f9c503eed46ad6c4f1fcdee", func := "wireless/wirelesslaw45.ServerNews", spec := "serverNews", inPlace := ["slices.overlaps[wireless/api.Subscription]"], unfollowed := true, recurses := true, apart := false }
def ServerNewsSaid : Prop := serverNewsRow.holds Tryz.pinned (OpenSpec.ofChange serverNewsSpec)

/-- ITS FALSE NEIGHBOUR: 'it returns false'. Refute it at one input. -/
def serverNewsWrong : ChangeSpec := { name := "serverNews", fn := fun _ => fun
  | [d1, d2, d3, d4, d5] => { results := [.lit (.bool false)], args := [d1, d2, d3, d4, d5] }
  | _ => none }
def ServerNewsWrongFalsely : Prop := serverNewsRow.holds Tryz.pinned (OpenSpec.ofChange serverNewsWrong)

/-- 'wirelesslaw45.ServerIndicates': WHATEVER THE INPUT: true; the input reads as it did. -/
def serverIndicatesSpec : ChangeSpec := { name := "serverIndicates", fn := fun _ => fun
  | [d] => { results := [.lit (.bool true)], args := [d] }
  | _ => none }
def serverIndicatesRow : OpenClaim := { program := "ytoahakdkgefgiaagreat", sum := "f96f69538e8886b6e88fe573717414d2dbb2feeb0f9c503eed46ad6c4f1fcdee", func := "wireless/wirelesslaw45.ServerIndicates", spec := "serverIndicates", inPlace := ["slices.overlaps[wireless/api.Subscription]"], unfollowed := true, recurses := true, apart := false }
def ServerIndicatesSaid : Prop := serverIndicatesRow.holds Tryz.pinned (OpenSpec.ofChange serverIndicatesSpec)

/-- ITS FALSE NEIGHBOUR: 'it returns false'. Refute it at one input. -/
def serverIndicatesWrong : ChangeSpec := { name := "serverIndicates", fn := fun _ => fun
  | [d] => { results := [.lit (.bool false)], args := [d] }
  | _ => none }
def ServerIndicatesWrongFalsely : Prop := serverIndicatesRow.holds Tryz.pinned (OpenSpec.ofChange serverIndicatesWrong)

/- THE SECOND FORM. 'bulk': how many values and letters a reading holds, each counted each time it is reached (what is shared counts as often as it is met; a slice's spare places count too). A statement '..UptoSaid' is the law's where the arguments, and the package variables that the reading takes, are together of bulk at most 1048576: NARROWER than '..Said'. Prove '..Said' where nothing that the law and all that it calls make is longer than what came in: it says more and counts as full. Else prove '..UptoSaid'. A law counts once. -/
mutual
def uptoBulk {H : Type} : DataW H → Nat
  | .lit (.string bytes) => bytes.length + 1
  | .lit _ => 1
  | .nil => 1
  | .ptr d => uptoBulk d + 1
  | .slice elems spare => uptoBulkAll elems + uptoBulkAll spare + 1
  | .agg parts => uptoBulkAll parts + 1
  | .iface _ d => uptoBulk d + 1
  | .map entries => uptoBulkEntries entries + 1
  | .held _ => 1
def uptoBulkAll {H : Type} : List (DataW H) → Nat
  | [] => 0
  | d :: r => uptoBulk d + uptoBulkAll r
def uptoBulkEntries {H : Type} : List (Lit × DataW H) → Nat
  | [] => 0
  | x :: r => uptoBulkEntry x + uptoBulkEntries r
def uptoBulkEntry {H : Type} : Lit × DataW H → Nat
  | (.string bytes, d) => bytes.length + uptoBulk d + 1
  | (_, d) => uptoBulk d + 1
 end
def uptoSmall : (H : Type) → List (DataW H) → Bool := fun _ ds => decide (uptoBulkAll ds ≤ 1048576)
def OpenSpec.upto (s : _root_.Go.ChangeSpec) : _root_.Go.OpenSpec := { _root_.Go.OpenSpec.ofChange s with cond := some uptoSmall }

/-- 'wirelesslaw45.ServerRefuses', WHERE WHAT IT READS IS OF BULK AT MOST 1048576: true; the input reads as it did. -/
def serverRefusesUptoRow : OpenClaim := { program := "ytoahakdkgefgiaagreat", sum := "f96f69538e8886b6e88fe573717414d2dbb2feeb0f9c503eed46ad6c4f1fcdee", func := "wireless/wirelesslaw45.ServerRefuses", spec := "serverRefuses", inPlace := ["slices.overlaps[wireless/api.Subscription]"], unfollowed := true, recurses := true, apart := false, narrowed := true }
def ServerRefusesUptoSaid : Prop := serverRefusesUptoRow.holds Tryz.pinned (OpenSpec.upto serverRefusesSpec)

/-- 'wirelesslaw45.ServerWrites', WHERE WHAT IT READS IS OF BULK AT MOST 1048576: true; the input reads as it did. -/
def serverWritesUptoRow : OpenClaim := { program := "ytoahakdkgefgiaagreat", sum := "f96f69538e8886b6e88fe573717414d2dbb2feeb0f9c503eed46ad6c4f1fcdee", func := "wireless/wirelesslaw45.ServerWrites", spec := "serverWrites", inPlace := ["slices.overlaps[wireless/api.Subscription]"], unfollowed := true, recurses := true, apart := false, narrowed := true }
def ServerWritesUptoSaid : Prop := serverWritesUptoRow.holds Tryz.pinned (OpenSpec.upto serverWritesSpec)

/-- 'wirelesslaw45.ServerFits', WHERE WHAT IT READS IS OF BULK AT MOST 1048576: true; the input reads as it did. -/
def serverFitsUptoRow : OpenClaim := { program := "ytoahakdkgefgiaagreat", sum := "f96f69538e8886b6e88fe573717414d2dbb2feeb0f9c503eed46ad6c4f1fcdee", func := "wireless/wirelesslaw45.ServerFits", spec := "serverFits", inPlace := ["slices.overlaps[wireless/api.Subscription]"], unfollowed := true, recurses := true, apart := false, narrowed := true }
def ServerFitsUptoSaid : Prop := serverFitsUptoRow.holds Tryz.pinned (OpenSpec.upto serverFitsSpec)

/-- 'wirelesslaw45.ServerNews', WHERE WHAT IT READS IS OF BULK AT MOST 1048576: true; the input reads as it did. -/
def serverNewsUptoRow : OpenClaim := { program := "ytoahakdkgefgiaagreat", sum := "f96f69538e8886b6e88fe573717414d2dbb2feeb0f9c503eed46ad6c4f1fcdee", func := "wireless/wirelesslaw45.ServerNews", spec := "serverNews", inPlace := ["slices.overlaps[wireless/api.Subscription]"], unfollowed := true, recurses := true, apart := false, narrowed := true }
def ServerNewsUptoSaid : Prop := serverNewsUptoRow.holds Tryz.pinned (OpenSpec.upto serverNewsSpec)

/-- 'wirelesslaw45.ServerIndicates', WHERE WHAT IT READS IS OF BULK AT MOST 1048576: true; the input reads as it did. -/
def serverIndicatesUptoRow : OpenClaim := { program := "ytoahakdkgefgiaagreat", sum := "f96f69538e8886b6e88fe573717414d2dbb2feeb0f9c503eed46ad6c4f1fcdee", func := "wireless/wirelesslaw45.ServerIndicates", spec := "serverIndicates", inPlace := ["slices.overlaps[wireless/api.Subscription]"], unfollowed := true, recurses := true, apart := false, narrowed := true }
def ServerIndicatesUptoSaid : Prop := serverIndicatesUptoRow.holds Tryz.pinned (OpenSpec.upto serverIndicatesSpec)

end Rows
end Go.Proofs.YtoahakdkgefgiaaGreat
