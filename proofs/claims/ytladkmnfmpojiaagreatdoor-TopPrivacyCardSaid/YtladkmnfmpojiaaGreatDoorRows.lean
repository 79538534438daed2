/-
  NARROWER THAN 'FOR EVERY INPUT', by the rows' own cells (each row's printed sentence says how): TopPrivacy: laid.
  DERIVED. THE GIVEN ROWS OF THIS SEAT. 1 by the template 'for every input the law returns true; each argument reads behind the call as it read before'; 0 by the template 'total and deterministic' (their statements: YtladkmnfmpojiaaGreatDoorTotals.lean).
  GIVEN WITH THE SEED: the statements are not yours to turn. If you find one false, say at which input.
  Laid BY PROGRAM, IN A SANDBOX (cutbox-rows.mjs): the forced cells as the released guide's own fill.sh prints them over the translation 8007ff82f288d5e8… (all of the seat's roots in one cut). By AI agents, Wed Nov 11 2026. No macro, syntax, notation, axiom, sorry.
-/
import Derived.Test.YtladkmnfmpojiaaGreatDoorChecked
import GoSem.Claim
import GoSem.ClaimJoined
import GoSem.ClaimMapViews
import Derived.JoinedTies
import Derived.KernelRfl
namespace Go.Proofs.YtladkmnfmpojiaaGreatDoor
/- THE CELL 'sum', in the pinned program and in every row, IS THE sha256 OF THE DUMP (.gsa) THAT YtladkmnfmpojiaaGreatDoorProg.lean LOADS. Nothing in Lean hashes anything: it is a label: what it is worth is what the hold of that sum in a sandbox is worth. -/
noncomputable def Tryz.pinned : Pinned := { name := "ytladkmnfmpojiaagreatdoor", sum := "8007ff82f288d5e82c2f44337e7428bebfbe6df3ec955dfce93788934d9e5ab6", checked := Tryz.checked }
namespace Rows
def none {H : Type} : Left H := { results := [], args := [] }

/- WHAT THE LISTED PACKAGE-LEVEL VARIABLES READ AS WHEN THE CALL BEGINS. Each datum BY PROGRAM (the guide's laid-datum.mjs) off the statement by which the dump's own 'gosem.cut.vars' lays the variable. In a bare row this is a premise. The card (YtladkmnfmpojiaaGreatDoorCards.lean) ties it to the program's text. -/
def laid_wireless_method_table {H : Type} : DataW H := .agg [.agg [.lit (.int .i64 1), .lit (.int .i64 1), .lit (.int .i64 3), .lit (.int .i64 1), .lit (.int .i64 3)], .agg [.lit (.int .i64 1), .lit (.int .i64 2), .lit (.int .i64 3), .lit (.int .i64 1), .lit (.int .i64 2)], .agg [.lit (.int .i64 4), .lit (.int .i64 4), .lit (.int .i64 5), .lit (.int .i64 1), .lit (.int .i64 4)], .agg [.lit (.int .i64 1), .lit (.int .i64 1), .lit (.int .i64 1), .lit (.int .i64 1), .lit (.int .i64 1)], .agg [.lit (.int .i64 4), .lit (.int .i64 2), .lit (.int .i64 3), .lit (.int .i64 1), .lit (.int .i64 2)]]
def laid_wireless_address_prefixes {H : Type} : DataW H := .agg [.lit (.int .u64 0), .lit (.int .u64 0), .lit (.int .u64 3), .lit (.int .u64 1), .lit (.int .u64 0)]
def laid_wireless_crc_sums {H : Type} : DataW H := .agg [.lit (.int .u32 0), .lit (.int .u32 1788928), .lit (.int .u32 3577856), .lit (.int .u32 3003392), .lit (.int .u32 7155712), .lit (.int .u32 7764992), .lit (.int .u32 6006784), .lit (.int .u32 4252672), .lit (.int .u32 14311424), .lit (.int .u32 12659712), .lit (.int .u32 15529984), .lit (.int .u32 16233472), .lit (.int .u32 12013568), .lit (.int .u32 11279360), .lit (.int .u32 8505344), .lit (.int .u32 10126336)]

/-- 'wirelesstop.TopPrivacy': WHATEVER THE INPUT: true; the input reads as it did. -/
def topPrivacySpec : ChangeSpec := { name := "topPrivacy", fn := fun _ => fun
  | [d1, d2, d3, d4, d5] => { results := [.lit (.bool true)], args := [d1, d2, d3, d4, d5] }
  | _ => none }
def topPrivacyRow : OpenClaim := { program := "ytladkmnfmpojiaagreatdoor", sum := "8007ff82f288d5e82c2f44337e7428bebfbe6df3ec955dfce93788934d9e5ab6", func := "wireless/wirelesstop.TopPrivacy", spec := "topPrivacy", inPlace := ["slices.overlaps[wireless/api.Item]", "slices.overlaps[wireless/api.Channel]", "internal/bytealg.IndexByteString", "internal/bytealg.IndexString", "slices.overlaps[wireless/api.Cached]", "slices.overlaps[wireless/api.Pair]"], unfollowed := true, recurses := true, named := ["wireless/address.prefixes", "wireless/crc.sums", "internal/bytealg.MaxLen", "wireless/method.table"], apart := false, laid := [("wireless/method.table", laid_wireless_method_table), ("wireless/address.prefixes", laid_wireless_address_prefixes), ("wireless/crc.sums", laid_wireless_crc_sums)] }
def TopPrivacySaid : Prop := topPrivacyRow.holds Tryz.pinned (OpenSpec.ofChange topPrivacySpec)

/-- ITS FALSE NEIGHBOUR: 'it returns false'. Refute it at one input. -/
def topPrivacyWrong : ChangeSpec := { name := "topPrivacy", fn := fun _ => fun
  | [d1, d2, d3, d4, d5] => { results := [.lit (.bool false)], args := [d1, d2, d3, d4, d5] }
  | _ => none }
def TopPrivacyWrongFalsely : Prop := topPrivacyRow.holds Tryz.pinned (OpenSpec.ofChange topPrivacyWrong)

/- THE SECOND FORM. 'bulk': how many values and letters a reading holds, each counted each time it is reached (what is shared counts as often as it is met; a slice's spare places count too). A statement '..UptoSaid' is the law's where the arguments, and the package variables that the reading takes, are together of bulk at most 1048576: NARROWER than '..Said'. Prove '..Said' where nothing that the law and all that it calls make is longer than what came in: it says more and counts as full. Else prove '..UptoSaid'. A law counts once. -/
mutual
def uptoBulk {H : Type} : DataW H → Nat
  | .lit (.string bytes) => bytes.length + 1
  | .lit _ => 1
  | .nil => 1
  | .ptr d => uptoBulk d + 1
  | .slice elems spare => uptoBulkAll elems + uptoBulkAll spare + 1
  | .agg parts => uptoBulkAll parts + 1
  | .iface _ d => uptoBulk d + 1
  | .map entries => uptoBulkEntries entries + 1
  | .held _ => 1
def uptoBulkAll {H : Type} : List (DataW H) → Nat
  | [] => 0
  | d :: r => uptoBulk d + uptoBulkAll r
def uptoBulkEntries {H : Type} : List (Lit × DataW H) → Nat
  | [] => 0
  | x :: r => uptoBulkEntry x + uptoBulkEntries r
def uptoBulkEntry {H : Type} : Lit × DataW H → Nat
  | (.string bytes, d) => bytes.length + uptoBulk d + 1
  | (_, d) => uptoBulk d + 1
 end
def uptoSmall : (H : Type) → List (DataW H) → Bool := fun _ ds => decide (uptoBulkAll ds ≤ 1048576)
def OpenSpec.upto (s : _root_.Go.ChangeSpec) : _root_.Go.OpenSpec := { _root_.Go.OpenSpec.ofChange s with cond := some uptoSmall }

/-- 'wirelesstop.TopPrivacy', WHERE WHAT IT READS IS OF BULK AT MOST 1048576: true; the input reads as it did. -/
def topPrivacyUptoRow : OpenClaim := { program := "ytladkmnfmpojiaagreatdoor", sum := "8007ff82f288d5e82c2f44337e7428bebfbe6df3ec955dfce93788934d9e5ab6", func := "wireless/wirelesstop.TopPrivacy", spec := "topPrivacy", inPlace := ["slices.overlaps[wireless/api.Item]", "slices.overlaps[wireless/api.Channel]", "internal/bytealg.IndexByteString", "internal/bytealg.IndexString", "slices.overlaps[wireless/api.Cached]", "slices.overlaps[wireless/api.Pair]"], unfollowed := true, recurses := true, named := ["wireless/address.prefixes", "wireless/crc.sums", "internal/bytealg.MaxLen", "wireless/method.table"], apart := false, laid := [("wireless/method.table", laid_wireless_method_table), ("wireless/address.prefixes", laid_wireless_address_prefixes), ("wireless/crc.sums", laid_wireless_crc_sums)], narrowed := true }
def TopPrivacyUptoSaid : Prop := topPrivacyUptoRow.holds Tryz.pinned (OpenSpec.upto topPrivacySpec)

end Rows
end Go.Proofs.YtladkmnfmpojiaaGreatDoor
