/-
  NARROWER THAN 'FOR EVERY INPUT', by the rows' own cells (each row's printed sentence says how): FlashApplies: laid · FlashMounts: laid · FlashPlans: laid · FlashAtomic: laid · FlashKeeps: laid.
  DERIVED. THE GIVEN ROWS OF THIS SEAT. 5 by the template 'for every input the law returns true; each argument reads behind the call as it read before'; 0 by the template 'total and deterministic' (their statements: YtojcklkcjnnkaaaDoorTotals.lean).
  GIVEN WITH THE SEED: the statements are not yours to turn. If you find one false, say at which input.
  Laid BY PROGRAM, IN A SANDBOX (cutbox-rows.mjs): the forced cells as the released guide's own fill.sh prints them over the translation 6afbe66f38120b08… (all of the seat's roots in one cut). By AI agents, Wed Nov 11 2026. No macro, syntax, notation, axiom, sorry.
-/
import Derived.Test.YtojcklkcjnnkaaaDoorChecked
import GoSem.Claim
import GoSem.ClaimJoined
import GoSem.ClaimMapViews
import Derived.JoinedTies
import Derived.KernelRfl
namespace Go.Proofs.YtojcklkcjnnkaaaDoor
/- THE CELL 'sum', in the pinned program and in every row, IS THE sha256 OF THE DUMP (.gsa) THAT YtojcklkcjnnkaaaDoorProg.lean LOADS. Nothing in Lean hashes anything: it is a label: what it is worth is what the hold of that sum in a sandbox is worth. -/
noncomputable def Tryd.pinned : Pinned := { name := "ytojcklkcjnnkaaadoor", sum := "6afbe66f38120b0845ff7738676be6a526267caf5d76d9d2a7d1b768f5635341", checked := Tryd.checked }
namespace Rows
def none {H : Type} : Left H := { results := [], args := [] }

/- WHAT THE LISTED PACKAGE-LEVEL VARIABLES READ AS WHEN THE CALL BEGINS. Each datum BY PROGRAM (the guide's laid-datum.mjs) off the statement by which the dump's own 'gosem.cut.vars' lays the variable. In a bare row this is a premise. The card (YtojcklkcjnnkaaaDoorCards.lean) ties it to the program's text. -/
def laid_wireless_crc_sums {H : Type} : DataW H := .agg [.lit (.int .u32 0), .lit (.int .u32 1788928), .lit (.int .u32 3577856), .lit (.int .u32 3003392), .lit (.int .u32 7155712), .lit (.int .u32 7764992), .lit (.int .u32 6006784), .lit (.int .u32 4252672), .lit (.int .u32 14311424), .lit (.int .u32 12659712), .lit (.int .u32 15529984), .lit (.int .u32 16233472), .lit (.int .u32 12013568), .lit (.int .u32 11279360), .lit (.int .u32 8505344), .lit (.int .u32 10126336)]

/-- 'wirelesslaw39.FlashApplies': WHATEVER THE INPUT: true; the input reads as it did. -/
def flashAppliesSpec : ChangeSpec := { name := "flashApplies", fn := fun _ => fun
  | [d1, d2, d3, d4] => { results := [.lit (.bool true)], args := [d1, d2, d3, d4] }
  | _ => none }
def flashAppliesRow : OpenClaim := { program := "ytojcklkcjnnkaaadoor", sum := "6afbe66f38120b0845ff7738676be6a526267caf5d76d9d2a7d1b768f5635341", func := "wireless/wirelesslaw39.FlashApplies", spec := "flashApplies", inPlace := ["slices.overlaps[wireless/api.Item]"], unfollowed := true, recurses := true, named := ["wireless/crc.sums"], apart := false, laid := [("wireless/crc.sums", laid_wireless_crc_sums)] }
def FlashAppliesSaid : Prop := flashAppliesRow.holds Tryd.pinned (OpenSpec.ofChange flashAppliesSpec)

/-- ITS FALSE NEIGHBOUR: 'it returns false'. Refute it at one input. -/
def flashAppliesWrong : ChangeSpec := { name := "flashApplies", fn := fun _ => fun
  | [d1, d2, d3, d4] => { results := [.lit (.bool false)], args := [d1, d2, d3, d4] }
  | _ => none }
def FlashAppliesWrongFalsely : Prop := flashAppliesRow.holds Tryd.pinned (OpenSpec.ofChange flashAppliesWrong)

/-- 'wirelesslaw39.FlashMounts': WHATEVER THE INPUT: true; the input reads as it did. -/
def flashMountsSpec : ChangeSpec := { name := "flashMounts", fn := fun _ => fun
  | [d1, d2] => { results := [.lit (.bool true)], args := [d1, d2] }
  | _ => none }
def flashMountsRow : OpenClaim := { program := "ytojcklkcjnnkaaadoor", sum := "6afbe66f38120b0845ff7738676be6a526267caf5d76d9d2a7d1b768f5635341", func := "wireless/wirelesslaw39.FlashMounts", spec := "flashMounts", inPlace := ["slices.overlaps[wireless/api.Item]"], unfollowed := true, recurses := true, named := ["wireless/crc.sums"], apart := false, laid := [("wireless/crc.sums", laid_wireless_crc_sums)] }
def FlashMountsSaid : Prop := flashMountsRow.holds Tryd.pinned (OpenSpec.ofChange flashMountsSpec)

/-- ITS FALSE NEIGHBOUR: 'it returns false'. Refute it at one input. -/
def flashMountsWrong : ChangeSpec := { name := "flashMounts", fn := fun _ => fun
  | [d1, d2] => { results := [.lit (.bool false)], args := [d1, d2] }
  | _ => none }
def FlashMountsWrongFalsely : Prop := flashMountsRow.holds Tryd.pinned (OpenSpec.ofChange flashMountsWrong)

/-- 'wirelesslaw39.FlashPlans': WHATEVER THE INPUT: true; the input reads as it did. -/
def flashPlansSpec : ChangeSpec := { name := "flashPlans", fn := fun _ => fun
  | [d1, d2, d3] => { results := [.lit (.bool true)], args := [d1, d2, d3] }
  | _ => none }
def flashPlansRow : OpenClaim := { program := "ytojcklkcjnnkaaadoor", sum := "6afbe66f38120b0845ff7738676be6a526267caf5d76d9d2a7d1b768f5635341", func := "wireless/wirelesslaw39.FlashPlans", spec := "flashPlans", inPlace := ["slices.overlaps[wireless/api.Item]"], unfollowed := true, recurses := true, named := ["wireless/crc.sums"], apart := false, laid := [("wireless/crc.sums", laid_wireless_crc_sums)] }
def FlashPlansSaid : Prop := flashPlansRow.holds Tryd.pinned (OpenSpec.ofChange flashPlansSpec)

/-- ITS FALSE NEIGHBOUR: 'it returns false'. Refute it at one input. -/
def flashPlansWrong : ChangeSpec := { name := "flashPlans", fn := fun _ => fun
  | [d1, d2, d3] => { results := [.lit (.bool false)], args := [d1, d2, d3] }
  | _ => none }
def FlashPlansWrongFalsely : Prop := flashPlansRow.holds Tryd.pinned (OpenSpec.ofChange flashPlansWrong)

/-- 'wirelesslaw39.FlashAtomic': WHATEVER THE INPUT: true; the input reads as it did. -/
def flashAtomicSpec : ChangeSpec := { name := "flashAtomic", fn := fun _ => fun
  | [d1, d2] => { results := [.lit (.bool true)], args := [d1, d2] }
  | _ => none }
def flashAtomicRow : OpenClaim := { program := "ytojcklkcjnnkaaadoor", sum := "6afbe66f38120b0845ff7738676be6a526267caf5d76d9d2a7d1b768f5635341", func := "wireless/wirelesslaw39.FlashAtomic", spec := "flashAtomic", inPlace := ["slices.overlaps[wireless/api.Item]"], unfollowed := true, recurses := true, named := ["wireless/crc.sums"], apart := false, laid := [("wireless/crc.sums", laid_wireless_crc_sums)] }
def FlashAtomicSaid : Prop := flashAtomicRow.holds Tryd.pinned (OpenSpec.ofChange flashAtomicSpec)

/-- ITS FALSE NEIGHBOUR: 'it returns false'. Refute it at one input. -/
def flashAtomicWrong : ChangeSpec := { name := "flashAtomic", fn := fun _ => fun
  | [d1, d2] => { results := [.lit (.bool false)], args := [d1, d2] }
  | _ => none }
def FlashAtomicWrongFalsely : Prop := flashAtomicRow.holds Tryd.pinned (OpenSpec.ofChange flashAtomicWrong)

/-- 'wirelesslaw39.FlashKeeps': WHATEVER THE INPUT: true; the input reads as it did. -/
def flashKeepsSpec : ChangeSpec := { name := "flashKeeps", fn := fun _ => fun
  | [d1, d2] => { results := [.lit (.bool true)], args := [d1, d2] }
  | _ => none }
def flashKeepsRow : OpenClaim := { program := "ytojcklkcjnnkaaadoor", sum := "6afbe66f38120b0845ff7738676be6a526267caf5d76d9d2a7d1b768f5635341", func := "wireless/wirelesslaw39.FlashKeeps", spec := "flashKeeps", inPlace := ["slices.overlaps[wireless/api.Item]"], unfollowed := true, recurses := true, named := ["wireless/crc.sums"], apart := false, laid := [("wireless/crc.sums", laid_wireless_crc_sums)] }
def FlashKeepsSaid : Prop := flashKeepsRow.holds Tryd.pinned (OpenSpec.ofChange flashKeepsSpec)

/-- ITS FALSE NEIGHBOUR: 'it returns false'. Refute it at one input. -/
def flashKeepsWrong : ChangeSpec := { name := "flashKeeps", fn := fun _ => fun
  | [d1, d2] => { results := [.lit (.bool false)], args := [d1, d2] }
  | _ => none }
def FlashKeepsWrongFalsely : Prop := flashKeepsRow.holds Tryd.pinned (OpenSpec.ofChange flashKeepsWrong)

/- THE SECOND FORM. 'bulk': how many values and letters a reading holds, each counted each time it is reached (what is shared counts as often as it is met; a slice's spare places count too). A statement '..UptoSaid' is the law's where the arguments, and the package variables that the reading takes, are together of bulk at most 1048576: NARROWER than '..Said'. Prove '..Said' where nothing that the law and all that it calls make is longer than what came in: it says more and counts as full. Else prove '..UptoSaid'. A law counts once. -/
mutual
def uptoBulk {H : Type} : DataW H → Nat
  | .lit (.string bytes) => bytes.length + 1
  | .lit _ => 1
  | .nil => 1
  | .ptr d => uptoBulk d + 1
  | .slice elems spare => uptoBulkAll elems + uptoBulkAll spare + 1
  | .agg parts => uptoBulkAll parts + 1
  | .iface _ d => uptoBulk d + 1
  | .map entries => uptoBulkEntries entries + 1
  | .held _ => 1
def uptoBulkAll {H : Type} : List (DataW H) → Nat
  | [] => 0
  | d :: r => uptoBulk d + uptoBulkAll r
def uptoBulkEntries {H : Type} : List (Lit × DataW H) → Nat
  | [] => 0
  | x :: r => uptoBulkEntry x + uptoBulkEntries r
def uptoBulkEntry {H : Type} : Lit × DataW H → Nat
  | (.string bytes, d) => bytes.length + uptoBulk d + 1
  | (_, d) => uptoBulk d + 1
 end
def uptoSmall : (H : Type) → List (DataW H) → Bool := fun _ ds => decide (uptoBulkAll ds ≤ 1048576)
def OpenSpec.upto (s : _root_.Go.ChangeSpec) : _root_.Go.OpenSpec := { _root_.Go.OpenSpec.ofChange s with cond := some uptoSmall }

/-- 'wirelesslaw39.FlashApplies', WHERE WHAT IT READS IS OF BULK AT MOST 1048576: true; the input reads as it did. -/
def flashAppliesUptoRow : OpenClaim := { program := "ytojcklkcjnnkaaadoor", sum := "6afbe66f38120b0845ff7738676be6a526267caf5d76d9d2a7d1b768f5635341", func := "wireless/wirelesslaw39.FlashApplies", spec := "flashApplies", inPlace := ["slices.overlaps[wireless/api.Item]"], unfollowed := true, recurses := true, named := ["wireless/crc.sums"], apart := false, laid := [("wireless/crc.sums", laid_wireless_crc_sums)], narrowed := true }
def FlashAppliesUptoSaid : Prop := flashAppliesUptoRow.holds Tryd.pinned (OpenSpec.upto flashAppliesSpec)

/-- 'wirelesslaw39.FlashMounts', WHERE WHAT IT READS IS OF BULK AT MOST 1048576: true; the input reads as it did. -/
def flashMountsUptoRow : OpenClaim := { program := "ytojcklkcjnnkaaadoor", sum := "6afbe66f38120b0845ff7738676be6a526267caf5d76d9d2a7d1b768f5635341", func := "wireless/wirelesslaw39.FlashMounts", spec := "flashMounts", inPlace := ["slices.overlaps[wireless/api.Item]"], unfollowed := true, recurses := true, named := ["wireless/crc.sums"], apart := false, laid := [("wireless/crc.sums", laid_wireless_crc_sums)], narrowed := true }
def FlashMountsUptoSaid : Prop := flashMountsUptoRow.holds Tryd.pinned (OpenSpec.upto flashMountsSpec)

/-- 'wirelesslaw39.FlashPlans', WHERE WHAT IT READS IS OF BULK AT MOST 1048576: true; the input reads as it did. -/
def flashPlansUptoRow : OpenClaim := { program := "ytojcklkcjnnkaaadoor", sum := "6afbe66f38120b0845ff7738676be6a526267caf5d76d9d2a7d1b768f5635341", func := "wireless/wirelesslaw39.FlashPlans", spec := "flashPlans", inPlace := ["slices.overlaps[wireless/api.Item]"], unfollowed := true, recurses := true, named := ["wireless/crc.sums"], apart := false, laid := [("wireless/crc.sums", laid_wireless_crc_sums)], narrowed := true }
def FlashPlansUptoSaid : Prop := flashPlansUptoRow.holds Tryd.pinned (OpenSpec.upto flashPlansSpec)

/-- 'wirelesslaw39.FlashAtomic', WHERE WHAT IT READS IS OF BULK AT MOST 1048576: true; the input reads as it did. -/
def flashAtomicUptoRow : OpenClaim := { program := "ytojcklkcjnnkaaadoor", sum := "6afbe66f38120b0845ff7738676be6a526267caf5d76d9d2a7d1b768f5635341", func := "wireless/wirelesslaw39.FlashAtomic", spec := "flashAtomic", inPlace := ["slices.overlaps[wireless/api.Item]"], unfollowed := true, recurses := true, named := ["wireless/crc.sums"], apart := false, laid := [("wireless/crc.sums", laid_wireless_crc_sums)], narrowed := true }
def FlashAtomicUptoSaid : Prop := flashAtomicUptoRow.holds Tryd.pinned (OpenSpec.upto flashAtomicSpec)

/-- 'wirelesslaw39.FlashKeeps', WHERE WHAT IT READS IS OF BULK AT MOST 1048576: true; the input reads as it did. -/
def flashKeepsUptoRow : OpenClaim := { program := "ytojcklkcjnnkaaadoor", sum := "6afbe66f38120b0845ff7738676be6a526267caf5d76d9d2a7d1b768f5635341", func := "wireless/wirelesslaw39.FlashKeeps", spec := "flashKeeps", inPlace := ["slices.overlaps[wireless/api.Item]"], unfollowed := true, recurses := true, named := ["wireless/crc.sums"], apart := false, laid := [("wireless/crc.sums", laid_wireless_crc_sums)], narrowed := true }
def FlashKeepsUptoSaid : Prop := flashKeepsUptoRow.holds Tryd.pinned (OpenSpec.upto flashKeepsSpec)

end Rows
end Go.Proofs.YtojcklkcjnnkaaaDoor
