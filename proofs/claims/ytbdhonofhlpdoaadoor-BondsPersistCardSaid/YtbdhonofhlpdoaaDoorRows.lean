/-
  NARROWER THAN 'FOR EVERY INPUT', by the rows' own cells (each row's printed sentence says how): BondsForms: laid · BondsChanges: laid · BondsRecent: laid · BondsBack: laid · BondsPersist: laid.
  DERIVED. THE GIVEN ROWS OF THIS SEAT. 5 by the template 'for every input the law returns true; each argument reads behind the call as it read before'; 0 by the template 'total and deterministic' (their statements: YtbdhonofhlpdoaaDoorTotals.lean).
  GIVEN WITH THE SEED: the statements are not yours to turn. If you find one false, say at which input.
  Laid BY PROGRAM, IN A SANDBOX (cutbox-rows.mjs): the forced cells as the released guide's own fill.sh prints them over the translation cff1853f73ec52a2… (all of the seat's roots in one cut). By AI agents, Wed Nov 11 2026. No macro, syntax, notation, axiom, sorry.
-/
import Derived.Test.YtbdhonofhlpdoaaDoorChecked
import GoSem.Claim
import GoSem.ClaimJoined
import GoSem.ClaimMapViews
import Derived.JoinedTies
import Derived.KernelRfl
namespace Go.Proofs.YtbdhonofhlpdoaaDoor
/- THE CELL 'sum', in the pinned program and in every row, IS THE sha256 OF THE DUMP (.gsa) THAT YtbdhonofhlpdoaaDoorProg.lean LOADS. Nothing in Lean hashes anything: it is a label: what it is worth is what the hold of that sum in a sandbox is worth. -/
noncomputable def Tryd.pinned : Pinned := { name := "ytbdhonofhlpdoaadoor", sum := "cff1853f73ec52a210c36bcb2707e1f54b20a71f6c18a5b71663948a161acdc7", checked := Tryd.checked }
namespace Rows
def none {H : Type} : Left H := { results := [], args := [] }

/- WHAT THE LISTED PACKAGE-LEVEL VARIABLES READ AS WHEN THE CALL BEGINS. Each datum BY PROGRAM (the guide's laid-datum.mjs) off the statement by which the dump's own 'gosem.cut.vars' lays the variable. In a bare row this is a premise. The card (YtbdhonofhlpdoaaDoorCards.lean) ties it to the program's text. -/
def laid_wireless_address_prefixes {H : Type} : DataW H := .agg [.lit (.int .u64 0), .lit (.int .u64 0), .lit (.int .u64 3), .lit (.int .u64 1), .lit (.int .u64 0)]
def laid_wireless_crc_sums {H : Type} : DataW H := .agg [.lit (.int .u32 0), .lit (.int .u32 1788928), .lit (.int .u32 3577856), .lit (.int .u32 3003392), .lit (.int .u32 7155712), .lit (.int .u32 7764992), .lit (.int .u32 6006784), .lit (.int .u32 4252672), .lit (.int .u32 14311424), .lit (.int .u32 12659712), .lit (.int .u32 15529984), .lit (.int .u32 16233472), .lit (.int .u32 12013568), .lit (.int .u32 11279360), .lit (.int .u32 8505344), .lit (.int .u32 10126336)]

/-- 'wirelesslaw40.BondsForms': WHATEVER THE INPUT: true; the input reads as it did. -/
def bondsFormsSpec : ChangeSpec := { name := "bondsForms", fn := fun _ => fun
  | [d1, d2] => { results := [.lit (.bool true)], args := [d1, d2] }
  | _ => none }
def bondsFormsRow : OpenClaim := { program := "ytbdhonofhlpdoaadoor", sum := "cff1853f73ec52a210c36bcb2707e1f54b20a71f6c18a5b71663948a161acdc7", func := "wireless/wirelesslaw40.BondsForms", spec := "bondsForms", unfollowed := true, recurses := true, named := ["wireless/address.prefixes"], apart := false, laid := [("wireless/address.prefixes", laid_wireless_address_prefixes)] }
def BondsFormsSaid : Prop := bondsFormsRow.holds Tryd.pinned (OpenSpec.ofChange bondsFormsSpec)

/-- ITS FALSE NEIGHBOUR: 'it returns false'. Refute it at one input. -/
def bondsFormsWrong : ChangeSpec := { name := "bondsForms", fn := fun _ => fun
  | [d1, d2] => { results := [.lit (.bool false)], args := [d1, d2] }
  | _ => none }
def BondsFormsWrongFalsely : Prop := bondsFormsRow.holds Tryd.pinned (OpenSpec.ofChange bondsFormsWrong)

/-- 'wirelesslaw40.BondsChanges': WHATEVER THE INPUT: true; the input reads as it did. -/
def bondsChangesSpec : ChangeSpec := { name := "bondsChanges", fn := fun _ => fun
  | [d1, d2, d3, d4] => { results := [.lit (.bool true)], args := [d1, d2, d3, d4] }
  | _ => none }
def bondsChangesRow : OpenClaim := { program := "ytbdhonofhlpdoaadoor", sum := "cff1853f73ec52a210c36bcb2707e1f54b20a71f6c18a5b71663948a161acdc7", func := "wireless/wirelesslaw40.BondsChanges", spec := "bondsChanges", unfollowed := true, recurses := true, named := ["wireless/address.prefixes"], apart := false, laid := [("wireless/address.prefixes", laid_wireless_address_prefixes)] }
def BondsChangesSaid : Prop := bondsChangesRow.holds Tryd.pinned (OpenSpec.ofChange bondsChangesSpec)

/-- ITS FALSE NEIGHBOUR: 'it returns false'. Refute it at one input. -/
def bondsChangesWrong : ChangeSpec := { name := "bondsChanges", fn := fun _ => fun
  | [d1, d2, d3, d4] => { results := [.lit (.bool false)], args := [d1, d2, d3, d4] }
  | _ => none }
def BondsChangesWrongFalsely : Prop := bondsChangesRow.holds Tryd.pinned (OpenSpec.ofChange bondsChangesWrong)

/-- 'wirelesslaw40.BondsRecent': WHATEVER THE INPUT: true; the input reads as it did. -/
def bondsRecentSpec : ChangeSpec := { name := "bondsRecent", fn := fun _ => fun
  | [d1, d2, d3, d4] => { results := [.lit (.bool true)], args := [d1, d2, d3, d4] }
  | _ => none }
def bondsRecentRow : OpenClaim := { program := "ytbdhonofhlpdoaadoor", sum := "cff1853f73ec52a210c36bcb2707e1f54b20a71f6c18a5b71663948a161acdc7", func := "wireless/wirelesslaw40.BondsRecent", spec := "bondsRecent", unfollowed := true, recurses := true, named := ["wireless/address.prefixes"], apart := false, laid := [("wireless/address.prefixes", laid_wireless_address_prefixes)] }
def BondsRecentSaid : Prop := bondsRecentRow.holds Tryd.pinned (OpenSpec.ofChange bondsRecentSpec)

/-- ITS FALSE NEIGHBOUR: 'it returns false'. Refute it at one input. -/
def bondsRecentWrong : ChangeSpec := { name := "bondsRecent", fn := fun _ => fun
  | [d1, d2, d3, d4] => { results := [.lit (.bool false)], args := [d1, d2, d3, d4] }
  | _ => none }
def BondsRecentWrongFalsely : Prop := bondsRecentRow.holds Tryd.pinned (OpenSpec.ofChange bondsRecentWrong)

/-- 'wirelesslaw40.BondsBack': WHATEVER THE INPUT: true; the input reads as it did. -/
def bondsBackSpec : ChangeSpec := { name := "bondsBack", fn := fun _ => fun
  | [d1, d2] => { results := [.lit (.bool true)], args := [d1, d2] }
  | _ => none }
def bondsBackRow : OpenClaim := { program := "ytbdhonofhlpdoaadoor", sum := "cff1853f73ec52a210c36bcb2707e1f54b20a71f6c18a5b71663948a161acdc7", func := "wireless/wirelesslaw40.BondsBack", spec := "bondsBack", inPlace := ["slices.overlaps[wireless/api.Item]"], unfollowed := true, recurses := true, named := ["wireless/address.prefixes", "wireless/crc.sums"], apart := false, laid := [("wireless/address.prefixes", laid_wireless_address_prefixes), ("wireless/crc.sums", laid_wireless_crc_sums)] }
def BondsBackSaid : Prop := bondsBackRow.holds Tryd.pinned (OpenSpec.ofChange bondsBackSpec)

/-- ITS FALSE NEIGHBOUR: 'it returns false'. Refute it at one input. -/
def bondsBackWrong : ChangeSpec := { name := "bondsBack", fn := fun _ => fun
  | [d1, d2] => { results := [.lit (.bool false)], args := [d1, d2] }
  | _ => none }
def BondsBackWrongFalsely : Prop := bondsBackRow.holds Tryd.pinned (OpenSpec.ofChange bondsBackWrong)

/-- 'wirelesslaw40.BondsPersist': WHATEVER THE INPUT: true; the input reads as it did. -/
def bondsPersistSpec : ChangeSpec := { name := "bondsPersist", fn := fun _ => fun
  | [d1, d2] => { results := [.lit (.bool true)], args := [d1, d2] }
  | _ => none }
def bondsPersistRow : OpenClaim := { program := "ytbdhonofhlpdoaadoor", sum := "cff1853f73ec52a210c36bcb2707e1f54b20a71f6c18a5b71663948a161acdc7", func := "wireless/wirelesslaw40.BondsPersist", spec := "bondsPersist", inPlace := ["slices.overlaps[wireless/api.Item]"], unfollowed := true, recurses := true, named := ["wireless/address.prefixes", "wireless/crc.sums"], apart := false, laid := [("wireless/address.prefixes", laid_wireless_address_prefixes), ("wireless/crc.sums", laid_wireless_crc_sums)] }
def BondsPersistSaid : Prop := bondsPersistRow.holds Tryd.pinned (OpenSpec.ofChange bondsPersistSpec)

/-- ITS FALSE NEIGHBOUR: 'it returns false'. Refute it at one input. -/
def bondsPersistWrong : ChangeSpec := { name := "bondsPersist", fn := fun _ => fun
  | [d1, d2] => { results := [.lit (.bool false)], args := [d1, d2] }
  | _ => none }
def BondsPersistWrongFalsely : Prop := bondsPersistRow.holds Tryd.pinned (OpenSpec.ofChange bondsPersistWrong)

/- THE SECOND FORM. 'bulk': how many values and letters a reading holds, each counted each time it is reached (what is shared counts as often as it is met; a slice's spare places count too). A statement '..UptoSaid' is the law's where the arguments, and the package variables that the reading takes, are together of bulk at most 1048576: NARROWER than '..Said'. Prove '..Said' where nothing that the law and all that it calls make is longer than what came in: it says more and counts as full. Else prove '..UptoSaid'. A law counts once. -/
mutual
def uptoBulk {H : Type} : DataW H → Nat
  | .lit (.string bytes) => bytes.length + 1
  | .lit _ => 1
  | .nil => 1
  | .ptr d => uptoBulk d + 1
  | .slice elems spare => uptoBulkAll elems + uptoBulkAll spare + 1
  | .agg parts => uptoBulkAll parts + 1
  | .iface _ d => uptoBulk d + 1
  | .map entries => uptoBulkEntries entries + 1
  | .held _ => 1
def uptoBulkAll {H : Type} : List (DataW H) → Nat
  | [] => 0
  | d :: r => uptoBulk d + uptoBulkAll r
def uptoBulkEntries {H : Type} : List (Lit × DataW H) → Nat
  | [] => 0
  | x :: r => uptoBulkEntry x + uptoBulkEntries r
def uptoBulkEntry {H : Type} : Lit × DataW H → Nat
  | (.string bytes, d) => bytes.length + uptoBulk d + 1
  | (_, d) => uptoBulk d + 1
 end
def uptoSmall : (H : Type) → List (DataW H) → Bool := fun _ ds => decide (uptoBulkAll ds ≤ 1048576)
def OpenSpec.upto (s : _root_.Go.ChangeSpec) : _root_.Go.OpenSpec := { _root_.Go.OpenSpec.ofChange s with cond := some uptoSmall }

/-- 'wirelesslaw40.BondsForms', WHERE WHAT IT READS IS OF BULK AT MOST 1048576: true; the input reads as it did. -/
def bondsFormsUptoRow : OpenClaim := { program := "ytbdhonofhlpdoaadoor", sum := "cff1853f73ec52a210c36bcb2707e1f54b20a71f6c18a5b71663948a161acdc7", func := "wireless/wirelesslaw40.BondsForms", spec := "bondsForms", unfollowed := true, recurses := true, named := ["wireless/address.prefixes"], apart := false, laid := [("wireless/address.prefixes", laid_wireless_address_prefixes)], narrowed := true }
def BondsFormsUptoSaid : Prop := bondsFormsUptoRow.holds Tryd.pinned (OpenSpec.upto bondsFormsSpec)

/-- 'wirelesslaw40.BondsChanges', WHERE WHAT IT READS IS OF BULK AT MOST 1048576: true; the input reads as it did. -/
def bondsChangesUptoRow : OpenClaim := { program := "ytbdhonofhlpdoaadoor", sum := "cff1853f73ec52a210c36bcb2707e1f54b20a71f6c18a5b71663948a161acdc7", func := "wireless/wirelesslaw40.BondsChanges", spec := "bondsChanges", unfollowed := true, recurses := true, named := ["wireless/address.prefixes"], apart := false, laid := [("wireless/address.prefixes", laid_wireless_address_prefixes)], narrowed := true }
def BondsChangesUptoSaid : Prop := bondsChangesUptoRow.holds Tryd.pinned (OpenSpec.upto bondsChangesSpec)

/-- 'wirelesslaw40.BondsRecent', WHERE WHAT IT READS IS OF BULK AT MOST 1048576: true; the input reads as it did. -/
def bondsRecentUptoRow : OpenClaim := { program := "ytbdhonofhlpdoaadoor", sum := "cff1853f73ec52a210c36bcb2707e1f54b20a71f6c18a5b71663948a161acdc7", func := "wireless/wirelesslaw40.BondsRecent", spec := "bondsRecent", unfollowed := true, recurses := true, named := ["wireless/address.prefixes"], apart := false, laid := [("wireless/address.prefixes", laid_wireless_address_prefixes)], narrowed := true }
def BondsRecentUptoSaid : Prop := bondsRecentUptoRow.holds Tryd.pinned (OpenSpec.upto bondsRecentSpec)

/-- 'wirelesslaw40.BondsBack', WHERE WHAT IT READS IS OF BULK AT MOST 1048576: true; the input reads as it did. -/
def bondsBackUptoRow : OpenClaim := { program := "ytbdhonofhlpdoaadoor", sum := "cff1853f73ec52a210c36bcb2707e1f54b20a71f6c18a5b71663948a161acdc7", func := "wireless/wirelesslaw40.BondsBack", spec := "bondsBack", inPlace := ["slices.overlaps[wireless/api.Item]"], unfollowed := true, recurses := true, named := ["wireless/address.prefixes", "wireless/crc.sums"], apart := false, laid := [("wireless/address.prefixes", laid_wireless_address_prefixes), ("wireless/crc.sums", laid_wireless_crc_sums)], narrowed := true }
def BondsBackUptoSaid : Prop := bondsBackUptoRow.holds Tryd.pinned (OpenSpec.upto bondsBackSpec)

/-- 'wirelesslaw40.BondsPersist', WHERE WHAT IT READS IS OF BULK AT MOST 1048576: true; the input reads as it did. -/
def bondsPersistUptoRow : OpenClaim := { program := "ytbdhonofhlpdoaadoor", sum := "cff1853f73ec52a210c36bcb2707e1f54b20a71f6c18a5b71663948a161acdc7", func := "wireless/wirelesslaw40.BondsPersist", spec := "bondsPersist", inPlace := ["slices.overlaps[wireless/api.Item]"], unfollowed := true, recurses := true, named := ["wireless/address.prefixes", "wireless/crc.sums"], apart := false, laid := [("wireless/address.prefixes", laid_wireless_address_prefixes), ("wireless/crc.sums", laid_wireless_crc_sums)], narrowed := true }
def BondsPersistUptoSaid : Prop := bondsPersistUptoRow.holds Tryd.pinned (OpenSpec.upto bondsPersistSpec)

end Rows
end Go.Proofs.YtbdhonofhlpdoaaDoor
