/-
  DERIVED. GIVEN WITH THE SEED: THE CARDS: each row of YtbdhonofhlpdoaaGreatDoorRows.lean that lists a variable, with what it lists TIED to the program's text (the seventh form; the later family's looks); each row that meets fmt, with fmt's text TOLD by the authors' own Lean function (tested against real Go, not proved from fmt's source: count such statements apart). THE CARD IS WHAT COUNTS. Prove the row's statement (the work); the ties are given (YtbdhonofhlpdoaaGreatDoorTie.lean); close each card by the builder's one call (the guide's Derived/Test/ToyasCard.lean, 'card_holds'). Laid BY PROGRAM, IN A SANDBOX (cutbox-door.mjs). By AI agents, Wed Nov 11 2026. No macro, syntax, notation, axiom, sorry.
-/
import Derived.Test.YtbdhonofhlpdoaaGreatDoorRows
import GoSem.ClaimSeven
namespace Go.Proofs.YtbdhonofhlpdoaaGreatDoor
namespace Rows

/-- THE TIED CARD OF 'wirelesslaw40.BondsStores'. -/
def bondsStoresCard : Claim7 := { stood := { row := bondsStoresRow, standIns := [], harness := (true, "41bcb5b53c1eb7aa072189565d34d2127aa4d1c512671704028c9dcab9e0d54f"), looks := true }, kinds := [], alts := [], laidByText := true, laidKinds := [.data, .data], laidTests := true, laidLooks := .later }
def BondsStoresCardSaid : Prop := Claim7.holds Tryz.pinned (.plain (OpenSpec.ofChange bondsStoresSpec)) bondsStoresCard

/-- THE SECOND FORM's CARD OF 'wirelesslaw40.BondsStores'. -/
def bondsStoresUptoCard : Claim7 := { stood := { row := bondsStoresUptoRow, standIns := [], harness := (true, "41bcb5b53c1eb7aa072189565d34d2127aa4d1c512671704028c9dcab9e0d54f"), looks := true }, kinds := [], alts := [], laidByText := true, laidKinds := [.data, .data], laidTests := true, laidLooks := .later }
def BondsStoresUptoCardSaid : Prop := Claim7.holds Tryz.pinned (.plain (OpenSpec.upto bondsStoresSpec)) bondsStoresUptoCard
end Rows
end Go.Proofs.YtbdhonofhlpdoaaGreatDoor
