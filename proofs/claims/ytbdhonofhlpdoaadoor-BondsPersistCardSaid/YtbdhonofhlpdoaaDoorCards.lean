/-
  DERIVED. GIVEN WITH THE SEED: THE CARDS: each row of YtbdhonofhlpdoaaDoorRows.lean that lists a variable, with what it lists TIED to the program's text (the seventh form; the later family's looks); each row that meets fmt, with fmt's text TOLD by the authors' own Lean function (tested against real Go, not proved from fmt's source: count such statements apart). THE CARD IS WHAT COUNTS. Prove the row's statement (the work); the ties are given (YtbdhonofhlpdoaaDoorTie.lean); close each card by the builder's one call (the guide's Derived/Test/ToyasCard.lean, 'card_holds'). Laid BY PROGRAM, IN A SANDBOX (cutbox-door.mjs). By AI agents, Wed Nov 11 2026. No macro, syntax, notation, axiom, sorry.
-/
import Derived.Test.YtbdhonofhlpdoaaDoorRows
import GoSem.ClaimSeven
namespace Go.Proofs.YtbdhonofhlpdoaaDoor
namespace Rows

/-- THE TIED CARD OF 'wirelesslaw40.BondsForms'. -/
def bondsFormsCard : Claim7 := { stood := { row := bondsFormsRow, standIns := [], harness := (true, "d2f41ddd1dcf2ac54a3e713b563eee8a08e085c38cffdac529ae66f215a5a175"), looks := true }, kinds := [], alts := [], laidByText := true, laidKinds := [.data], laidTests := true, laidLooks := .later }
def BondsFormsCardSaid : Prop := Claim7.holds Tryd.pinned (.plain (OpenSpec.ofChange bondsFormsSpec)) bondsFormsCard

/-- THE TIED CARD OF 'wirelesslaw40.BondsChanges'. -/
def bondsChangesCard : Claim7 := { stood := { row := bondsChangesRow, standIns := [], harness := (true, "d2f41ddd1dcf2ac54a3e713b563eee8a08e085c38cffdac529ae66f215a5a175"), looks := true }, kinds := [], alts := [], laidByText := true, laidKinds := [.data], laidTests := true, laidLooks := .later }
def BondsChangesCardSaid : Prop := Claim7.holds Tryd.pinned (.plain (OpenSpec.ofChange bondsChangesSpec)) bondsChangesCard

/-- THE TIED CARD OF 'wirelesslaw40.BondsRecent'. -/
def bondsRecentCard : Claim7 := { stood := { row := bondsRecentRow, standIns := [], harness := (true, "d2f41ddd1dcf2ac54a3e713b563eee8a08e085c38cffdac529ae66f215a5a175"), looks := true }, kinds := [], alts := [], laidByText := true, laidKinds := [.data], laidTests := true, laidLooks := .later }
def BondsRecentCardSaid : Prop := Claim7.holds Tryd.pinned (.plain (OpenSpec.ofChange bondsRecentSpec)) bondsRecentCard

/-- THE TIED CARD OF 'wirelesslaw40.BondsBack'. -/
def bondsBackCard : Claim7 := { stood := { row := bondsBackRow, standIns := [], harness := (true, "d2f41ddd1dcf2ac54a3e713b563eee8a08e085c38cffdac529ae66f215a5a175"), looks := true }, kinds := [], alts := [], laidByText := true, laidKinds := [.data, .data], laidTests := true, laidLooks := .later }
def BondsBackCardSaid : Prop := Claim7.holds Tryd.pinned (.plain (OpenSpec.ofChange bondsBackSpec)) bondsBackCard

/-- THE TIED CARD OF 'wirelesslaw40.BondsPersist'. -/
def bondsPersistCard : Claim7 := { stood := { row := bondsPersistRow, standIns := [], harness := (true, "d2f41ddd1dcf2ac54a3e713b563eee8a08e085c38cffdac529ae66f215a5a175"), looks := true }, kinds := [], alts := [], laidByText := true, laidKinds := [.data, .data], laidTests := true, laidLooks := .later }
def BondsPersistCardSaid : Prop := Claim7.holds Tryd.pinned (.plain (OpenSpec.ofChange bondsPersistSpec)) bondsPersistCard

/-- THE SECOND FORM's CARD OF 'wirelesslaw40.BondsForms'. -/
def bondsFormsUptoCard : Claim7 := { stood := { row := bondsFormsUptoRow, standIns := [], harness := (true, "d2f41ddd1dcf2ac54a3e713b563eee8a08e085c38cffdac529ae66f215a5a175"), looks := true }, kinds := [], alts := [], laidByText := true, laidKinds := [.data], laidTests := true, laidLooks := .later }
def BondsFormsUptoCardSaid : Prop := Claim7.holds Tryd.pinned (.plain (OpenSpec.upto bondsFormsSpec)) bondsFormsUptoCard

/-- THE SECOND FORM's CARD OF 'wirelesslaw40.BondsChanges'. -/
def bondsChangesUptoCard : Claim7 := { stood := { row := bondsChangesUptoRow, standIns := [], harness := (true, "d2f41ddd1dcf2ac54a3e713b563eee8a08e085c38cffdac529ae66f215a5a175"), looks := true }, kinds := [], alts := [], laidByText := true, laidKinds := [.data], laidTests := true, laidLooks := .later }
def BondsChangesUptoCardSaid : Prop := Claim7.holds Tryd.pinned (.plain (OpenSpec.upto bondsChangesSpec)) bondsChangesUptoCard

/-- THE SECOND FORM's CARD OF 'wirelesslaw40.BondsRecent'. -/
def bondsRecentUptoCard : Claim7 := { stood := { row := bondsRecentUptoRow, standIns := [], harness := (true, "d2f41ddd1dcf2ac54a3e713b563eee8a08e085c38cffdac529ae66f215a5a175"), looks := true }, kinds := [], alts := [], laidByText := true, laidKinds := [.data], laidTests := true, laidLooks := .later }
def BondsRecentUptoCardSaid : Prop := Claim7.holds Tryd.pinned (.plain (OpenSpec.upto bondsRecentSpec)) bondsRecentUptoCard

/-- THE SECOND FORM's CARD OF 'wirelesslaw40.BondsBack'. -/
def bondsBackUptoCard : Claim7 := { stood := { row := bondsBackUptoRow, standIns := [], harness := (true, "d2f41ddd1dcf2ac54a3e713b563eee8a08e085c38cffdac529ae66f215a5a175"), looks := true }, kinds := [], alts := [], laidByText := true, laidKinds := [.data, .data], laidTests := true, laidLooks := .later }
def BondsBackUptoCardSaid : Prop := Claim7.holds Tryd.pinned (.plain (OpenSpec.upto bondsBackSpec)) bondsBackUptoCard

/-- THE SECOND FORM's CARD OF 'wirelesslaw40.BondsPersist'. -/
def bondsPersistUptoCard : Claim7 := { stood := { row := bondsPersistUptoRow, standIns := [], harness := (true, "d2f41ddd1dcf2ac54a3e713b563eee8a08e085c38cffdac529ae66f215a5a175"), looks := true }, kinds := [], alts := [], laidByText := true, laidKinds := [.data, .data], laidTests := true, laidLooks := .later }
def BondsPersistUptoCardSaid : Prop := Claim7.holds Tryd.pinned (.plain (OpenSpec.upto bondsPersistSpec)) bondsPersistUptoCard
end Rows
end Go.Proofs.YtbdhonofhlpdoaaDoor
