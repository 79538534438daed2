/-
  DERIVED. GIVEN WITH THE SEED: THE CARDS: each row of YtojcklkcjnnkaaaDoorRows.lean that lists a variable, with what it lists TIED to the program's text (the seventh form; the later family's looks); each row that meets fmt, with fmt's text TOLD by the authors' own Lean function (tested against real Go, not proved from fmt's source: count such statements apart). THE CARD IS WHAT COUNTS. Prove the row's statement (the work); the ties are given (YtojcklkcjnnkaaaDoorTie.lean); close each card by the builder's one call (the guide's Derived/Test/ToyasCard.lean, 'card_holds'). Laid BY PROGRAM, IN A SANDBOX (cutbox-door.mjs). By AI agents, Wed Nov 11 2026. No macro, syntax, notation, axiom, sorry.
-/
import Derived.Test.YtojcklkcjnnkaaaDoorRows
import GoSem.ClaimSeven
namespace Go.Proofs.YtojcklkcjnnkaaaDoor
namespace Rows

/-- THE TIED CARD OF 'wirelesslaw39.FlashApplies'. -/
def flashAppliesCard : Claim7 := { stood := { row := flashAppliesRow, standIns := [], harness := (true, "812ff436e154673a0056c464b6e3016c31f8989dd598e15f2eac743af17e23ad"), looks := true }, kinds := [], alts := [], laidByText := true, laidKinds := [.data], laidTests := true, laidLooks := .later }
def FlashAppliesCardSaid : Prop := Claim7.holds Tryd.pinned (.plain (OpenSpec.ofChange flashAppliesSpec)) flashAppliesCard

/-- THE TIED CARD OF 'wirelesslaw39.FlashMounts'. -/
def flashMountsCard : Claim7 := { stood := { row := flashMountsRow, standIns := [], harness := (true, "812ff436e154673a0056c464b6e3016c31f8989dd598e15f2eac743af17e23ad"), looks := true }, kinds := [], alts := [], laidByText := true, laidKinds := [.data], laidTests := true, laidLooks := .later }
def FlashMountsCardSaid : Prop := Claim7.holds Tryd.pinned (.plain (OpenSpec.ofChange flashMountsSpec)) flashMountsCard

/-- THE TIED CARD OF 'wirelesslaw39.FlashPlans'. -/
def flashPlansCard : Claim7 := { stood := { row := flashPlansRow, standIns := [], harness := (true, "812ff436e154673a0056c464b6e3016c31f8989dd598e15f2eac743af17e23ad"), looks := true }, kinds := [], alts := [], laidByText := true, laidKinds := [.data], laidTests := true, laidLooks := .later }
def FlashPlansCardSaid : Prop := Claim7.holds Tryd.pinned (.plain (OpenSpec.ofChange flashPlansSpec)) flashPlansCard

/-- THE TIED CARD OF 'wirelesslaw39.FlashAtomic'. -/
def flashAtomicCard : Claim7 := { stood := { row := flashAtomicRow, standIns := [], harness := (true, "812ff436e154673a0056c464b6e3016c31f8989dd598e15f2eac743af17e23ad"), looks := true }, kinds := [], alts := [], laidByText := true, laidKinds := [.data], laidTests := true, laidLooks := .later }
def FlashAtomicCardSaid : Prop := Claim7.holds Tryd.pinned (.plain (OpenSpec.ofChange flashAtomicSpec)) flashAtomicCard

/-- THE TIED CARD OF 'wirelesslaw39.FlashKeeps'. -/
def flashKeepsCard : Claim7 := { stood := { row := flashKeepsRow, standIns := [], harness := (true, "812ff436e154673a0056c464b6e3016c31f8989dd598e15f2eac743af17e23ad"), looks := true }, kinds := [], alts := [], laidByText := true, laidKinds := [.data], laidTests := true, laidLooks := .later }
def FlashKeepsCardSaid : Prop := Claim7.holds Tryd.pinned (.plain (OpenSpec.ofChange flashKeepsSpec)) flashKeepsCard

/-- THE SECOND FORM's CARD OF 'wirelesslaw39.FlashApplies'. -/
def flashAppliesUptoCard : Claim7 := { stood := { row := flashAppliesUptoRow, standIns := [], harness := (true, "812ff436e154673a0056c464b6e3016c31f8989dd598e15f2eac743af17e23ad"), looks := true }, kinds := [], alts := [], laidByText := true, laidKinds := [.data], laidTests := true, laidLooks := .later }
def FlashAppliesUptoCardSaid : Prop := Claim7.holds Tryd.pinned (.plain (OpenSpec.upto flashAppliesSpec)) flashAppliesUptoCard

/-- THE SECOND FORM's CARD OF 'wirelesslaw39.FlashMounts'. -/
def flashMountsUptoCard : Claim7 := { stood := { row := flashMountsUptoRow, standIns := [], harness := (true, "812ff436e154673a0056c464b6e3016c31f8989dd598e15f2eac743af17e23ad"), looks := true }, kinds := [], alts := [], laidByText := true, laidKinds := [.data], laidTests := true, laidLooks := .later }
def FlashMountsUptoCardSaid : Prop := Claim7.holds Tryd.pinned (.plain (OpenSpec.upto flashMountsSpec)) flashMountsUptoCard

/-- THE SECOND FORM's CARD OF 'wirelesslaw39.FlashPlans'. -/
def flashPlansUptoCard : Claim7 := { stood := { row := flashPlansUptoRow, standIns := [], harness := (true, "812ff436e154673a0056c464b6e3016c31f8989dd598e15f2eac743af17e23ad"), looks := true }, kinds := [], alts := [], laidByText := true, laidKinds := [.data], laidTests := true, laidLooks := .later }
def FlashPlansUptoCardSaid : Prop := Claim7.holds Tryd.pinned (.plain (OpenSpec.upto flashPlansSpec)) flashPlansUptoCard

/-- THE SECOND FORM's CARD OF 'wirelesslaw39.FlashAtomic'. -/
def flashAtomicUptoCard : Claim7 := { stood := { row := flashAtomicUptoRow, standIns := [], harness := (true, "812ff436e154673a0056c464b6e3016c31f8989dd598e15f2eac743af17e23ad"), looks := true }, kinds := [], alts := [], laidByText := true, laidKinds := [.data], laidTests := true, laidLooks := .later }
def FlashAtomicUptoCardSaid : Prop := Claim7.holds Tryd.pinned (.plain (OpenSpec.upto flashAtomicSpec)) flashAtomicUptoCard

/-- THE SECOND FORM's CARD OF 'wirelesslaw39.FlashKeeps'. -/
def flashKeepsUptoCard : Claim7 := { stood := { row := flashKeepsUptoRow, standIns := [], harness := (true, "812ff436e154673a0056c464b6e3016c31f8989dd598e15f2eac743af17e23ad"), looks := true }, kinds := [], alts := [], laidByText := true, laidKinds := [.data], laidTests := true, laidLooks := .later }
def FlashKeepsUptoCardSaid : Prop := Claim7.holds Tryd.pinned (.plain (OpenSpec.upto flashKeepsSpec)) flashKeepsUptoCard
end Rows
end Go.Proofs.YtojcklkcjnnkaaaDoor
