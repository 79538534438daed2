/-
  The tie: what the row lists of the package's variables is what the program's text lays.
-/
import Derived.Test.YtladkmnfmpojiaaGreatDoorFx
namespace Go.Proofs.YtladkmnfmpojiaaGreatDoor
namespace Z
set_option maxRecDepth 100000
theorem noReady : ((Tryz.prog.funcs.toList).flatMap fun f => (f.body.map readies).getD []) = [] := by kernel_rfl
theorem noWait : waiting Tryz.prog = Array.replicate Tryz.prog.globals.size false := by
  unfold waiting
  rw [noReady]
  rfl
theorem wd {P : Program} {w : String} {b : Bool} (h : (P.funcs.toList.any fun fn => fn.body.isNone && eqB fn.name w) = b) : P.worded w = b := by
  unfold Program.worded
  rw [← Array.any_toList]
  simp only [beqB]
  exact h
theorem lays1 (os : Os) (tape : Tape) : varsDone Tryz.prog 400 988 os tape = true := by
  unfold varsDone World.unlaid begin
  rw [noWait]
  kernel_rfl
theorem lays2 (os : Os) (tape : Tape) : (DataW.laidRun Tryz.prog (varsWorld Tryz.prog 400 988 os tape).memory 8 (Rows.topPrivacyRow.laid.map (·.1))).map (·.1) = some Rows.topPrivacyRow.laid := by
  unfold varsWorld World.unlaid begin
  rw [noWait]
  kernel_rfl
theorem lays3 (os : Os) (tape : Tape) : (DataW.laidRun Tryz.prog (varsWorld Tryz.prog 400 988 os tape).memory 8 (Rows.topPrivacyRow.laid.map (·.1))).map (fun x => decide x.2.Nodup && laidRowsB Tryz.prog (varsWorld Tryz.prog 400 988 os tape).memory x.2) = some true := by
  unfold varsWorld World.unlaid begin
  rw [noWait]
  kernel_rfl
theorem tied : Tryz.prog.laidByTextLater Rows.topPrivacyRow.laid [.data, .data, .data] true :=
  Program.laidByTextLater_of_run 988 400 8 (wd (by kernel_rfl)) (wd (by kernel_rfl)) (wd (by kernel_rfl)) (by kernel_rfl) fnVars (by kernel_rfl) lays1 lays2 lays3
theorem noOwn : Tryz.pinned.checked.prog.headLifts.contains "ownunsafe" = false := by kernel_rfl
theorem rowTie : Rows.topPrivacyRow.laidByTextAt .later Tryz.pinned [.data, .data, .data] true :=
  OpenClaim.laidByTextAt_later rfl rfl tied noOwn
end Z
end Go.Proofs.YtladkmnfmpojiaaGreatDoor
