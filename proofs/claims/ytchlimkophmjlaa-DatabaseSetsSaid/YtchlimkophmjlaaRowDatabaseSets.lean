/-
  DatabaseSets: the row.
-/
import Derived.Test.YtchlimkophmjlaaOpen
import Derived.Test.YtchlimkophmjlaaW4
import Derived.Test.YtchlimkophmjlaaLawDatabaseSets
namespace Go.Proofs.Ytchlimkophmjlaa
open Go.ChangeShapes Go.WideShapes Go.ChangeAt Go.RowKit Go.Deep V
set_option maxRecDepth 100000 in
set_option maxHeartbeats 1000000 in
theorem V.databaseSets_lifted (os : Os) (started : os.Started) (H : Type) (enc : TypeId × Value → H) :
    ReturnsInHanded {} Try.checked os 9 .any (Rows.databaseSetsSpec.pre6 enc Try.prog Try.f9 Rows.databaseSetsRow.domain false) (Rows.databaseSetsSpec.post enc Try.prog Try.f9 false true false false) := by
  refine returnsInHanded_of_change_sized (C := Try.checked) V.own started (by kernel_rfl) Try.func9
    (ChangeSpec.witness6 (enc := enc) (C := Try.checked) false ⟨#[], #[.slice none 0 0, .int .u16 0, .slice none 0 0], []⟩ 8 (by kernel_rfl) (by kernel_rfl) (by kernel_rfl) (by kernel_rfl)) ?_
  intro W base args ds gs before hval0 hW _ hsz _
  have hval : ∀ (j : Nat) t v, Try.f9.params[j]? = some t → args[j]? = some v → Value.okWide Try.prog W .any base t v := hval0
  have hW' : DataW.Whole enc Try.prog Try.f9.params.toList Rows.databaseSetsSpec.vars false W args.toList ds gs before := hW
  obtain ⟨p, q, hA0, hV, rfl, _, _⟩ := id hW
  have hA : DataW.TrodAll enc Try.prog W 0 (fun _ => true) true Try.f9.params.toList args.toList ds p := hA0
  obtain ⟨rfl, rfl⟩ := trodVars_none hV
  have hsz1 : (DataW.weightsEach Try.prog (Try.f9.params.toList ++ []) (ds ++ [])).all (· ≤ reachBytes) = true := hsz
  clear hsz
  have hsz : (DataW.weightsEach Try.prog Try.f9.params.toList ds).all (· ≤ reachBytes) = true := by simpa only [List.append_nil] using hsz1
  rw [Try.params9] at hA hval hsz
  obtain ⟨v0, v1, v2, d0, d1, d2, p0, p1, p2, rfl, rfl, rfl, h0, h1, h2⟩ := trodAll_three hA
  obtain ⟨A0, k0, x0, rfl, f0, g0⟩ := arg_slice Try.underlying22 opens_t22 (hval 0 22 v0 rfl rfl) h0 (weights_arg hsz 0 rfl rfl)
  obtain ⟨x1, rfl, g1⟩ := arg_int Try.underlying28 (hval 1 28 v1 rfl rfl) h1 (weights_arg hsz 1 rfl rfl)
  obtain ⟨A2, k2, x2, rfl, f2, g2⟩ := arg_slice Try.underlying37 opens_t37 (hval 2 37 v2 rfl rfl) h2 (weights_arg hsz 2 rfl rfl)
  have hp : wirelesslaw43_DatabaseSets FF x0 x1 x2 = some true := (sets_top x0 x1 x2 (gdb g0) (gval g2))
  exact shut (from_spec (ok_wirelesslaw43_DatabaseSets FF x0 x1 x2 true hp) [.r A0 (List.length x0) k0, .r A2 (List.length x2) k2] rfl (by kernel_rfl) ⟨⟨rfl, f0⟩, ⟨rfl, f2⟩, trivial⟩ rfl) hW' rfl rfl rfl Try.underlying4 V.laidOut (by kernel_rfl)
theorem databaseSets_holds : Rows.DatabaseSetsSaid :=
  OpenClaim.holds_of_wide 9 Try.f9 rfl rfl rfl rfl rfl rfl rfl ⟨rfl, rfl, rfl, rfl, rfl⟩ rfl rfl rfl rfl rfl (by kernel_rfl) Try.func9 (by kernel_rfl)
    (of_decide_eq_true (by kernel_rfl)) (by unfold Func.isWrapper; first | (rw [if_pos (by decide +kernel)]; kernel_rfl) | (rw [if_neg (by decide +kernel)]; exact ⟨rfl, rfl⟩))
    (fun os started H enc _ => V.databaseSets_lifted os started H enc)
end Go.Proofs.Ytchlimkophmjlaa
