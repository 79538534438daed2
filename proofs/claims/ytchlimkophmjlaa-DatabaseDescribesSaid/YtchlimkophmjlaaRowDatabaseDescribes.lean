/-
  DatabaseDescribes: the row.
-/
import Derived.Test.YtchlimkophmjlaaOpen
import Derived.Test.YtchlimkophmjlaaW2
import Derived.Test.YtchlimkophmjlaaLawDatabaseDescribes
namespace Go.Proofs.Ytchlimkophmjlaa
open Go.ChangeShapes Go.WideShapes Go.ChangeAt Go.RowKit Go.Deep V
set_option maxRecDepth 100000 in
set_option maxHeartbeats 1000000 in
theorem V.databaseDescribes_lifted (os : Os) (started : os.Started) (H : Type) (enc : TypeId × Value → H) :
    ReturnsInHanded {} Try.checked os 5 .any (Rows.databaseDescribesSpec.pre6 enc Try.prog Try.f5 Rows.databaseDescribesRow.domain false) (Rows.databaseDescribesSpec.post enc Try.prog Try.f5 false true false false) := by
  refine returnsInHanded_of_change_sized (C := Try.checked) V.own started (by kernel_rfl) Try.func5
    (ChangeSpec.witness6 (enc := enc) (C := Try.checked) false ⟨#[], #[.slice none 0 0, .int .u16 0], []⟩ 8 (by kernel_rfl) (by kernel_rfl) (by kernel_rfl) (by kernel_rfl)) ?_
  intro W base args ds gs before hval0 hW _ hsz _
  have hval : ∀ (j : Nat) t v, Try.f5.params[j]? = some t → args[j]? = some v → Value.okWide Try.prog W .any base t v := hval0
  have hW' : DataW.Whole enc Try.prog Try.f5.params.toList Rows.databaseDescribesSpec.vars false W args.toList ds gs before := hW
  obtain ⟨p, q, hA0, hV, rfl, _, _⟩ := id hW
  have hA : DataW.TrodAll enc Try.prog W 0 (fun _ => true) true Try.f5.params.toList args.toList ds p := hA0
  obtain ⟨rfl, rfl⟩ := trodVars_none hV
  have hsz1 : (DataW.weightsEach Try.prog (Try.f5.params.toList ++ []) (ds ++ [])).all (· ≤ reachBytes) = true := hsz
  clear hsz
  have hsz : (DataW.weightsEach Try.prog Try.f5.params.toList ds).all (· ≤ reachBytes) = true := by simpa only [List.append_nil] using hsz1
  rw [Try.params5] at hA hval hsz
  obtain ⟨v0, v1, d0, d1, p0, p1, rfl, rfl, rfl, h0, h1⟩ := trodAll_two hA
  obtain ⟨A0, k0, x0, rfl, f0, g0⟩ := arg_slice Try.underlying27 opens_t27 (hval 0 27 v0 rfl rfl) h0 (weights_arg hsz 0 rfl rfl)
  obtain ⟨x1, rfl, g1⟩ := arg_int Try.underlying28 (hval 1 28 v1 rfl rfl) h1 (weights_arg hsz 1 rfl rfl)
  have hp : wirelesslaw43_DatabaseDescribes FF x0 x1 = some true := (describes_top x0 x1 (glist g0) (gu16 g1))
  exact shut (from_spec (ok_wirelesslaw43_DatabaseDescribes FF x0 x1 true hp) [.r A0 (List.length x0) k0] rfl (by kernel_rfl) ⟨⟨rfl, f0⟩, trivial⟩ rfl) hW' rfl rfl rfl Try.underlying4 V.laidOut (by kernel_rfl)
theorem databaseDescribes_holds : Rows.DatabaseDescribesSaid :=
  OpenClaim.holds_of_wide 5 Try.f5 rfl rfl rfl rfl rfl rfl rfl ⟨rfl, rfl, rfl, rfl, rfl⟩ rfl rfl rfl rfl rfl (by kernel_rfl) Try.func5 (by kernel_rfl)
    (of_decide_eq_true (by kernel_rfl)) (by unfold Func.isWrapper; first | (rw [if_pos (by decide +kernel)]; kernel_rfl) | (rw [if_neg (by decide +kernel)]; exact ⟨rfl, rfl⟩))
    (fun os started H enc _ => V.databaseDescribes_lifted os started H enc)
end Go.Proofs.Ytchlimkophmjlaa
