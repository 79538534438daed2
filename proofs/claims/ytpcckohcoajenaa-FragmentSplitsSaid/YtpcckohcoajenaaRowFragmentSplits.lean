/-
  FragmentSplits: the row.
-/
import Derived.Test.YtpcckohcoajenaaOpen
import Derived.Test.YtpcckohcoajenaaW1
import Derived.Test.YtpcckohcoajenaaLawFragmentSplits
namespace Go.Proofs.Ytpcckohcoajenaa
open Go.ChangeShapes Go.WideShapes Go.ChangeAt Go.RowKit Go.Deep V
set_option maxRecDepth 100000 in
set_option maxHeartbeats 1000000 in
theorem V.fragmentSplits_lifted (os : Os) (started : os.Started) (H : Type) (enc : TypeId × Value → H) :
    ReturnsInHanded {} Try.checked os 5 .any (Rows.fragmentSplitsSpec.pre6 enc Try.prog Try.f5 Rows.fragmentSplitsRow.domain false) (Rows.fragmentSplitsSpec.post enc Try.prog Try.f5 false true false false) := by
  refine returnsInHanded_of_change_sized (C := Try.checked) V.own started (by kernel_rfl) Try.func5
    (ChangeSpec.witness6 (enc := enc) (C := Try.checked) false ⟨#[], #[.agg #[.int .u16 0, .slice none 0 0], .int .i64 0], []⟩ 8 (by kernel_rfl) (by kernel_rfl) (by kernel_rfl) (by kernel_rfl)) ?_
  intro W base args ds gs before hval0 hW _ hsz _
  have hval : ∀ (j : Nat) t v, Try.f5.params[j]? = some t → args[j]? = some v → Value.okWide Try.prog W .any base t v := hval0
  have hW' : DataW.Whole enc Try.prog Try.f5.params.toList Rows.fragmentSplitsSpec.vars false W args.toList ds gs before := hW
  obtain ⟨p, q, hA0, hV, rfl, _, _⟩ := id hW
  have hA : DataW.TrodAll enc Try.prog W 0 (fun _ => true) true Try.f5.params.toList args.toList ds p := hA0
  obtain ⟨rfl, rfl⟩ := trodVars_none hV
  have hsz1 : (DataW.weightsEach Try.prog (Try.f5.params.toList ++ []) (ds ++ [])).all (· ≤ reachBytes) = true := hsz
  clear hsz
  have hsz : (DataW.weightsEach Try.prog Try.f5.params.toList ds).all (· ≤ reachBytes) = true := by simpa only [List.append_nil] using hsz1
  rw [Try.params5] at hA hval hsz
  obtain ⟨v0, v1, d0, d1, p0, p1, rfl, rfl, rfl, h0, h1⟩ := trodAll_two hA
  obtain ⟨cs0, x0, rfl, r0, g0⟩ := arg_struct Try.underlying25 opens_t25 (hval 0 25 v0 rfl rfl) h0 (weights_arg hsz 0 rfl rfl)
  obtain ⟨A0_1, k0_1, rfl, f0_1⟩ := r0
  obtain ⟨x1, rfl, g1⟩ := arg_int Try.underlying3 (hval 1 3 v1 rfl rfl) h1 (weights_arg hsz 1 rfl rfl)
  have hp : wirelesslaw32_FragmentSplits FF x0 x1 = some true := (splits_law x0 x1 (gframe g0))
  exact shut (from_spec (ok_wirelesslaw32_FragmentSplits FF x0 x1 true hp) [.r A0_1 (List.length x0.Payload) k0_1] rfl (by kernel_rfl) ⟨⟨rfl, f0_1⟩, trivial⟩ rfl) hW' rfl rfl rfl Try.underlying4 V.laidOut (by kernel_rfl)
theorem fragmentSplits_holds : Rows.FragmentSplitsSaid :=
  OpenClaim.holds_of_wide 5 Try.f5 rfl rfl rfl rfl rfl rfl rfl ⟨rfl, rfl, rfl, rfl, rfl⟩ rfl rfl rfl rfl rfl (by kernel_rfl) Try.func5 (by kernel_rfl)
    (of_decide_eq_true (by kernel_rfl)) (by unfold Func.isWrapper; first | (rw [if_pos (by decide +kernel)]; kernel_rfl) | (rw [if_neg (by decide +kernel)]; exact ⟨rfl, rfl⟩))
    (fun os started H enc _ => V.fragmentSplits_lifted os started H enc)
end Go.Proofs.Ytpcckohcoajenaa
