/-
  FragmentFeeds: the row.
-/
import Derived.Test.YtpcckohcoajenaaOpen
import Derived.Test.YtpcckohcoajenaaW1
import Derived.Test.YtpcckohcoajenaaLawFragmentFeeds
namespace Go.Proofs.Ytpcckohcoajenaa
open Go.ChangeShapes Go.WideShapes Go.ChangeAt Go.RowKit Go.Deep V
set_option maxRecDepth 100000 in
set_option maxHeartbeats 1000000 in
theorem V.fragmentFeeds_lifted (os : Os) (started : os.Started) (H : Type) (enc : TypeId × Value → H) :
    ReturnsInHanded {} Try.checked os 6 .any (Rows.fragmentFeedsSpec.pre6 enc Try.prog Try.f6 Rows.fragmentFeedsRow.domain false) (Rows.fragmentFeedsSpec.post enc Try.prog Try.f6 false true false false) := by
  refine returnsInHanded_of_change_sized (C := Try.checked) V.own started (by kernel_rfl) Try.func6
    (ChangeSpec.witness6 (enc := enc) (C := Try.checked) false ⟨#[], #[.agg #[.bool false, .slice none 0 0], .slice none 0 0], []⟩ 8 (by kernel_rfl) (by kernel_rfl) (by kernel_rfl) (by kernel_rfl)) ?_
  intro W base args ds gs before hval0 hW _ hsz _
  have hval : ∀ (j : Nat) t v, Try.f6.params[j]? = some t → args[j]? = some v → Value.okWide Try.prog W .any base t v := hval0
  have hW' : DataW.Whole enc Try.prog Try.f6.params.toList Rows.fragmentFeedsSpec.vars false W args.toList ds gs before := hW
  obtain ⟨p, q, hA0, hV, rfl, _, _⟩ := id hW
  have hA : DataW.TrodAll enc Try.prog W 0 (fun _ => true) true Try.f6.params.toList args.toList ds p := hA0
  obtain ⟨rfl, rfl⟩ := trodVars_none hV
  have hsz1 : (DataW.weightsEach Try.prog (Try.f6.params.toList ++ []) (ds ++ [])).all (· ≤ reachBytes) = true := hsz
  clear hsz
  have hsz : (DataW.weightsEach Try.prog Try.f6.params.toList ds).all (· ≤ reachBytes) = true := by simpa only [List.append_nil] using hsz1
  rw [Try.params6] at hA hval hsz
  obtain ⟨v0, v1, d0, d1, p0, p1, rfl, rfl, rfl, h0, h1⟩ := trodAll_two hA
  obtain ⟨cs0, x0, rfl, r0, g0⟩ := arg_struct Try.underlying41 opens_t41 (hval 0 41 v0 rfl rfl) h0 (weights_arg hsz 0 rfl rfl)
  obtain ⟨A0_1, k0_1, rfl, f0_1⟩ := r0
  obtain ⟨A1, k1, x1, rfl, f1, g1⟩ := arg_slice Try.underlying35 opens_t35 (hval 1 35 v1 rfl rfl) h1 (weights_arg hsz 1 rfl rfl)
  have hp : wirelesslaw32_FragmentFeeds FF x0 x1 = some true := (feeds_law x0 x1 (gasm2 g0) (gpks g1))
  exact shut (from_spec (ok_wirelesslaw32_FragmentFeeds FF x0 x1 true hp) [.r A0_1 (List.length x0.Buffer) k0_1, .r A1 (List.length x1) k1] rfl (by kernel_rfl) ⟨⟨rfl, f0_1⟩, ⟨rfl, f1⟩, trivial⟩ rfl) hW' rfl rfl rfl Try.underlying4 V.laidOut (by kernel_rfl)
theorem fragmentFeeds_holds : Rows.FragmentFeedsSaid :=
  OpenClaim.holds_of_wide 6 Try.f6 rfl rfl rfl rfl rfl rfl rfl ⟨rfl, rfl, rfl, rfl, rfl⟩ rfl rfl rfl rfl rfl (by kernel_rfl) Try.func6 (by kernel_rfl)
    (of_decide_eq_true (by kernel_rfl)) (by unfold Func.isWrapper; first | (rw [if_pos (by decide +kernel)]; kernel_rfl) | (rw [if_neg (by decide +kernel)]; exact ⟨rfl, rfl⟩))
    (fun os started H enc _ => V.fragmentFeeds_lifted os started H enc)
end Go.Proofs.Ytpcckohcoajenaa
