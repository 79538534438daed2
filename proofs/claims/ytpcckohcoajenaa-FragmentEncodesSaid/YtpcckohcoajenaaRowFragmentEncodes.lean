/-
  FragmentEncodes: the row.
-/
import Derived.Test.YtpcckohcoajenaaOpen
import Derived.Test.YtpcckohcoajenaaW1
import Derived.Test.YtpcckohcoajenaaLawFragmentEncodes
namespace Go.Proofs.Ytpcckohcoajenaa
open Go.ChangeShapes Go.WideShapes Go.ChangeAt Go.RowKit Go.Deep V
set_option maxRecDepth 100000 in
set_option maxHeartbeats 1000000 in
theorem V.fragmentEncodes_lifted (os : Os) (started : os.Started) (H : Type) (enc : TypeId × Value → H) :
    ReturnsInHanded {} Try.checked os 3 .any (Rows.fragmentEncodesSpec.pre6 enc Try.prog Try.f3 Rows.fragmentEncodesRow.domain false) (Rows.fragmentEncodesSpec.post enc Try.prog Try.f3 false true false false) := by
  refine returnsInHanded_of_change_sized (C := Try.checked) V.own started (by kernel_rfl) Try.func3
    (ChangeSpec.witness6 (enc := enc) (C := Try.checked) false ⟨#[], #[.agg #[.int .u16 0, .slice none 0 0]], []⟩ 8 (by kernel_rfl) (by kernel_rfl) (by kernel_rfl) (by kernel_rfl)) ?_
  intro W base args ds gs before hval0 hW _ hsz _
  have hval : ∀ (j : Nat) t v, Try.f3.params[j]? = some t → args[j]? = some v → Value.okWide Try.prog W .any base t v := hval0
  have hW' : DataW.Whole enc Try.prog Try.f3.params.toList Rows.fragmentEncodesSpec.vars false W args.toList ds gs before := hW
  obtain ⟨p, q, hA0, hV, rfl, _, _⟩ := id hW
  have hA : DataW.TrodAll enc Try.prog W 0 (fun _ => true) true Try.f3.params.toList args.toList ds p := hA0
  obtain ⟨rfl, rfl⟩ := trodVars_none hV
  have hsz1 : (DataW.weightsEach Try.prog (Try.f3.params.toList ++ []) (ds ++ [])).all (· ≤ reachBytes) = true := hsz
  clear hsz
  have hsz : (DataW.weightsEach Try.prog Try.f3.params.toList ds).all (· ≤ reachBytes) = true := by simpa only [List.append_nil] using hsz1
  rw [Try.params3] at hA hval hsz
  obtain ⟨v0, d0, rfl, rfl, h0⟩ := trodAll_one hA
  obtain ⟨cs0, x0, rfl, r0, g0⟩ := arg_struct Try.underlying25 opens_t25 (hval 0 25 v0 rfl rfl) h0 (weights_arg hsz 0 rfl rfl)
  obtain ⟨A0_1, k0_1, rfl, f0_1⟩ := r0
  have hp : wirelesslaw32_FragmentEncodes FF x0 = some true := (encodes_law x0 (gframe g0))
  exact shut (from_spec (ok_wirelesslaw32_FragmentEncodes FF x0 true hp) [.r A0_1 (List.length x0.Payload) k0_1] rfl (by kernel_rfl) ⟨⟨rfl, f0_1⟩, trivial⟩ rfl) hW' rfl rfl rfl Try.underlying4 V.laidOut (by kernel_rfl)
theorem fragmentEncodes_holds : Rows.FragmentEncodesSaid :=
  OpenClaim.holds_of_wide 3 Try.f3 rfl rfl rfl rfl rfl rfl rfl ⟨rfl, rfl, rfl, rfl, rfl⟩ rfl rfl rfl rfl rfl (by kernel_rfl) Try.func3 (by kernel_rfl)
    (of_decide_eq_true (by kernel_rfl)) (by unfold Func.isWrapper; first | (rw [if_pos (by decide +kernel)]; kernel_rfl) | (rw [if_neg (by decide +kernel)]; exact ⟨rfl, rfl⟩))
    (fun os started H enc _ => V.fragmentEncodes_lifted os started H enc)
end Go.Proofs.Ytpcckohcoajenaa
