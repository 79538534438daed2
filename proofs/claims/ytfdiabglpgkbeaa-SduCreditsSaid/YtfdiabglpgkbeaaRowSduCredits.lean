/-
  SduCredits: the row.
-/
import Derived.Test.YtfdiabglpgkbeaaOpen
import Derived.Test.YtfdiabglpgkbeaaW1
import Derived.Test.YtfdiabglpgkbeaaLawSduCredits
namespace Go.Proofs.Ytfdiabglpgkbeaa
open Go.ChangeShapes Go.WideShapes Go.ChangeAt Go.RowKit Go.Deep V
set_option maxRecDepth 100000 in
set_option maxHeartbeats 1000000 in
theorem V.sduCredits_lifted (os : Os) (started : os.Started) (H : Type) (enc : TypeId × Value → H) :
    ReturnsInHanded {} Try.checked os 7 .any (Rows.sduCreditsSpec.pre6 enc Try.prog Try.f7 Rows.sduCreditsRow.domain false) (Rows.sduCreditsSpec.post enc Try.prog Try.f7 false true false false) := by
  refine returnsInHanded_of_change_sized (C := Try.checked) V.own started (by kernel_rfl) Try.func7
    (ChangeSpec.witness6 (enc := enc) (C := Try.checked) false ⟨#[], #[.agg #[.int .i64 0, .int .i64 0, .int .i64 0, .slice none 0 0]], []⟩ 8 (by kernel_rfl) (by kernel_rfl) (by kernel_rfl) (by kernel_rfl)) ?_
  intro W base args ds gs before hval0 hW _ hsz _
  have hval : ∀ (j : Nat) t v, Try.f7.params[j]? = some t → args[j]? = some v → Value.okWide Try.prog W .any base t v := hval0
  have hW' : DataW.Whole enc Try.prog Try.f7.params.toList Rows.sduCreditsSpec.vars false W args.toList ds gs before := hW
  obtain ⟨p, q, hA0, hV, rfl, _, _⟩ := id hW
  have hA : DataW.TrodAll enc Try.prog W 0 (fun _ => true) true Try.f7.params.toList args.toList ds p := hA0
  obtain ⟨rfl, rfl⟩ := trodVars_none hV
  have hsz1 : (DataW.weightsEach Try.prog (Try.f7.params.toList ++ []) (ds ++ [])).all (· ≤ reachBytes) = true := hsz
  clear hsz
  have hsz : (DataW.weightsEach Try.prog Try.f7.params.toList ds).all (· ≤ reachBytes) = true := by simpa only [List.append_nil] using hsz1
  rw [Try.params7] at hA hval hsz
  obtain ⟨v0, d0, rfl, rfl, h0⟩ := trodAll_one hA
  obtain ⟨cs0, x0, rfl, r0, g0⟩ := arg_struct Try.underlying47 opens_t47 (hval 0 47 v0 rfl rfl) h0 (weights_arg hsz 0 rfl rfl)
  obtain ⟨A0_3, k0_3, rfl, f0_3⟩ := r0
  have hp : wirelesslaw33_SduCredits FF x0 = some true := (credits_law x0 (gway g0))
  exact shut (from_spec (ok_wirelesslaw33_SduCredits FF x0 true hp) [.r A0_3 (List.length x0.Steps) k0_3] rfl (by kernel_rfl) (fun p h => by rw [show globs = [] from rfl] at h; cases h) ⟨⟨rfl, f0_3⟩, trivial⟩ rfl) hW' rfl rfl rfl Try.underlying4 V.laidOut (by kernel_rfl)
theorem sduCredits_holds : Rows.SduCreditsSaid :=
  OpenClaim.holds_of_wide 7 Try.f7 rfl rfl rfl rfl rfl rfl rfl ⟨rfl, rfl, rfl, rfl, rfl⟩ rfl rfl rfl rfl rfl (by kernel_rfl) Try.func7 (by kernel_rfl)
    (of_decide_eq_true (by kernel_rfl)) (by unfold Func.isWrapper; first | (rw [if_pos (by decide +kernel)]; kernel_rfl) | (rw [if_neg (by decide +kernel)]; exact ⟨rfl, rfl⟩))
    (fun os started H enc _ => V.sduCredits_lifted os started H enc)
end Go.Proofs.Ytfdiabglpgkbeaa
