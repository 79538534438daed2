/-
  FriendServes: the row.
-/
import Derived.Test.YtphigebccfoppaaOpen
import Derived.Test.YtphigebccfoppaaW1
import Derived.Test.YtphigebccfoppaaLawFriendServes
namespace Go.Proofs.Ytphigebccfoppaa
open Go.ChangeShapes Go.WideShapes Go.ChangeAt Go.RowKit Go.Deep V
set_option maxRecDepth 100000 in
set_option maxHeartbeats 1000000 in
theorem V.friendServes_lifted (os : Os) (started : os.Started) (H : Type) (enc : TypeId × Value → H) :
    ReturnsInHanded {} Try.checked os 6 .any (Rows.friendServesSpec.pre6 enc Try.prog Try.f6 Rows.friendServesRow.domain false) (Rows.friendServesSpec.post enc Try.prog Try.f6 false true false false) := by
  refine returnsInHanded_of_change_sized (C := Try.checked) V.own started (by kernel_rfl) Try.func6
    (ChangeSpec.witness6 (enc := enc) (C := Try.checked) false ⟨#[], #[.slice none 0 0], []⟩ 8 (by kernel_rfl) (by kernel_rfl) (by kernel_rfl) (by kernel_rfl)) ?_
  intro W base args ds gs before hval0 hW _ hsz _
  have hval : ∀ (j : Nat) t v, Try.f6.params[j]? = some t → args[j]? = some v → Value.okWide Try.prog W .any base t v := hval0
  have hW' : DataW.Whole enc Try.prog Try.f6.params.toList Rows.friendServesSpec.vars false W args.toList ds gs before := hW
  obtain ⟨p, q, hA0, hV, rfl, _, _⟩ := id hW
  have hA : DataW.TrodAll enc Try.prog W 0 (fun _ => true) true Try.f6.params.toList args.toList ds p := hA0
  obtain ⟨rfl, rfl⟩ := trodVars_none hV
  have hsz1 : (DataW.weightsEach Try.prog (Try.f6.params.toList ++ []) (ds ++ [])).all (· ≤ reachBytes) = true := hsz
  clear hsz
  have hsz : (DataW.weightsEach Try.prog Try.f6.params.toList ds).all (· ≤ reachBytes) = true := by simpa only [List.append_nil] using hsz1
  rw [Try.params6] at hA hval hsz
  obtain ⟨v0, d0, rfl, rfl, h0⟩ := trodAll_one hA
  obtain ⟨A0, k0, x0, rfl, f0, g0⟩ := arg_slice Try.underlying22 opens_t22 (hval 0 22 v0 rfl rfl) h0 (weights_arg hsz 0 rfl rfl)
  have hp : wirelesslaw51_FriendServes FF x0 = some true := (serves_top x0 )
  exact shut (from_spec (ok_wirelesslaw51_FriendServes FF x0 true hp) [.r A0 (List.length x0) k0] rfl (by kernel_rfl) ⟨⟨rfl, f0⟩, trivial⟩ rfl) hW' rfl rfl rfl Try.underlying4 V.laidOut (by kernel_rfl)
theorem friendServes_holds : Rows.FriendServesSaid :=
  OpenClaim.holds_of_wide 6 Try.f6 rfl rfl rfl rfl rfl rfl rfl ⟨rfl, rfl, rfl, rfl, rfl⟩ rfl rfl rfl rfl rfl (by kernel_rfl) Try.func6 (by kernel_rfl)
    (of_decide_eq_true (by kernel_rfl)) (by unfold Func.isWrapper; first | (rw [if_pos (by decide +kernel)]; kernel_rfl) | (rw [if_neg (by decide +kernel)]; exact ⟨rfl, rfl⟩))
    (fun os started H enc _ => V.friendServes_lifted os started H enc)
end Go.Proofs.Ytphigebccfoppaa
