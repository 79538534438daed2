/-
  SduQueues: the row.
-/
import Derived.Test.YtfdiabglpgkbeaaOpen
import Derived.Test.YtfdiabglpgkbeaaW3
import Derived.Test.YtfdiabglpgkbeaaLawSduQueues
namespace Go.Proofs.Ytfdiabglpgkbeaa
open Go.ChangeShapes Go.WideShapes Go.ChangeAt Go.RowKit Go.Deep V
set_option maxRecDepth 100000 in
set_option maxHeartbeats 1000000 in
theorem V.sduQueues_lifted (os : Os) (started : os.Started) (H : Type) (enc : TypeId × Value → H) :
    ReturnsInHanded {} Try.checked os 6 .any (Rows.sduQueuesSpec.pre6 enc Try.prog Try.f6 Rows.sduQueuesRow.domain false) (Rows.sduQueuesSpec.post enc Try.prog Try.f6 false true false false) := by
  refine returnsInHanded_of_change_sized (C := Try.checked) V.own started (by kernel_rfl) Try.func6
    (ChangeSpec.witness6 (enc := enc) (C := Try.checked) false ⟨#[], #[.agg #[.int .u16 0, .int .u16 0, .int .u16 0, .int .i64 0, .int .i64 0, .int .i64 0, .int .i64 0, .int .i64 0, .int .i64 0, .int .i64 0, .slice none 0 0, .int .i64 0, .slice none 0 0, .int .i64 0, .bool false], .slice none 0 0, .int .i64 0], []⟩ 8 (by kernel_rfl) (by kernel_rfl) (by kernel_rfl) (by kernel_rfl)) ?_
  intro W base args ds gs before hval0 hW _ hsz _
  have hval : ∀ (j : Nat) t v, Try.f6.params[j]? = some t → args[j]? = some v → Value.okWide Try.prog W .any base t v := hval0
  have hW' : DataW.Whole enc Try.prog Try.f6.params.toList Rows.sduQueuesSpec.vars false W args.toList ds gs before := hW
  obtain ⟨p, q, hA0, hV, rfl, _, _⟩ := id hW
  have hA : DataW.TrodAll enc Try.prog W 0 (fun _ => true) true Try.f6.params.toList args.toList ds p := hA0
  obtain ⟨rfl, rfl⟩ := trodVars_none hV
  have hsz1 : (DataW.weightsEach Try.prog (Try.f6.params.toList ++ []) (ds ++ [])).all (· ≤ reachBytes) = true := hsz
  clear hsz
  have hsz : (DataW.weightsEach Try.prog Try.f6.params.toList ds).all (· ≤ reachBytes) = true := by simpa only [List.append_nil] using hsz1
  rw [Try.params6] at hA hval hsz
  obtain ⟨v0, v1, v2, d0, d1, d2, p0, p1, p2, rfl, rfl, rfl, h0, h1, h2⟩ := trodAll_three hA
  obtain ⟨cs0, x0, rfl, r0, g0⟩ := arg_struct Try.underlying26 opens_t26 (hval 0 26 v0 rfl rfl) h0 (weights_arg hsz 0 rfl rfl)
  obtain ⟨A0_10, k0_10, A0_12, k0_12, rfl, f0_10, f0_12⟩ := r0
  obtain ⟨A1, k1, x1, rfl, f1, g1⟩ := arg_slice Try.underlying24 opens_t24 (hval 1 24 v1 rfl rfl) h1 (weights_arg hsz 1 rfl rfl)
  obtain ⟨x2, rfl, g2⟩ := arg_int Try.underlying3 (hval 2 3 v2 rfl rfl) h2 (weights_arg hsz 2 rfl rfl)
  have hp : wirelesslaw33_SduQueues FF x0 x1 x2 = some true := (queues_law x0 x1 x2 (gch g0))
  exact shut (ok_wirelesslaw33_SduQueues FF (fun _ => False) W x0 x1 x2 A0_10 k0_10 A0_12 k0_12 A1 k1 (Ctx.start fun _ h => h.elim) f0_10 f0_12 f1 true hp) hW' rfl rfl rfl Try.underlying4 V.laidOut (by kernel_rfl)
theorem sduQueues_holds : Rows.SduQueuesSaid :=
  OpenClaim.holds_of_wide 6 Try.f6 rfl rfl rfl rfl rfl rfl rfl ⟨rfl, rfl, rfl, rfl, rfl⟩ rfl rfl rfl rfl rfl (by kernel_rfl) Try.func6 (by kernel_rfl)
    (of_decide_eq_true (by kernel_rfl)) (by unfold Func.isWrapper; first | (rw [if_pos (by decide +kernel)]; kernel_rfl) | (rw [if_neg (by decide +kernel)]; exact ⟨rfl, rfl⟩))
    (fun os started H enc _ => V.sduQueues_lifted os started H enc)
end Go.Proofs.Ytfdiabglpgkbeaa
