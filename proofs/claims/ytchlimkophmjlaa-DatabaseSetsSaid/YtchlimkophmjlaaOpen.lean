/-
  Each argument type opened.
-/
import Derived.Test.YtchlimkophmjlaaBridge
namespace Go.Proofs.Ytchlimkophmjlaa
namespace V
open Go.ChangeShapes Go.WideShapes Go.ChangeAt Go.RowKit Go.Deep
theorem own : ownKnob Try.prog.godebug = none := by kernel_rfl
theorem laidOut : laidOutB Try.prog = true := by kernel_rfl
instance : Inhabited T_api_UUID := ⟨⟨default, default⟩⟩
def G_T_api_UUID (c : T_api_UUID) : Prop := (GInt .u64) c.High ∧ (GInt .u64) c.Low
theorem opens_t36 : Opens Try.prog 36 2 R_T_api_UUID G_T_api_UUID := fun {H enc w fuel cs x} h hw => by
  obtain ⟨hl, hf⟩ := struct_at Try.underlying36 h hw
  have hl : cs.length = 2 := hl.trans (by kernel_rfl)
  refine ⟨hl, ?_⟩
  obtain ⟨d0, r0, g0⟩ := struct_field (opens_int Try.underlying34) hf 0 0 1 rfl (by kernel_rfl)
  obtain ⟨d1, r1, g1⟩ := struct_field (opens_int Try.underlying34) hf 1 1 1 rfl (by kernel_rfl)
  obtain ⟨c0, c1, rfl⟩ : ∃ c0 c1, cs = [c0, c1] := by
    clear h hw hf r0 g0 r1 g1
    match cs, hl with
    | [c0, c1], _ => exact ⟨c0, c1, rfl⟩
  have e0 : c0 = Value.int .u64 d0 := one1 (l := [c0]) (m := [Value.int .u64 d0]) 0 r0
  have e1 : c1 = Value.int .u64 d1 := one1 (l := [c1]) (m := [Value.int .u64 d1]) 0 r1
  subst e0 e1
  exact ⟨⟨d0, d1⟩, rfl, ⟨g0, g1⟩⟩
theorem opens_t37 : Opens Try.prog 37 1 (RSl 1 R8) (GAll (GInt .u8)) := opens_slice Try.underlying37 (by kernel_rfl) (by kernel_rfl) (opens_int Try.underlying5)
instance : Inhabited T_api_Attribute := ⟨⟨default, default, default, default⟩⟩
def G_T_api_Attribute (c : T_api_Attribute) : Prop := (GInt .u16) c.Handle ∧ G_T_api_UUID c.f_Type ∧ (GInt .i64) c.Perms ∧ (GAll (GInt .u8)) c.Value
theorem opens_t39 : Opens Try.prog 39 5 R_T_api_Attribute G_T_api_Attribute := fun {H enc w fuel cs x} h hw => by
  obtain ⟨hl, hf⟩ := struct_at Try.underlying39 h hw
  have hl : cs.length = 5 := hl.trans (by kernel_rfl)
  refine ⟨hl, ?_⟩
  obtain ⟨d0, r0, g0⟩ := struct_field (opens_int Try.underlying28) hf 0 0 1 rfl (by kernel_rfl)
  obtain ⟨d1, r1, g1⟩ := struct_field opens_t36 hf 1 1 2 rfl (by kernel_rfl)
  obtain ⟨d2, r2, g2⟩ := struct_field (opens_int Try.underlying3) hf 2 3 1 rfl (by kernel_rfl)
  obtain ⟨d3, r3, g3⟩ := struct_field opens_t37 hf 3 4 1 rfl (by kernel_rfl)
  obtain ⟨c0, c1, c2, c3, c4, rfl⟩ : ∃ c0 c1 c2 c3 c4, cs = [c0, c1, c2, c3, c4] := by
    clear h hw hf r0 g0 r1 g1 r2 g2 r3 g3
    match cs, hl with
    | [c0, c1, c2, c3, c4], _ => exact ⟨c0, c1, c2, c3, c4, rfl⟩
  have e0 : c0 = Value.int .u16 d0 := one1 (l := [c0]) (m := [Value.int .u16 d0]) 0 r0
  have e1 : c1 = Value.int .u64 d1.High := one1 (l := [c1, c2]) (m := [Value.int .u64 d1.High, Value.int .u64 d1.Low]) 0 r1
  have e2 : c2 = Value.int .u64 d1.Low := one1 (l := [c1, c2]) (m := [Value.int .u64 d1.High, Value.int .u64 d1.Low]) 1 r1
  have e3 : c3 = Value.int .i64 d2 := one1 (l := [c3]) (m := [Value.int .i64 d2]) 0 r2
  obtain ⟨A3_0, k3_0, r3, f3_0⟩ := r3
  have e4 : c4 = Value.slice A3_0 (List.length d3) k3_0 := one1 (l := [c4]) (m := [Value.slice A3_0 (List.length d3) k3_0]) 0 r3
  subst e0 e1 e2 e3 e4
  exact ⟨⟨d0, d1, d2, d3⟩, ⟨A3_0, k3_0, rfl, f3_0⟩, ⟨g0, g1, g2, g3⟩⟩
theorem opens_t22 : Opens Try.prog 22 1 (RSl 5 R_T_api_Attribute) (GAll G_T_api_Attribute) := opens_slice Try.underlying22 (by kernel_rfl) (by kernel_rfl) opens_t39
end V
end Go.Proofs.Ytchlimkophmjlaa
