/-
  Each argument type opened.
-/
import Derived.Test.YtfdiabglpgkbeaaBridge
namespace Go.Proofs.Ytfdiabglpgkbeaa
namespace V
open Go.ChangeShapes Go.WideShapes Go.ChangeAt Go.RowKit Go.Deep
theorem own : ownKnob Try.prog.godebug = none := by kernel_rfl
theorem laidOut : laidOutB Try.prog = true := by kernel_rfl
theorem opens_t24 : Opens Try.prog 24 1 (RSl 1 R8) (GAll (GInt .u8)) := opens_slice Try.underlying24 (by kernel_rfl) (by kernel_rfl) (opens_int Try.underlying5)
instance : Inhabited T_wirelesslaw33_Step := ⟨⟨default, default, default⟩⟩
def G_T_wirelesslaw33_Step (c : T_wirelesslaw33_Step) : Prop := (GInt .u8) c.Kind ∧ (GAll (GInt .u8)) c.SDU ∧ (GInt .u8) c.N
theorem opens_t49 : Opens Try.prog 49 3 R_T_wirelesslaw33_Step G_T_wirelesslaw33_Step := fun {H enc w fuel cs x} h hw => by
  obtain ⟨hl, hf⟩ := struct_at Try.underlying49 h hw
  have hl : cs.length = 3 := hl.trans (by kernel_rfl)
  refine ⟨hl, ?_⟩
  obtain ⟨d0, r0, g0⟩ := struct_field (opens_int Try.underlying5) hf 0 0 1 rfl (by kernel_rfl)
  obtain ⟨d1, r1, g1⟩ := struct_field opens_t24 hf 1 1 1 rfl (by kernel_rfl)
  obtain ⟨d2, r2, g2⟩ := struct_field (opens_int Try.underlying5) hf 2 2 1 rfl (by kernel_rfl)
  obtain ⟨c0, c1, c2, rfl⟩ : ∃ c0 c1 c2, cs = [c0, c1, c2] := by
    clear h hw hf r0 g0 r1 g1 r2 g2
    match cs, hl with
    | [c0, c1, c2], _ => exact ⟨c0, c1, c2, rfl⟩
  have e0 : c0 = Value.int .u8 d0 := one1 (l := [c0]) (m := [Value.int .u8 d0]) 0 r0
  obtain ⟨A1_0, k1_0, r1, f1_0⟩ := r1
  have e1 : c1 = Value.slice A1_0 (List.length d1) k1_0 := one1 (l := [c1]) (m := [Value.slice A1_0 (List.length d1) k1_0]) 0 r1
  have e2 : c2 = Value.int .u8 d2 := one1 (l := [c2]) (m := [Value.int .u8 d2]) 0 r2
  subst e0 e1 e2
  exact ⟨⟨d0, d1, d2⟩, ⟨A1_0, k1_0, rfl, f1_0⟩, ⟨g0, g1, g2⟩⟩
theorem opens_t45 : Opens Try.prog 45 1 (RSl 3 R_T_wirelesslaw33_Step) (GAll G_T_wirelesslaw33_Step) := opens_slice Try.underlying45 (by kernel_rfl) (by kernel_rfl) opens_t49
instance : Inhabited T_wirelesslaw33_Way := ⟨⟨default, default, default, default⟩⟩
def G_T_wirelesslaw33_Way (c : T_wirelesslaw33_Way) : Prop := (GInt .i64) c.MTU ∧ (GInt .i64) c.MPS ∧ (GInt .i64) c.Credits ∧ (GAll G_T_wirelesslaw33_Step) c.Steps
theorem opens_t47 : Opens Try.prog 47 4 R_T_wirelesslaw33_Way G_T_wirelesslaw33_Way := fun {H enc w fuel cs x} h hw => by
  obtain ⟨hl, hf⟩ := struct_at Try.underlying47 h hw
  have hl : cs.length = 4 := hl.trans (by kernel_rfl)
  refine ⟨hl, ?_⟩
  obtain ⟨d0, r0, g0⟩ := struct_field (opens_int Try.underlying3) hf 0 0 1 rfl (by kernel_rfl)
  obtain ⟨d1, r1, g1⟩ := struct_field (opens_int Try.underlying3) hf 1 1 1 rfl (by kernel_rfl)
  obtain ⟨d2, r2, g2⟩ := struct_field (opens_int Try.underlying3) hf 2 2 1 rfl (by kernel_rfl)
  obtain ⟨d3, r3, g3⟩ := struct_field opens_t45 hf 3 3 1 rfl (by kernel_rfl)
  obtain ⟨c0, c1, c2, c3, rfl⟩ : ∃ c0 c1 c2 c3, cs = [c0, c1, c2, c3] := by
    clear h hw hf r0 g0 r1 g1 r2 g2 r3 g3
    match cs, hl with
    | [c0, c1, c2, c3], _ => exact ⟨c0, c1, c2, c3, rfl⟩
  have e0 : c0 = Value.int .i64 d0 := one1 (l := [c0]) (m := [Value.int .i64 d0]) 0 r0
  have e1 : c1 = Value.int .i64 d1 := one1 (l := [c1]) (m := [Value.int .i64 d1]) 0 r1
  have e2 : c2 = Value.int .i64 d2 := one1 (l := [c2]) (m := [Value.int .i64 d2]) 0 r2
  obtain ⟨A3_0, k3_0, r3, f3_0⟩ := r3
  have e3 : c3 = Value.slice A3_0 (List.length d3) k3_0 := one1 (l := [c3]) (m := [Value.slice A3_0 (List.length d3) k3_0]) 0 r3
  subst e0 e1 e2 e3
  exact ⟨⟨d0, d1, d2, d3⟩, ⟨A3_0, k3_0, rfl, f3_0⟩, ⟨g0, g1, g2, g3⟩⟩
end V
end Go.Proofs.Ytfdiabglpgkbeaa
