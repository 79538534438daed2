/-
  Each argument type opened.
-/
import Derived.Test.YtojcklkcjnnkaaaDoorArrO
namespace Go.Proofs.YtojcklkcjnnkaaaDoor
namespace V
open Go.ChangeShapes Go.WideShapes Go.ChangeAt Go.RowKit Go.Deep
theorem own : ownKnob Tryd.prog.godebug = none := by kernel_rfl
theorem laidOut : laidOutB Tryd.prog = true := by kernel_rfl
theorem opens_t22 : Opens Tryd.prog 22 1 (RSl 1 R8) (GAll (GInt .u8)) := opens_slice Tryd.underlying22 (by kernel_rfl) (by kernel_rfl) (opens_int Tryd.underlying5)
instance : Inhabited T_wirelesslaw39_Step := ⟨⟨default, default, default⟩⟩
def G_T_wirelesslaw39_Step (c : T_wirelesslaw39_Step) : Prop := (GInt .u16) c.Key ∧ (GAll (GInt .u8)) c.Value ∧ (GInt .i64) c.Cut
theorem opens_t57 : Opens Tryd.prog 57 3 R_T_wirelesslaw39_Step G_T_wirelesslaw39_Step := fun {H enc w fuel cs x} h hw => by
  obtain ⟨hl, hf⟩ := struct_at Tryd.underlying57 h hw
  have hl : cs.length = 3 := hl.trans (by kernel_rfl)
  refine ⟨hl, ?_⟩
  obtain ⟨d0, r0, g0⟩ := struct_field (opens_int Tryd.underlying37) hf 0 0 1 rfl (by kernel_rfl)
  obtain ⟨d1, r1, g1⟩ := struct_field opens_t22 hf 1 1 1 rfl (by kernel_rfl)
  obtain ⟨d2, r2, g2⟩ := struct_field (opens_int Tryd.underlying3) hf 2 2 1 rfl (by kernel_rfl)
  obtain ⟨c0, c1, c2, rfl⟩ : ∃ c0 c1 c2, cs = [c0, c1, c2] := by
    clear h hw hf r0 g0 r1 g1 r2 g2
    match cs, hl with
    | [c0, c1, c2], _ => exact ⟨c0, c1, c2, rfl⟩
  have e0 : c0 = Value.int .u16 d0 := one1 (l := [c0]) (m := [Value.int .u16 d0]) 0 r0
  obtain ⟨A1_0, k1_0, r1, f1_0⟩ := r1
  have e1 : c1 = Value.slice A1_0 (List.length d1) k1_0 := one1 (l := [c1]) (m := [Value.slice A1_0 (List.length d1) k1_0]) 0 r1
  have e2 : c2 = Value.int .i64 d2 := one1 (l := [c2]) (m := [Value.int .i64 d2]) 0 r2
  subst e0 e1 e2
  exact ⟨⟨d0, d1, d2⟩, ⟨A1_0, k1_0, rfl, f1_0⟩, ⟨g0, g1, g2⟩⟩
theorem opens_t54 : Opens Tryd.prog 54 1 (RSl 3 R_T_wirelesslaw39_Step) (GAll G_T_wirelesslaw39_Step) := opens_slice Tryd.underlying54 (by kernel_rfl) (by kernel_rfl) opens_t57
end V
end Go.Proofs.YtojcklkcjnnkaaaDoor
