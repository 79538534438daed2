/-
  Each argument type opened.
-/
import Derived.Test.YtphigebccfoppaaBridge
namespace Go.Proofs.Ytphigebccfoppaa
namespace V
open Go.ChangeShapes Go.WideShapes Go.ChangeAt Go.RowKit Go.Deep
theorem own : ownKnob Try.prog.godebug = none := by kernel_rfl
theorem laidOut : laidOutB Try.prog = true := by kernel_rfl
instance : Inhabited T_wirelesslaw51_Event := ⟨⟨default, default, default⟩⟩
def G_T_wirelesslaw51_Event (c : T_wirelesslaw51_Event) : Prop := GTop c.Keep ∧ GTop c.PollLost ∧ GTop c.AnswerLost
theorem opens_t55 : Opens Try.prog 55 3 R_T_wirelesslaw51_Event G_T_wirelesslaw51_Event := fun {H enc w fuel cs x} h hw => by
  obtain ⟨hl, hf⟩ := struct_at Try.underlying55 h hw
  have hl : cs.length = 3 := hl.trans (by kernel_rfl)
  refine ⟨hl, ?_⟩
  obtain ⟨d0, r0, g0⟩ := struct_field (opens_bool Try.underlying4) hf 0 0 1 rfl (by kernel_rfl)
  obtain ⟨d1, r1, g1⟩ := struct_field (opens_bool Try.underlying4) hf 1 1 1 rfl (by kernel_rfl)
  obtain ⟨d2, r2, g2⟩ := struct_field (opens_bool Try.underlying4) hf 2 2 1 rfl (by kernel_rfl)
  obtain ⟨c0, c1, c2, rfl⟩ : ∃ c0 c1 c2, cs = [c0, c1, c2] := by
    clear h hw hf r0 g0 r1 g1 r2 g2
    match cs, hl with
    | [c0, c1, c2], _ => exact ⟨c0, c1, c2, rfl⟩
  have e0 : c0 = Value.bool d0 := one1 (l := [c0]) (m := [Value.bool d0]) 0 r0
  have e1 : c1 = Value.bool d1 := one1 (l := [c1]) (m := [Value.bool d1]) 0 r1
  have e2 : c2 = Value.bool d2 := one1 (l := [c2]) (m := [Value.bool d2]) 0 r2
  subst e0 e1 e2
  exact ⟨⟨d0, d1, d2⟩, rfl, ⟨g0, g1, g2⟩⟩
theorem opens_t45 : Opens Try.prog 45 1 (RSl 3 R_T_wirelesslaw51_Event) (GAll G_T_wirelesslaw51_Event) := opens_slice Try.underlying45 (by kernel_rfl) (by kernel_rfl) opens_t55
end V
end Go.Proofs.Ytphigebccfoppaa
