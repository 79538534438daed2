/-
  Each argument type opened.
-/
import Derived.Test.YtpcckohcoajenaaBridge
namespace Go.Proofs.Ytpcckohcoajenaa
namespace V
open Go.ChangeShapes Go.WideShapes Go.ChangeAt Go.RowKit Go.Deep
theorem own : ownKnob Try.prog.godebug = none := by kernel_rfl
theorem laidOut : laidOutB Try.prog = true := by kernel_rfl
theorem opens_t23 : Opens Try.prog 23 1 (RSl 1 R8) (GAll (GInt .u8)) := opens_slice Try.underlying23 (by kernel_rfl) (by kernel_rfl) (opens_int Try.underlying5)
instance : Inhabited T_api_Frame := ⟨⟨default, default⟩⟩
def G_T_api_Frame (c : T_api_Frame) : Prop := (GInt .u16) c.CID ∧ (GAll (GInt .u8)) c.Payload
theorem opens_t25 : Opens Try.prog 25 2 R_T_api_Frame G_T_api_Frame := fun {H enc w fuel cs x} h hw => by
  obtain ⟨hl, hf⟩ := struct_at Try.underlying25 h hw
  have hl : cs.length = 2 := hl.trans (by kernel_rfl)
  refine ⟨hl, ?_⟩
  obtain ⟨d0, r0, g0⟩ := struct_field (opens_int Try.underlying22) hf 0 0 1 rfl (by kernel_rfl)
  obtain ⟨d1, r1, g1⟩ := struct_field opens_t23 hf 1 1 1 rfl (by kernel_rfl)
  match cs, hl with
  | [c0, c1], _ =>
    have e0 : c0 = Value.int .u16 d0 := one1 (l := [c0]) (m := [Value.int .u16 d0]) 0 r0
    obtain ⟨A1_0, k1_0, r1, f1_0⟩ := r1
    have e1 : c1 = Value.slice A1_0 (List.length d1) k1_0 := one1 (l := [c1]) (m := [Value.slice A1_0 (List.length d1) k1_0]) 0 r1
    subst e0 e1
    exact ⟨⟨d0, d1⟩, ⟨A1_0, k1_0, rfl, f1_0⟩, ⟨g0, g1⟩⟩
instance : Inhabited T_api_Assembler := ⟨⟨default, default⟩⟩
def G_T_api_Assembler (c : T_api_Assembler) : Prop := GTop c.On ∧ (GAll (GInt .u8)) c.Buffer
theorem opens_t41 : Opens Try.prog 41 2 R_T_api_Assembler G_T_api_Assembler := fun {H enc w fuel cs x} h hw => by
  obtain ⟨hl, hf⟩ := struct_at Try.underlying41 h hw
  have hl : cs.length = 2 := hl.trans (by kernel_rfl)
  refine ⟨hl, ?_⟩
  obtain ⟨d0, r0, g0⟩ := struct_field (opens_bool Try.underlying4) hf 0 0 1 rfl (by kernel_rfl)
  obtain ⟨d1, r1, g1⟩ := struct_field opens_t23 hf 1 1 1 rfl (by kernel_rfl)
  match cs, hl with
  | [c0, c1], _ =>
    have e0 : c0 = Value.bool d0 := one1 (l := [c0]) (m := [Value.bool d0]) 0 r0
    obtain ⟨A1_0, k1_0, r1, f1_0⟩ := r1
    have e1 : c1 = Value.slice A1_0 (List.length d1) k1_0 := one1 (l := [c1]) (m := [Value.slice A1_0 (List.length d1) k1_0]) 0 r1
    subst e0 e1
    exact ⟨⟨d0, d1⟩, ⟨A1_0, k1_0, rfl, f1_0⟩, ⟨g0, g1⟩⟩
instance : Inhabited T_api_Packet := ⟨⟨default, default⟩⟩
def G_T_api_Packet (c : T_api_Packet) : Prop := (GInt .i64) c.LLID ∧ (GAll (GInt .u8)) c.Payload
theorem opens_t48 : Opens Try.prog 48 2 R_T_api_Packet G_T_api_Packet := fun {H enc w fuel cs x} h hw => by
  obtain ⟨hl, hf⟩ := struct_at Try.underlying48 h hw
  have hl : cs.length = 2 := hl.trans (by kernel_rfl)
  refine ⟨hl, ?_⟩
  obtain ⟨d0, r0, g0⟩ := struct_field (opens_int Try.underlying3) hf 0 0 1 rfl (by kernel_rfl)
  obtain ⟨d1, r1, g1⟩ := struct_field opens_t23 hf 1 1 1 rfl (by kernel_rfl)
  match cs, hl with
  | [c0, c1], _ =>
    have e0 : c0 = Value.int .i64 d0 := one1 (l := [c0]) (m := [Value.int .i64 d0]) 0 r0
    obtain ⟨A1_0, k1_0, r1, f1_0⟩ := r1
    have e1 : c1 = Value.slice A1_0 (List.length d1) k1_0 := one1 (l := [c1]) (m := [Value.slice A1_0 (List.length d1) k1_0]) 0 r1
    subst e0 e1
    exact ⟨⟨d0, d1⟩, ⟨A1_0, k1_0, rfl, f1_0⟩, ⟨g0, g1⟩⟩
theorem opens_t35 : Opens Try.prog 35 1 (RSl 2 R_T_api_Packet) (GAll G_T_api_Packet) := opens_slice Try.underlying35 (by kernel_rfl) (by kernel_rfl) opens_t48
theorem opens_t44 : Opens Try.prog 44 1 (RSl 2 R_T_api_Frame) (GAll G_T_api_Frame) := opens_slice Try.underlying44 (by kernel_rfl) (by kernel_rfl) opens_t25
end V
end Go.Proofs.Ytpcckohcoajenaa
