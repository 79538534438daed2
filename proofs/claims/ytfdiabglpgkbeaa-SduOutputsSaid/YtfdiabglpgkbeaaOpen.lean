/-
  Each argument type opened.
-/
import Derived.Test.YtfdiabglpgkbeaaBridge
namespace Go.Proofs.Ytfdiabglpgkbeaa
namespace V
open Go.ChangeShapes Go.WideShapes Go.ChangeAt Go.RowKit Go.Deep
theorem own : ownKnob Try.prog.godebug = none := by kernel_rfl
theorem laidOut : laidOutB Try.prog = true := by kernel_rfl
theorem opens_t24 : Opens Try.prog 24 1 (RSl 1 (RInt .u8)) (GAll (GInt .u8)) := opens_slice Try.underlying24 (by kernel_rfl) (by kernel_rfl) (opens_int Try.underlying5)
theorem opens_t23 : Opens Try.prog 23 1 (RSl 1 (RSl 1 (RInt .u8))) (GAll (GAll (GInt .u8))) := opens_slice Try.underlying23 (by kernel_rfl) (by kernel_rfl) opens_t24
instance : Inhabited T_api_Channel := ⟨⟨default, default, default, default, default, default, default, default, default, default, default, default, default, default, default⟩⟩
def G_T_api_Channel (c : T_api_Channel) : Prop := (GInt .u16) c.Local ∧ (GInt .u16) c.Remote ∧ (GInt .u16) c.PSM ∧ (GInt .i64) c.MTU ∧ (GInt .i64) c.MPS ∧ (GInt .i64) c.PeerMTU ∧ (GInt .i64) c.PeerMPS ∧ (GInt .i64) c.TxCredits ∧ (GInt .i64) c.RxCredits ∧ (GInt .i64) c.Given ∧ (GAll (GAll (GInt .u8))) c.Out ∧ (GInt .i64) c.Sent ∧ (GAll (GInt .u8)) c.In ∧ (GInt .i64) c.Want ∧ GTop c.Failed
theorem opens_t26 : Opens Try.prog 26 15 R_T_api_Channel G_T_api_Channel := fun {H enc w fuel cs x} h hw => by
  obtain ⟨hl, hf⟩ := struct_at Try.underlying26 h hw
  have hl : cs.length = 15 := hl.trans (by kernel_rfl)
  refine ⟨hl, ?_⟩
  obtain ⟨d0, r0, g0⟩ := struct_field (opens_int Try.underlying22) hf 0 0 1 rfl (by kernel_rfl)
  obtain ⟨d1, r1, g1⟩ := struct_field (opens_int Try.underlying22) hf 1 1 1 rfl (by kernel_rfl)
  obtain ⟨d2, r2, g2⟩ := struct_field (opens_int Try.underlying22) hf 2 2 1 rfl (by kernel_rfl)
  obtain ⟨d3, r3, g3⟩ := struct_field (opens_int Try.underlying3) hf 3 3 1 rfl (by kernel_rfl)
  obtain ⟨d4, r4, g4⟩ := struct_field (opens_int Try.underlying3) hf 4 4 1 rfl (by kernel_rfl)
  obtain ⟨d5, r5, g5⟩ := struct_field (opens_int Try.underlying3) hf 5 5 1 rfl (by kernel_rfl)
  obtain ⟨d6, r6, g6⟩ := struct_field (opens_int Try.underlying3) hf 6 6 1 rfl (by kernel_rfl)
  obtain ⟨d7, r7, g7⟩ := struct_field (opens_int Try.underlying3) hf 7 7 1 rfl (by kernel_rfl)
  obtain ⟨d8, r8, g8⟩ := struct_field (opens_int Try.underlying3) hf 8 8 1 rfl (by kernel_rfl)
  obtain ⟨d9, r9, g9⟩ := struct_field (opens_int Try.underlying3) hf 9 9 1 rfl (by kernel_rfl)
  obtain ⟨d10, r10, g10⟩ := struct_field opens_t23 hf 10 10 1 rfl (by kernel_rfl)
  obtain ⟨d11, r11, g11⟩ := struct_field (opens_int Try.underlying3) hf 11 11 1 rfl (by kernel_rfl)
  obtain ⟨d12, r12, g12⟩ := struct_field opens_t24 hf 12 12 1 rfl (by kernel_rfl)
  obtain ⟨d13, r13, g13⟩ := struct_field (opens_int Try.underlying3) hf 13 13 1 rfl (by kernel_rfl)
  obtain ⟨d14, r14, g14⟩ := struct_field (opens_bool Try.underlying4) hf 14 14 1 rfl (by kernel_rfl)
  match cs, hl with
  | [c0, c1, c2, c3, c4, c5, c6, c7, c8, c9, c10, c11, c12, c13, c14], _ =>
    have e0 : c0 = Value.int .u16 d0 := one1 (l := [c0]) (m := [Value.int .u16 d0]) 0 r0
    have e1 : c1 = Value.int .u16 d1 := one1 (l := [c1]) (m := [Value.int .u16 d1]) 0 r1
    have e2 : c2 = Value.int .u16 d2 := one1 (l := [c2]) (m := [Value.int .u16 d2]) 0 r2
    have e3 : c3 = Value.int .i64 d3 := one1 (l := [c3]) (m := [Value.int .i64 d3]) 0 r3
    have e4 : c4 = Value.int .i64 d4 := one1 (l := [c4]) (m := [Value.int .i64 d4]) 0 r4
    have e5 : c5 = Value.int .i64 d5 := one1 (l := [c5]) (m := [Value.int .i64 d5]) 0 r5
    have e6 : c6 = Value.int .i64 d6 := one1 (l := [c6]) (m := [Value.int .i64 d6]) 0 r6
    have e7 : c7 = Value.int .i64 d7 := one1 (l := [c7]) (m := [Value.int .i64 d7]) 0 r7
    have e8 : c8 = Value.int .i64 d8 := one1 (l := [c8]) (m := [Value.int .i64 d8]) 0 r8
    have e9 : c9 = Value.int .i64 d9 := one1 (l := [c9]) (m := [Value.int .i64 d9]) 0 r9
    obtain ⟨A10_0, k10_0, r10, f10_0⟩ := r10
    have e10 : c10 = Value.slice A10_0 (List.length d10) k10_0 := one1 (l := [c10]) (m := [Value.slice A10_0 (List.length d10) k10_0]) 0 r10
    have e11 : c11 = Value.int .i64 d11 := one1 (l := [c11]) (m := [Value.int .i64 d11]) 0 r11
    obtain ⟨A12_0, k12_0, r12, f12_0⟩ := r12
    have e12 : c12 = Value.slice A12_0 (List.length d12) k12_0 := one1 (l := [c12]) (m := [Value.slice A12_0 (List.length d12) k12_0]) 0 r12
    have e13 : c13 = Value.int .i64 d13 := one1 (l := [c13]) (m := [Value.int .i64 d13]) 0 r13
    have e14 : c14 = Value.bool d14 := one1 (l := [c14]) (m := [Value.bool d14]) 0 r14
    subst e0 e1 e2 e3 e4 e5 e6 e7 e8 e9 e10 e11 e12 e13 e14
    exact ⟨⟨d0, d1, d2, d3, d4, d5, d6, d7, d8, d9, d10, d11, d12, d13, d14⟩, ⟨A10_0, k10_0, A12_0, k12_0, rfl, f10_0, f12_0⟩, ⟨g0, g1, g2, g3, g4, g5, g6, g7, g8, g9, g10, g11, g12, g13, g14⟩⟩
end V
end Go.Proofs.Ytfdiabglpgkbeaa
