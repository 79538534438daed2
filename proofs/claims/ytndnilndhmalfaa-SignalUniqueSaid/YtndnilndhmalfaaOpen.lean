/-
  Each argument type opened.
-/
import Derived.Test.YtndnilndhmalfaaBridge
namespace Go.Proofs.Ytndnilndhmalfaa
namespace V
open Go.ChangeShapes Go.WideShapes Go.ChangeAt Go.RowKit Go.Deep
theorem own : ownKnob Try.prog.godebug = none := by kernel_rfl
theorem laidOut : laidOutB Try.prog = true := by kernel_rfl
theorem opens_t31 : Opens Try.prog 31 1 (RSl 1 R8) (GAll (GInt .u8)) := opens_slice Try.underlying31 (by kernel_rfl) (by kernel_rfl) (opens_int Try.underlying5)
instance : Inhabited T_api_Update := ⟨⟨default, default, default, default, default⟩⟩
def G_T_api_Update (c : T_api_Update) : Prop := (GInt .i64) c.WinSize ∧ (GInt .i64) c.WinOffset ∧ (GInt .i64) c.Interval ∧ (GInt .i64) c.Latency ∧ (GInt .i64) c.Timeout
theorem opens_t24 : Opens Try.prog 24 5 R_T_api_Update G_T_api_Update := fun {H enc w fuel cs x} h hw => by
  obtain ⟨hl, hf⟩ := struct_at Try.underlying24 h hw
  have hl : cs.length = 5 := hl.trans (by kernel_rfl)
  refine ⟨hl, ?_⟩
  obtain ⟨d0, r0, g0⟩ := struct_field (opens_int Try.underlying3) hf 0 0 1 rfl (by kernel_rfl)
  obtain ⟨d1, r1, g1⟩ := struct_field (opens_int Try.underlying3) hf 1 1 1 rfl (by kernel_rfl)
  obtain ⟨d2, r2, g2⟩ := struct_field (opens_int Try.underlying3) hf 2 2 1 rfl (by kernel_rfl)
  obtain ⟨d3, r3, g3⟩ := struct_field (opens_int Try.underlying3) hf 3 3 1 rfl (by kernel_rfl)
  obtain ⟨d4, r4, g4⟩ := struct_field (opens_int Try.underlying3) hf 4 4 1 rfl (by kernel_rfl)
  match cs, hl with
  | [c0, c1, c2, c3, c4], _ =>
    have e0 : c0 = Value.int .i64 d0 := one1 (l := [c0]) (m := [Value.int .i64 d0]) 0 r0
    have e1 : c1 = Value.int .i64 d1 := one1 (l := [c1]) (m := [Value.int .i64 d1]) 0 r1
    have e2 : c2 = Value.int .i64 d2 := one1 (l := [c2]) (m := [Value.int .i64 d2]) 0 r2
    have e3 : c3 = Value.int .i64 d3 := one1 (l := [c3]) (m := [Value.int .i64 d3]) 0 r3
    have e4 : c4 = Value.int .i64 d4 := one1 (l := [c4]) (m := [Value.int .i64 d4]) 0 r4
    subst e0 e1 e2 e3 e4
    exact ⟨⟨d0, d1, d2, d3, d4⟩, rfl, ⟨g0, g1, g2, g3, g4⟩⟩
instance : Inhabited T_api_Signal := ⟨⟨default, default, default, default, default, default, default, default, default, default⟩⟩
def G_T_api_Signal (c : T_api_Signal) : Prop := (GInt .i64) c.Kind ∧ (GInt .i64) c.ID ∧ (GInt .u16) c.PSM ∧ (GInt .u16) c.Source ∧ (GInt .u16) c.Dest ∧ (GInt .i64) c.MTU ∧ (GInt .i64) c.MPS ∧ (GInt .i64) c.Credits ∧ (GInt .i64) c.Result ∧ G_T_api_Update c.Update
theorem opens_t26 : Opens Try.prog 26 14 R_T_api_Signal G_T_api_Signal := fun {H enc w fuel cs x} h hw => by
  obtain ⟨hl, hf⟩ := struct_at Try.underlying26 h hw
  have hl : cs.length = 14 := hl.trans (by kernel_rfl)
  refine ⟨hl, ?_⟩
  obtain ⟨d0, r0, g0⟩ := struct_field (opens_int Try.underlying3) hf 0 0 1 rfl (by kernel_rfl)
  obtain ⟨d1, r1, g1⟩ := struct_field (opens_int Try.underlying3) hf 1 1 1 rfl (by kernel_rfl)
  obtain ⟨d2, r2, g2⟩ := struct_field (opens_int Try.underlying22) hf 2 2 1 rfl (by kernel_rfl)
  obtain ⟨d3, r3, g3⟩ := struct_field (opens_int Try.underlying22) hf 3 3 1 rfl (by kernel_rfl)
  obtain ⟨d4, r4, g4⟩ := struct_field (opens_int Try.underlying22) hf 4 4 1 rfl (by kernel_rfl)
  obtain ⟨d5, r5, g5⟩ := struct_field (opens_int Try.underlying3) hf 5 5 1 rfl (by kernel_rfl)
  obtain ⟨d6, r6, g6⟩ := struct_field (opens_int Try.underlying3) hf 6 6 1 rfl (by kernel_rfl)
  obtain ⟨d7, r7, g7⟩ := struct_field (opens_int Try.underlying3) hf 7 7 1 rfl (by kernel_rfl)
  obtain ⟨d8, r8, g8⟩ := struct_field (opens_int Try.underlying3) hf 8 8 1 rfl (by kernel_rfl)
  obtain ⟨d9, r9, g9⟩ := struct_field opens_t24 hf 9 9 5 rfl (by kernel_rfl)
  match cs, hl with
  | [c0, c1, c2, c3, c4, c5, c6, c7, c8, c9, c10, c11, c12, c13], _ =>
    have e0 : c0 = Value.int .i64 d0 := one1 (l := [c0]) (m := [Value.int .i64 d0]) 0 r0
    have e1 : c1 = Value.int .i64 d1 := one1 (l := [c1]) (m := [Value.int .i64 d1]) 0 r1
    have e2 : c2 = Value.int .u16 d2 := one1 (l := [c2]) (m := [Value.int .u16 d2]) 0 r2
    have e3 : c3 = Value.int .u16 d3 := one1 (l := [c3]) (m := [Value.int .u16 d3]) 0 r3
    have e4 : c4 = Value.int .u16 d4 := one1 (l := [c4]) (m := [Value.int .u16 d4]) 0 r4
    have e5 : c5 = Value.int .i64 d5 := one1 (l := [c5]) (m := [Value.int .i64 d5]) 0 r5
    have e6 : c6 = Value.int .i64 d6 := one1 (l := [c6]) (m := [Value.int .i64 d6]) 0 r6
    have e7 : c7 = Value.int .i64 d7 := one1 (l := [c7]) (m := [Value.int .i64 d7]) 0 r7
    have e8 : c8 = Value.int .i64 d8 := one1 (l := [c8]) (m := [Value.int .i64 d8]) 0 r8
    have e9 : c9 = Value.int .i64 d9.WinSize := one1 (l := [c9, c10, c11, c12, c13]) (m := [Value.int .i64 d9.WinSize, Value.int .i64 d9.WinOffset, Value.int .i64 d9.Interval, Value.int .i64 d9.Latency, Value.int .i64 d9.Timeout]) 0 r9
    have e10 : c10 = Value.int .i64 d9.WinOffset := one1 (l := [c9, c10, c11, c12, c13]) (m := [Value.int .i64 d9.WinSize, Value.int .i64 d9.WinOffset, Value.int .i64 d9.Interval, Value.int .i64 d9.Latency, Value.int .i64 d9.Timeout]) 1 r9
    have e11 : c11 = Value.int .i64 d9.Interval := one1 (l := [c9, c10, c11, c12, c13]) (m := [Value.int .i64 d9.WinSize, Value.int .i64 d9.WinOffset, Value.int .i64 d9.Interval, Value.int .i64 d9.Latency, Value.int .i64 d9.Timeout]) 2 r9
    have e12 : c12 = Value.int .i64 d9.Latency := one1 (l := [c9, c10, c11, c12, c13]) (m := [Value.int .i64 d9.WinSize, Value.int .i64 d9.WinOffset, Value.int .i64 d9.Interval, Value.int .i64 d9.Latency, Value.int .i64 d9.Timeout]) 3 r9
    have e13 : c13 = Value.int .i64 d9.Timeout := one1 (l := [c9, c10, c11, c12, c13]) (m := [Value.int .i64 d9.WinSize, Value.int .i64 d9.WinOffset, Value.int .i64 d9.Interval, Value.int .i64 d9.Latency, Value.int .i64 d9.Timeout]) 4 r9
    subst e0 e1 e2 e3 e4 e5 e6 e7 e8 e9 e10 e11 e12 e13
    exact ⟨⟨d0, d1, d2, d3, d4, d5, d6, d7, d8, d9⟩, rfl, ⟨g0, g1, g2, g3, g4, g5, g6, g7, g8, g9⟩⟩
end V
end Go.Proofs.Ytndnilndhmalfaa
