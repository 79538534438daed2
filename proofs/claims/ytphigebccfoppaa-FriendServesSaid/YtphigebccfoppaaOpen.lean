/-
  Each argument type opened.
-/
import Derived.Test.YtphigebccfoppaaBridge
namespace Go.Proofs.Ytphigebccfoppaa
namespace V
open Go.ChangeShapes Go.WideShapes Go.ChangeAt Go.RowKit Go.Deep
theorem own : ownKnob Try.prog.godebug = none := by kernel_rfl
theorem laidOut : laidOutB Try.prog = true := by kernel_rfl
theorem opens_t32 : Opens Try.prog 32 1 (RSl 1 R8) (GAll (GInt .u8)) := opens_slice Try.underlying32 (by kernel_rfl) (by kernel_rfl) (opens_int Try.underlying5)
instance : Inhabited T_api_NetPDU := ⟨⟨default, default, default, default, default, default, default, default⟩⟩
def G_T_api_NetPDU (c : T_api_NetPDU) : Prop := (GInt .u32) c.IV ∧ (GInt .i64) c.NID ∧ GTop c.Control ∧ (GInt .i64) c.TTL ∧ (GInt .u32) c.Seq ∧ (GInt .u16) c.Src ∧ (GInt .u16) c.Dst ∧ (GAll (GInt .u8)) c.Payload
theorem opens_t34 : Opens Try.prog 34 8 R_T_api_NetPDU G_T_api_NetPDU := fun {H enc w fuel cs x} h hw => by
  obtain ⟨hl, hf⟩ := struct_at Try.underlying34 h hw
  have hl : cs.length = 8 := hl.trans (by kernel_rfl)
  refine ⟨hl, ?_⟩
  obtain ⟨d0, r0, g0⟩ := struct_field (opens_int Try.underlying31) hf 0 0 1 rfl (by kernel_rfl)
  obtain ⟨d1, r1, g1⟩ := struct_field (opens_int Try.underlying3) hf 1 1 1 rfl (by kernel_rfl)
  obtain ⟨d2, r2, g2⟩ := struct_field (opens_bool Try.underlying4) hf 2 2 1 rfl (by kernel_rfl)
  obtain ⟨d3, r3, g3⟩ := struct_field (opens_int Try.underlying3) hf 3 3 1 rfl (by kernel_rfl)
  obtain ⟨d4, r4, g4⟩ := struct_field (opens_int Try.underlying31) hf 4 4 1 rfl (by kernel_rfl)
  obtain ⟨d5, r5, g5⟩ := struct_field (opens_int Try.underlying24) hf 5 5 1 rfl (by kernel_rfl)
  obtain ⟨d6, r6, g6⟩ := struct_field (opens_int Try.underlying24) hf 6 6 1 rfl (by kernel_rfl)
  obtain ⟨d7, r7, g7⟩ := struct_field opens_t32 hf 7 7 1 rfl (by kernel_rfl)
  obtain ⟨c0, c1, c2, c3, c4, c5, c6, c7, rfl⟩ : ∃ c0 c1 c2 c3 c4 c5 c6 c7, cs = [c0, c1, c2, c3, c4, c5, c6, c7] := by
    clear h hw hf r0 g0 r1 g1 r2 g2 r3 g3 r4 g4 r5 g5 r6 g6 r7 g7
    match cs, hl with
    | [c0, c1, c2, c3, c4, c5, c6, c7], _ => exact ⟨c0, c1, c2, c3, c4, c5, c6, c7, rfl⟩
  have e0 : c0 = Value.int .u32 d0 := one1 (l := [c0]) (m := [Value.int .u32 d0]) 0 r0
  have e1 : c1 = Value.int .i64 d1 := one1 (l := [c1]) (m := [Value.int .i64 d1]) 0 r1
  have e2 : c2 = Value.bool d2 := one1 (l := [c2]) (m := [Value.bool d2]) 0 r2
  have e3 : c3 = Value.int .i64 d3 := one1 (l := [c3]) (m := [Value.int .i64 d3]) 0 r3
  have e4 : c4 = Value.int .u32 d4 := one1 (l := [c4]) (m := [Value.int .u32 d4]) 0 r4
  have e5 : c5 = Value.int .u16 d5 := one1 (l := [c5]) (m := [Value.int .u16 d5]) 0 r5
  have e6 : c6 = Value.int .u16 d6 := one1 (l := [c6]) (m := [Value.int .u16 d6]) 0 r6
  obtain ⟨A7_0, k7_0, r7, f7_0⟩ := r7
  have e7 : c7 = Value.slice A7_0 (List.length d7) k7_0 := one1 (l := [c7]) (m := [Value.slice A7_0 (List.length d7) k7_0]) 0 r7
  subst e0 e1 e2 e3 e4 e5 e6 e7
  exact ⟨⟨d0, d1, d2, d3, d4, d5, d6, d7⟩, ⟨A7_0, k7_0, rfl, f7_0⟩, ⟨g0, g1, g2, g3, g4, g5, g6, g7⟩⟩
instance : Inhabited T_api_Lower := ⟨⟨default, default, default, default, default, default, default, default, default, default⟩⟩
def G_T_api_Lower (c : T_api_Lower) : Prop := GTop c.Control ∧ GTop c.Segmented ∧ GTop c.App ∧ (GInt .i64) c.Zero ∧ (GInt .i64) c.Index ∧ (GInt .i64) c.Last ∧ (GInt .i64) c.Opcode ∧ (GInt .u32) c.Block ∧ GTop c.Friend ∧ (GAll (GInt .u8)) c.Bytes
theorem opens_t36 : Opens Try.prog 36 10 R_T_api_Lower G_T_api_Lower := fun {H enc w fuel cs x} h hw => by
  obtain ⟨hl, hf⟩ := struct_at Try.underlying36 h hw
  have hl : cs.length = 10 := hl.trans (by kernel_rfl)
  refine ⟨hl, ?_⟩
  obtain ⟨d0, r0, g0⟩ := struct_field (opens_bool Try.underlying4) hf 0 0 1 rfl (by kernel_rfl)
  obtain ⟨d1, r1, g1⟩ := struct_field (opens_bool Try.underlying4) hf 1 1 1 rfl (by kernel_rfl)
  obtain ⟨d2, r2, g2⟩ := struct_field (opens_bool Try.underlying4) hf 2 2 1 rfl (by kernel_rfl)
  obtain ⟨d3, r3, g3⟩ := struct_field (opens_int Try.underlying3) hf 3 3 1 rfl (by kernel_rfl)
  obtain ⟨d4, r4, g4⟩ := struct_field (opens_int Try.underlying3) hf 4 4 1 rfl (by kernel_rfl)
  obtain ⟨d5, r5, g5⟩ := struct_field (opens_int Try.underlying3) hf 5 5 1 rfl (by kernel_rfl)
  obtain ⟨d6, r6, g6⟩ := struct_field (opens_int Try.underlying3) hf 6 6 1 rfl (by kernel_rfl)
  obtain ⟨d7, r7, g7⟩ := struct_field (opens_int Try.underlying31) hf 7 7 1 rfl (by kernel_rfl)
  obtain ⟨d8, r8, g8⟩ := struct_field (opens_bool Try.underlying4) hf 8 8 1 rfl (by kernel_rfl)
  obtain ⟨d9, r9, g9⟩ := struct_field opens_t32 hf 9 9 1 rfl (by kernel_rfl)
  obtain ⟨c0, c1, c2, c3, c4, c5, c6, c7, c8, c9, rfl⟩ : ∃ c0 c1 c2 c3 c4 c5 c6 c7 c8 c9, cs = [c0, c1, c2, c3, c4, c5, c6, c7, c8, c9] := by
    clear h hw hf r0 g0 r1 g1 r2 g2 r3 g3 r4 g4 r5 g5 r6 g6 r7 g7 r8 g8 r9 g9
    match cs, hl with
    | [c0, c1, c2, c3, c4, c5, c6, c7, c8, c9], _ => exact ⟨c0, c1, c2, c3, c4, c5, c6, c7, c8, c9, rfl⟩
  have e0 : c0 = Value.bool d0 := one1 (l := [c0]) (m := [Value.bool d0]) 0 r0
  have e1 : c1 = Value.bool d1 := one1 (l := [c1]) (m := [Value.bool d1]) 0 r1
  have e2 : c2 = Value.bool d2 := one1 (l := [c2]) (m := [Value.bool d2]) 0 r2
  have e3 : c3 = Value.int .i64 d3 := one1 (l := [c3]) (m := [Value.int .i64 d3]) 0 r3
  have e4 : c4 = Value.int .i64 d4 := one1 (l := [c4]) (m := [Value.int .i64 d4]) 0 r4
  have e5 : c5 = Value.int .i64 d5 := one1 (l := [c5]) (m := [Value.int .i64 d5]) 0 r5
  have e6 : c6 = Value.int .i64 d6 := one1 (l := [c6]) (m := [Value.int .i64 d6]) 0 r6
  have e7 : c7 = Value.int .u32 d7 := one1 (l := [c7]) (m := [Value.int .u32 d7]) 0 r7
  have e8 : c8 = Value.bool d8 := one1 (l := [c8]) (m := [Value.bool d8]) 0 r8
  obtain ⟨A9_0, k9_0, r9, f9_0⟩ := r9
  have e9 : c9 = Value.slice A9_0 (List.length d9) k9_0 := one1 (l := [c9]) (m := [Value.slice A9_0 (List.length d9) k9_0]) 0 r9
  subst e0 e1 e2 e3 e4 e5 e6 e7 e8 e9
  exact ⟨⟨d0, d1, d2, d3, d4, d5, d6, d7, d8, d9⟩, ⟨A9_0, k9_0, rfl, f9_0⟩, ⟨g0, g1, g2, g3, g4, g5, g6, g7, g8, g9⟩⟩
instance : Inhabited T_api_Queued := ⟨⟨default, default⟩⟩
def G_T_api_Queued (c : T_api_Queued) : Prop := G_T_api_NetPDU c.PDU ∧ G_T_api_Lower c.Lower
theorem opens_t38 : Opens Try.prog 38 18 R_T_api_Queued G_T_api_Queued := fun {H enc w fuel cs x} h hw => by
  obtain ⟨hl, hf⟩ := struct_at Try.underlying38 h hw
  have hl : cs.length = 18 := hl.trans (by kernel_rfl)
  refine ⟨hl, ?_⟩
  obtain ⟨d0, r0, g0⟩ := struct_field opens_t34 hf 0 0 8 rfl (by kernel_rfl)
  obtain ⟨d1, r1, g1⟩ := struct_field opens_t36 hf 1 8 10 rfl (by kernel_rfl)
  obtain ⟨c0, c1, c2, c3, c4, c5, c6, c7, c8, c9, c10, c11, c12, c13, c14, c15, c16, c17, rfl⟩ : ∃ c0 c1 c2 c3 c4 c5 c6 c7 c8 c9 c10 c11 c12 c13 c14 c15 c16 c17, cs = [c0, c1, c2, c3, c4, c5, c6, c7, c8, c9, c10, c11, c12, c13, c14, c15, c16, c17] := by
    clear h hw hf r0 g0 r1 g1
    match cs, hl with
    | [c0, c1, c2, c3, c4, c5, c6, c7, c8, c9, c10, c11, c12, c13, c14, c15, c16, c17], _ => exact ⟨c0, c1, c2, c3, c4, c5, c6, c7, c8, c9, c10, c11, c12, c13, c14, c15, c16, c17, rfl⟩
  obtain ⟨A0_7, k0_7, r0, f0_7⟩ := r0
  have e0 : c0 = Value.int .u32 d0.IV := one1 (l := [c0, c1, c2, c3, c4, c5, c6, c7]) (m := [Value.int .u32 d0.IV, Value.int .i64 d0.NID, Value.bool d0.Control, Value.int .i64 d0.TTL, Value.int .u32 d0.Seq, Value.int .u16 d0.Src, Value.int .u16 d0.Dst, Value.slice A0_7 (List.length d0.Payload) k0_7]) 0 r0
  have e1 : c1 = Value.int .i64 d0.NID := one1 (l := [c0, c1, c2, c3, c4, c5, c6, c7]) (m := [Value.int .u32 d0.IV, Value.int .i64 d0.NID, Value.bool d0.Control, Value.int .i64 d0.TTL, Value.int .u32 d0.Seq, Value.int .u16 d0.Src, Value.int .u16 d0.Dst, Value.slice A0_7 (List.length d0.Payload) k0_7]) 1 r0
  have e2 : c2 = Value.bool d0.Control := one1 (l := [c0, c1, c2, c3, c4, c5, c6, c7]) (m := [Value.int .u32 d0.IV, Value.int .i64 d0.NID, Value.bool d0.Control, Value.int .i64 d0.TTL, Value.int .u32 d0.Seq, Value.int .u16 d0.Src, Value.int .u16 d0.Dst, Value.slice A0_7 (List.length d0.Payload) k0_7]) 2 r0
  have e3 : c3 = Value.int .i64 d0.TTL := one1 (l := [c0, c1, c2, c3, c4, c5, c6, c7]) (m := [Value.int .u32 d0.IV, Value.int .i64 d0.NID, Value.bool d0.Control, Value.int .i64 d0.TTL, Value.int .u32 d0.Seq, Value.int .u16 d0.Src, Value.int .u16 d0.Dst, Value.slice A0_7 (List.length d0.Payload) k0_7]) 3 r0
  have e4 : c4 = Value.int .u32 d0.Seq := one1 (l := [c0, c1, c2, c3, c4, c5, c6, c7]) (m := [Value.int .u32 d0.IV, Value.int .i64 d0.NID, Value.bool d0.Control, Value.int .i64 d0.TTL, Value.int .u32 d0.Seq, Value.int .u16 d0.Src, Value.int .u16 d0.Dst, Value.slice A0_7 (List.length d0.Payload) k0_7]) 4 r0
  have e5 : c5 = Value.int .u16 d0.Src := one1 (l := [c0, c1, c2, c3, c4, c5, c6, c7]) (m := [Value.int .u32 d0.IV, Value.int .i64 d0.NID, Value.bool d0.Control, Value.int .i64 d0.TTL, Value.int .u32 d0.Seq, Value.int .u16 d0.Src, Value.int .u16 d0.Dst, Value.slice A0_7 (List.length d0.Payload) k0_7]) 5 r0
  have e6 : c6 = Value.int .u16 d0.Dst := one1 (l := [c0, c1, c2, c3, c4, c5, c6, c7]) (m := [Value.int .u32 d0.IV, Value.int .i64 d0.NID, Value.bool d0.Control, Value.int .i64 d0.TTL, Value.int .u32 d0.Seq, Value.int .u16 d0.Src, Value.int .u16 d0.Dst, Value.slice A0_7 (List.length d0.Payload) k0_7]) 6 r0
  have e7 : c7 = Value.slice A0_7 (List.length d0.Payload) k0_7 := one1 (l := [c0, c1, c2, c3, c4, c5, c6, c7]) (m := [Value.int .u32 d0.IV, Value.int .i64 d0.NID, Value.bool d0.Control, Value.int .i64 d0.TTL, Value.int .u32 d0.Seq, Value.int .u16 d0.Src, Value.int .u16 d0.Dst, Value.slice A0_7 (List.length d0.Payload) k0_7]) 7 r0
  obtain ⟨A1_9, k1_9, r1, f1_9⟩ := r1
  have e8 : c8 = Value.bool d1.Control := one1 (l := [c8, c9, c10, c11, c12, c13, c14, c15, c16, c17]) (m := [Value.bool d1.Control, Value.bool d1.Segmented, Value.bool d1.App, Value.int .i64 d1.Zero, Value.int .i64 d1.Index, Value.int .i64 d1.Last, Value.int .i64 d1.Opcode, Value.int .u32 d1.Block, Value.bool d1.Friend, Value.slice A1_9 (List.length d1.Bytes) k1_9]) 0 r1
  have e9 : c9 = Value.bool d1.Segmented := one1 (l := [c8, c9, c10, c11, c12, c13, c14, c15, c16, c17]) (m := [Value.bool d1.Control, Value.bool d1.Segmented, Value.bool d1.App, Value.int .i64 d1.Zero, Value.int .i64 d1.Index, Value.int .i64 d1.Last, Value.int .i64 d1.Opcode, Value.int .u32 d1.Block, Value.bool d1.Friend, Value.slice A1_9 (List.length d1.Bytes) k1_9]) 1 r1
  have e10 : c10 = Value.bool d1.App := one1 (l := [c8, c9, c10, c11, c12, c13, c14, c15, c16, c17]) (m := [Value.bool d1.Control, Value.bool d1.Segmented, Value.bool d1.App, Value.int .i64 d1.Zero, Value.int .i64 d1.Index, Value.int .i64 d1.Last, Value.int .i64 d1.Opcode, Value.int .u32 d1.Block, Value.bool d1.Friend, Value.slice A1_9 (List.length d1.Bytes) k1_9]) 2 r1
  have e11 : c11 = Value.int .i64 d1.Zero := one1 (l := [c8, c9, c10, c11, c12, c13, c14, c15, c16, c17]) (m := [Value.bool d1.Control, Value.bool d1.Segmented, Value.bool d1.App, Value.int .i64 d1.Zero, Value.int .i64 d1.Index, Value.int .i64 d1.Last, Value.int .i64 d1.Opcode, Value.int .u32 d1.Block, Value.bool d1.Friend, Value.slice A1_9 (List.length d1.Bytes) k1_9]) 3 r1
  have e12 : c12 = Value.int .i64 d1.Index := one1 (l := [c8, c9, c10, c11, c12, c13, c14, c15, c16, c17]) (m := [Value.bool d1.Control, Value.bool d1.Segmented, Value.bool d1.App, Value.int .i64 d1.Zero, Value.int .i64 d1.Index, Value.int .i64 d1.Last, Value.int .i64 d1.Opcode, Value.int .u32 d1.Block, Value.bool d1.Friend, Value.slice A1_9 (List.length d1.Bytes) k1_9]) 4 r1
  have e13 : c13 = Value.int .i64 d1.Last := one1 (l := [c8, c9, c10, c11, c12, c13, c14, c15, c16, c17]) (m := [Value.bool d1.Control, Value.bool d1.Segmented, Value.bool d1.App, Value.int .i64 d1.Zero, Value.int .i64 d1.Index, Value.int .i64 d1.Last, Value.int .i64 d1.Opcode, Value.int .u32 d1.Block, Value.bool d1.Friend, Value.slice A1_9 (List.length d1.Bytes) k1_9]) 5 r1
  have e14 : c14 = Value.int .i64 d1.Opcode := one1 (l := [c8, c9, c10, c11, c12, c13, c14, c15, c16, c17]) (m := [Value.bool d1.Control, Value.bool d1.Segmented, Value.bool d1.App, Value.int .i64 d1.Zero, Value.int .i64 d1.Index, Value.int .i64 d1.Last, Value.int .i64 d1.Opcode, Value.int .u32 d1.Block, Value.bool d1.Friend, Value.slice A1_9 (List.length d1.Bytes) k1_9]) 6 r1
  have e15 : c15 = Value.int .u32 d1.Block := one1 (l := [c8, c9, c10, c11, c12, c13, c14, c15, c16, c17]) (m := [Value.bool d1.Control, Value.bool d1.Segmented, Value.bool d1.App, Value.int .i64 d1.Zero, Value.int .i64 d1.Index, Value.int .i64 d1.Last, Value.int .i64 d1.Opcode, Value.int .u32 d1.Block, Value.bool d1.Friend, Value.slice A1_9 (List.length d1.Bytes) k1_9]) 7 r1
  have e16 : c16 = Value.bool d1.Friend := one1 (l := [c8, c9, c10, c11, c12, c13, c14, c15, c16, c17]) (m := [Value.bool d1.Control, Value.bool d1.Segmented, Value.bool d1.App, Value.int .i64 d1.Zero, Value.int .i64 d1.Index, Value.int .i64 d1.Last, Value.int .i64 d1.Opcode, Value.int .u32 d1.Block, Value.bool d1.Friend, Value.slice A1_9 (List.length d1.Bytes) k1_9]) 8 r1
  have e17 : c17 = Value.slice A1_9 (List.length d1.Bytes) k1_9 := one1 (l := [c8, c9, c10, c11, c12, c13, c14, c15, c16, c17]) (m := [Value.bool d1.Control, Value.bool d1.Segmented, Value.bool d1.App, Value.int .i64 d1.Zero, Value.int .i64 d1.Index, Value.int .i64 d1.Last, Value.int .i64 d1.Opcode, Value.int .u32 d1.Block, Value.bool d1.Friend, Value.slice A1_9 (List.length d1.Bytes) k1_9]) 9 r1
  subst e0 e1 e2 e3 e4 e5 e6 e7 e8 e9 e10 e11 e12 e13 e14 e15 e16 e17
  exact ⟨⟨d0, d1⟩, ⟨A0_7, k0_7, A1_9, k1_9, rfl, f0_7, f1_9⟩, ⟨g0, g1⟩⟩
theorem opens_t26 : Opens Try.prog 26 1 (RSl 1 (RInt .u16)) (GAll (GInt .u16)) := opens_slice Try.underlying26 (by kernel_rfl) (by kernel_rfl) (opens_int Try.underlying24)
instance : Inhabited T_wirelesslaw51_Op := ⟨⟨default, default, default, default, default, default, default, default⟩⟩
def G_T_wirelesslaw51_Op (c : T_wirelesslaw51_Op) : Prop := (GInt .i64) c.Kind ∧ (GInt .u16) c.Address ∧ (GInt .i64) c.Number ∧ (GInt .u16) c.Group ∧ GTop c.More ∧ G_T_api_Queued c.Q ∧ (GAll (GInt .u16)) c.Subs ∧ (GInt .i64) c.Now
theorem opens_t40 : Opens Try.prog 40 25 R_T_wirelesslaw51_Op G_T_wirelesslaw51_Op := fun {H enc w fuel cs x} h hw => by
  obtain ⟨hl, hf⟩ := struct_at Try.underlying40 h hw
  have hl : cs.length = 25 := hl.trans (by kernel_rfl)
  refine ⟨hl, ?_⟩
  obtain ⟨d0, r0, g0⟩ := struct_field (opens_int Try.underlying3) hf 0 0 1 rfl (by kernel_rfl)
  obtain ⟨d1, r1, g1⟩ := struct_field (opens_int Try.underlying24) hf 1 1 1 rfl (by kernel_rfl)
  obtain ⟨d2, r2, g2⟩ := struct_field (opens_int Try.underlying3) hf 2 2 1 rfl (by kernel_rfl)
  obtain ⟨d3, r3, g3⟩ := struct_field (opens_int Try.underlying24) hf 3 3 1 rfl (by kernel_rfl)
  obtain ⟨d4, r4, g4⟩ := struct_field (opens_bool Try.underlying4) hf 4 4 1 rfl (by kernel_rfl)
  obtain ⟨d5, r5, g5⟩ := struct_field opens_t38 hf 5 5 18 rfl (by kernel_rfl)
  obtain ⟨d6, r6, g6⟩ := struct_field opens_t26 hf 6 23 1 rfl (by kernel_rfl)
  obtain ⟨d7, r7, g7⟩ := struct_field (opens_int Try.underlying3) hf 7 24 1 rfl (by kernel_rfl)
  obtain ⟨c0, c1, c2, c3, c4, c5, c6, c7, c8, c9, c10, c11, c12, c13, c14, c15, c16, c17, c18, c19, c20, c21, c22, c23, c24, rfl⟩ : ∃ c0 c1 c2 c3 c4 c5 c6 c7 c8 c9 c10 c11 c12 c13 c14 c15 c16 c17 c18 c19 c20 c21 c22 c23 c24, cs = [c0, c1, c2, c3, c4, c5, c6, c7, c8, c9, c10, c11, c12, c13, c14, c15, c16, c17, c18, c19, c20, c21, c22, c23, c24] := by
    clear h hw hf r0 g0 r1 g1 r2 g2 r3 g3 r4 g4 r5 g5 r6 g6 r7 g7
    match cs, hl with
    | [c0, c1, c2, c3, c4, c5, c6, c7, c8, c9, c10, c11, c12, c13, c14, c15, c16, c17, c18, c19, c20, c21, c22, c23, c24], _ => exact ⟨c0, c1, c2, c3, c4, c5, c6, c7, c8, c9, c10, c11, c12, c13, c14, c15, c16, c17, c18, c19, c20, c21, c22, c23, c24, rfl⟩
  have e0 : c0 = Value.int .i64 d0 := one1 (l := [c0]) (m := [Value.int .i64 d0]) 0 r0
  have e1 : c1 = Value.int .u16 d1 := one1 (l := [c1]) (m := [Value.int .u16 d1]) 0 r1
  have e2 : c2 = Value.int .i64 d2 := one1 (l := [c2]) (m := [Value.int .i64 d2]) 0 r2
  have e3 : c3 = Value.int .u16 d3 := one1 (l := [c3]) (m := [Value.int .u16 d3]) 0 r3
  have e4 : c4 = Value.bool d4 := one1 (l := [c4]) (m := [Value.bool d4]) 0 r4
  obtain ⟨A5_7, k5_7, A5_17, k5_17, r5, f5_7, f5_17⟩ := r5
  have e5 : c5 = Value.int .u32 d5.PDU.IV := one1 (l := [c5, c6, c7, c8, c9, c10, c11, c12, c13, c14, c15, c16, c17, c18, c19, c20, c21, c22]) (m := [Value.int .u32 d5.PDU.IV, Value.int .i64 d5.PDU.NID, Value.bool d5.PDU.Control, Value.int .i64 d5.PDU.TTL, Value.int .u32 d5.PDU.Seq, Value.int .u16 d5.PDU.Src, Value.int .u16 d5.PDU.Dst, Value.slice A5_7 (List.length d5.PDU.Payload) k5_7, Value.bool d5.Lower.Control, Value.bool d5.Lower.Segmented, Value.bool d5.Lower.App, Value.int .i64 d5.Lower.Zero, Value.int .i64 d5.Lower.Index, Value.int .i64 d5.Lower.Last, Value.int .i64 d5.Lower.Opcode, Value.int .u32 d5.Lower.Block, Value.bool d5.Lower.Friend, Value.slice A5_17 (List.length d5.Lower.Bytes) k5_17]) 0 r5
  have e6 : c6 = Value.int .i64 d5.PDU.NID := one1 (l := [c5, c6, c7, c8, c9, c10, c11, c12, c13, c14, c15, c16, c17, c18, c19, c20, c21, c22]) (m := [Value.int .u32 d5.PDU.IV, Value.int .i64 d5.PDU.NID, Value.bool d5.PDU.Control, Value.int .i64 d5.PDU.TTL, Value.int .u32 d5.PDU.Seq, Value.int .u16 d5.PDU.Src, Value.int .u16 d5.PDU.Dst, Value.slice A5_7 (List.length d5.PDU.Payload) k5_7, Value.bool d5.Lower.Control, Value.bool d5.Lower.Segmented, Value.bool d5.Lower.App, Value.int .i64 d5.Lower.Zero, Value.int .i64 d5.Lower.Index, Value.int .i64 d5.Lower.Last, Value.int .i64 d5.Lower.Opcode, Value.int .u32 d5.Lower.Block, Value.bool d5.Lower.Friend, Value.slice A5_17 (List.length d5.Lower.Bytes) k5_17]) 1 r5
  have e7 : c7 = Value.bool d5.PDU.Control := one1 (l := [c5, c6, c7, c8, c9, c10, c11, c12, c13, c14, c15, c16, c17, c18, c19, c20, c21, c22]) (m := [Value.int .u32 d5.PDU.IV, Value.int .i64 d5.PDU.NID, Value.bool d5.PDU.Control, Value.int .i64 d5.PDU.TTL, Value.int .u32 d5.PDU.Seq, Value.int .u16 d5.PDU.Src, Value.int .u16 d5.PDU.Dst, Value.slice A5_7 (List.length d5.PDU.Payload) k5_7, Value.bool d5.Lower.Control, Value.bool d5.Lower.Segmented, Value.bool d5.Lower.App, Value.int .i64 d5.Lower.Zero, Value.int .i64 d5.Lower.Index, Value.int .i64 d5.Lower.Last, Value.int .i64 d5.Lower.Opcode, Value.int .u32 d5.Lower.Block, Value.bool d5.Lower.Friend, Value.slice A5_17 (List.length d5.Lower.Bytes) k5_17]) 2 r5
  have e8 : c8 = Value.int .i64 d5.PDU.TTL := one1 (l := [c5, c6, c7, c8, c9, c10, c11, c12, c13, c14, c15, c16, c17, c18, c19, c20, c21, c22]) (m := [Value.int .u32 d5.PDU.IV, Value.int .i64 d5.PDU.NID, Value.bool d5.PDU.Control, Value.int .i64 d5.PDU.TTL, Value.int .u32 d5.PDU.Seq, Value.int .u16 d5.PDU.Src, Value.int .u16 d5.PDU.Dst, Value.slice A5_7 (List.length d5.PDU.Payload) k5_7, Value.bool d5.Lower.Control, Value.bool d5.Lower.Segmented, Value.bool d5.Lower.App, Value.int .i64 d5.Lower.Zero, Value.int .i64 d5.Lower.Index, Value.int .i64 d5.Lower.Last, Value.int .i64 d5.Lower.Opcode, Value.int .u32 d5.Lower.Block, Value.bool d5.Lower.Friend, Value.slice A5_17 (List.length d5.Lower.Bytes) k5_17]) 3 r5
  have e9 : c9 = Value.int .u32 d5.PDU.Seq := one1 (l := [c5, c6, c7, c8, c9, c10, c11, c12, c13, c14, c15, c16, c17, c18, c19, c20, c21, c22]) (m := [Value.int .u32 d5.PDU.IV, Value.int .i64 d5.PDU.NID, Value.bool d5.PDU.Control, Value.int .i64 d5.PDU.TTL, Value.int .u32 d5.PDU.Seq, Value.int .u16 d5.PDU.Src, Value.int .u16 d5.PDU.Dst, Value.slice A5_7 (List.length d5.PDU.Payload) k5_7, Value.bool d5.Lower.Control, Value.bool d5.Lower.Segmented, Value.bool d5.Lower.App, Value.int .i64 d5.Lower.Zero, Value.int .i64 d5.Lower.Index, Value.int .i64 d5.Lower.Last, Value.int .i64 d5.Lower.Opcode, Value.int .u32 d5.Lower.Block, Value.bool d5.Lower.Friend, Value.slice A5_17 (List.length d5.Lower.Bytes) k5_17]) 4 r5
  have e10 : c10 = Value.int .u16 d5.PDU.Src := one1 (l := [c5, c6, c7, c8, c9, c10, c11, c12, c13, c14, c15, c16, c17, c18, c19, c20, c21, c22]) (m := [Value.int .u32 d5.PDU.IV, Value.int .i64 d5.PDU.NID, Value.bool d5.PDU.Control, Value.int .i64 d5.PDU.TTL, Value.int .u32 d5.PDU.Seq, Value.int .u16 d5.PDU.Src, Value.int .u16 d5.PDU.Dst, Value.slice A5_7 (List.length d5.PDU.Payload) k5_7, Value.bool d5.Lower.Control, Value.bool d5.Lower.Segmented, Value.bool d5.Lower.App, Value.int .i64 d5.Lower.Zero, Value.int .i64 d5.Lower.Index, Value.int .i64 d5.Lower.Last, Value.int .i64 d5.Lower.Opcode, Value.int .u32 d5.Lower.Block, Value.bool d5.Lower.Friend, Value.slice A5_17 (List.length d5.Lower.Bytes) k5_17]) 5 r5
  have e11 : c11 = Value.int .u16 d5.PDU.Dst := one1 (l := [c5, c6, c7, c8, c9, c10, c11, c12, c13, c14, c15, c16, c17, c18, c19, c20, c21, c22]) (m := [Value.int .u32 d5.PDU.IV, Value.int .i64 d5.PDU.NID, Value.bool d5.PDU.Control, Value.int .i64 d5.PDU.TTL, Value.int .u32 d5.PDU.Seq, Value.int .u16 d5.PDU.Src, Value.int .u16 d5.PDU.Dst, Value.slice A5_7 (List.length d5.PDU.Payload) k5_7, Value.bool d5.Lower.Control, Value.bool d5.Lower.Segmented, Value.bool d5.Lower.App, Value.int .i64 d5.Lower.Zero, Value.int .i64 d5.Lower.Index, Value.int .i64 d5.Lower.Last, Value.int .i64 d5.Lower.Opcode, Value.int .u32 d5.Lower.Block, Value.bool d5.Lower.Friend, Value.slice A5_17 (List.length d5.Lower.Bytes) k5_17]) 6 r5
  have e12 : c12 = Value.slice A5_7 (List.length d5.PDU.Payload) k5_7 := one1 (l := [c5, c6, c7, c8, c9, c10, c11, c12, c13, c14, c15, c16, c17, c18, c19, c20, c21, c22]) (m := [Value.int .u32 d5.PDU.IV, Value.int .i64 d5.PDU.NID, Value.bool d5.PDU.Control, Value.int .i64 d5.PDU.TTL, Value.int .u32 d5.PDU.Seq, Value.int .u16 d5.PDU.Src, Value.int .u16 d5.PDU.Dst, Value.slice A5_7 (List.length d5.PDU.Payload) k5_7, Value.bool d5.Lower.Control, Value.bool d5.Lower.Segmented, Value.bool d5.Lower.App, Value.int .i64 d5.Lower.Zero, Value.int .i64 d5.Lower.Index, Value.int .i64 d5.Lower.Last, Value.int .i64 d5.Lower.Opcode, Value.int .u32 d5.Lower.Block, Value.bool d5.Lower.Friend, Value.slice A5_17 (List.length d5.Lower.Bytes) k5_17]) 7 r5
  have e13 : c13 = Value.bool d5.Lower.Control := one1 (l := [c5, c6, c7, c8, c9, c10, c11, c12, c13, c14, c15, c16, c17, c18, c19, c20, c21, c22]) (m := [Value.int .u32 d5.PDU.IV, Value.int .i64 d5.PDU.NID, Value.bool d5.PDU.Control, Value.int .i64 d5.PDU.TTL, Value.int .u32 d5.PDU.Seq, Value.int .u16 d5.PDU.Src, Value.int .u16 d5.PDU.Dst, Value.slice A5_7 (List.length d5.PDU.Payload) k5_7, Value.bool d5.Lower.Control, Value.bool d5.Lower.Segmented, Value.bool d5.Lower.App, Value.int .i64 d5.Lower.Zero, Value.int .i64 d5.Lower.Index, Value.int .i64 d5.Lower.Last, Value.int .i64 d5.Lower.Opcode, Value.int .u32 d5.Lower.Block, Value.bool d5.Lower.Friend, Value.slice A5_17 (List.length d5.Lower.Bytes) k5_17]) 8 r5
  have e14 : c14 = Value.bool d5.Lower.Segmented := one1 (l := [c5, c6, c7, c8, c9, c10, c11, c12, c13, c14, c15, c16, c17, c18, c19, c20, c21, c22]) (m := [Value.int .u32 d5.PDU.IV, Value.int .i64 d5.PDU.NID, Value.bool d5.PDU.Control, Value.int .i64 d5.PDU.TTL, Value.int .u32 d5.PDU.Seq, Value.int .u16 d5.PDU.Src, Value.int .u16 d5.PDU.Dst, Value.slice A5_7 (List.length d5.PDU.Payload) k5_7, Value.bool d5.Lower.Control, Value.bool d5.Lower.Segmented, Value.bool d5.Lower.App, Value.int .i64 d5.Lower.Zero, Value.int .i64 d5.Lower.Index, Value.int .i64 d5.Lower.Last, Value.int .i64 d5.Lower.Opcode, Value.int .u32 d5.Lower.Block, Value.bool d5.Lower.Friend, Value.slice A5_17 (List.length d5.Lower.Bytes) k5_17]) 9 r5
  have e15 : c15 = Value.bool d5.Lower.App := one1 (l := [c5, c6, c7, c8, c9, c10, c11, c12, c13, c14, c15, c16, c17, c18, c19, c20, c21, c22]) (m := [Value.int .u32 d5.PDU.IV, Value.int .i64 d5.PDU.NID, Value.bool d5.PDU.Control, Value.int .i64 d5.PDU.TTL, Value.int .u32 d5.PDU.Seq, Value.int .u16 d5.PDU.Src, Value.int .u16 d5.PDU.Dst, Value.slice A5_7 (List.length d5.PDU.Payload) k5_7, Value.bool d5.Lower.Control, Value.bool d5.Lower.Segmented, Value.bool d5.Lower.App, Value.int .i64 d5.Lower.Zero, Value.int .i64 d5.Lower.Index, Value.int .i64 d5.Lower.Last, Value.int .i64 d5.Lower.Opcode, Value.int .u32 d5.Lower.Block, Value.bool d5.Lower.Friend, Value.slice A5_17 (List.length d5.Lower.Bytes) k5_17]) 10 r5
  have e16 : c16 = Value.int .i64 d5.Lower.Zero := one1 (l := [c5, c6, c7, c8, c9, c10, c11, c12, c13, c14, c15, c16, c17, c18, c19, c20, c21, c22]) (m := [Value.int .u32 d5.PDU.IV, Value.int .i64 d5.PDU.NID, Value.bool d5.PDU.Control, Value.int .i64 d5.PDU.TTL, Value.int .u32 d5.PDU.Seq, Value.int .u16 d5.PDU.Src, Value.int .u16 d5.PDU.Dst, Value.slice A5_7 (List.length d5.PDU.Payload) k5_7, Value.bool d5.Lower.Control, Value.bool d5.Lower.Segmented, Value.bool d5.Lower.App, Value.int .i64 d5.Lower.Zero, Value.int .i64 d5.Lower.Index, Value.int .i64 d5.Lower.Last, Value.int .i64 d5.Lower.Opcode, Value.int .u32 d5.Lower.Block, Value.bool d5.Lower.Friend, Value.slice A5_17 (List.length d5.Lower.Bytes) k5_17]) 11 r5
  have e17 : c17 = Value.int .i64 d5.Lower.Index := one1 (l := [c5, c6, c7, c8, c9, c10, c11, c12, c13, c14, c15, c16, c17, c18, c19, c20, c21, c22]) (m := [Value.int .u32 d5.PDU.IV, Value.int .i64 d5.PDU.NID, Value.bool d5.PDU.Control, Value.int .i64 d5.PDU.TTL, Value.int .u32 d5.PDU.Seq, Value.int .u16 d5.PDU.Src, Value.int .u16 d5.PDU.Dst, Value.slice A5_7 (List.length d5.PDU.Payload) k5_7, Value.bool d5.Lower.Control, Value.bool d5.Lower.Segmented, Value.bool d5.Lower.App, Value.int .i64 d5.Lower.Zero, Value.int .i64 d5.Lower.Index, Value.int .i64 d5.Lower.Last, Value.int .i64 d5.Lower.Opcode, Value.int .u32 d5.Lower.Block, Value.bool d5.Lower.Friend, Value.slice A5_17 (List.length d5.Lower.Bytes) k5_17]) 12 r5
  have e18 : c18 = Value.int .i64 d5.Lower.Last := one1 (l := [c5, c6, c7, c8, c9, c10, c11, c12, c13, c14, c15, c16, c17, c18, c19, c20, c21, c22]) (m := [Value.int .u32 d5.PDU.IV, Value.int .i64 d5.PDU.NID, Value.bool d5.PDU.Control, Value.int .i64 d5.PDU.TTL, Value.int .u32 d5.PDU.Seq, Value.int .u16 d5.PDU.Src, Value.int .u16 d5.PDU.Dst, Value.slice A5_7 (List.length d5.PDU.Payload) k5_7, Value.bool d5.Lower.Control, Value.bool d5.Lower.Segmented, Value.bool d5.Lower.App, Value.int .i64 d5.Lower.Zero, Value.int .i64 d5.Lower.Index, Value.int .i64 d5.Lower.Last, Value.int .i64 d5.Lower.Opcode, Value.int .u32 d5.Lower.Block, Value.bool d5.Lower.Friend, Value.slice A5_17 (List.length d5.Lower.Bytes) k5_17]) 13 r5
  have e19 : c19 = Value.int .i64 d5.Lower.Opcode := one1 (l := [c5, c6, c7, c8, c9, c10, c11, c12, c13, c14, c15, c16, c17, c18, c19, c20, c21, c22]) (m := [Value.int .u32 d5.PDU.IV, Value.int .i64 d5.PDU.NID, Value.bool d5.PDU.Control, Value.int .i64 d5.PDU.TTL, Value.int .u32 d5.PDU.Seq, Value.int .u16 d5.PDU.Src, Value.int .u16 d5.PDU.Dst, Value.slice A5_7 (List.length d5.PDU.Payload) k5_7, Value.bool d5.Lower.Control, Value.bool d5.Lower.Segmented, Value.bool d5.Lower.App, Value.int .i64 d5.Lower.Zero, Value.int .i64 d5.Lower.Index, Value.int .i64 d5.Lower.Last, Value.int .i64 d5.Lower.Opcode, Value.int .u32 d5.Lower.Block, Value.bool d5.Lower.Friend, Value.slice A5_17 (List.length d5.Lower.Bytes) k5_17]) 14 r5
  have e20 : c20 = Value.int .u32 d5.Lower.Block := one1 (l := [c5, c6, c7, c8, c9, c10, c11, c12, c13, c14, c15, c16, c17, c18, c19, c20, c21, c22]) (m := [Value.int .u32 d5.PDU.IV, Value.int .i64 d5.PDU.NID, Value.bool d5.PDU.Control, Value.int .i64 d5.PDU.TTL, Value.int .u32 d5.PDU.Seq, Value.int .u16 d5.PDU.Src, Value.int .u16 d5.PDU.Dst, Value.slice A5_7 (List.length d5.PDU.Payload) k5_7, Value.bool d5.Lower.Control, Value.bool d5.Lower.Segmented, Value.bool d5.Lower.App, Value.int .i64 d5.Lower.Zero, Value.int .i64 d5.Lower.Index, Value.int .i64 d5.Lower.Last, Value.int .i64 d5.Lower.Opcode, Value.int .u32 d5.Lower.Block, Value.bool d5.Lower.Friend, Value.slice A5_17 (List.length d5.Lower.Bytes) k5_17]) 15 r5
  have e21 : c21 = Value.bool d5.Lower.Friend := one1 (l := [c5, c6, c7, c8, c9, c10, c11, c12, c13, c14, c15, c16, c17, c18, c19, c20, c21, c22]) (m := [Value.int .u32 d5.PDU.IV, Value.int .i64 d5.PDU.NID, Value.bool d5.PDU.Control, Value.int .i64 d5.PDU.TTL, Value.int .u32 d5.PDU.Seq, Value.int .u16 d5.PDU.Src, Value.int .u16 d5.PDU.Dst, Value.slice A5_7 (List.length d5.PDU.Payload) k5_7, Value.bool d5.Lower.Control, Value.bool d5.Lower.Segmented, Value.bool d5.Lower.App, Value.int .i64 d5.Lower.Zero, Value.int .i64 d5.Lower.Index, Value.int .i64 d5.Lower.Last, Value.int .i64 d5.Lower.Opcode, Value.int .u32 d5.Lower.Block, Value.bool d5.Lower.Friend, Value.slice A5_17 (List.length d5.Lower.Bytes) k5_17]) 16 r5
  have e22 : c22 = Value.slice A5_17 (List.length d5.Lower.Bytes) k5_17 := one1 (l := [c5, c6, c7, c8, c9, c10, c11, c12, c13, c14, c15, c16, c17, c18, c19, c20, c21, c22]) (m := [Value.int .u32 d5.PDU.IV, Value.int .i64 d5.PDU.NID, Value.bool d5.PDU.Control, Value.int .i64 d5.PDU.TTL, Value.int .u32 d5.PDU.Seq, Value.int .u16 d5.PDU.Src, Value.int .u16 d5.PDU.Dst, Value.slice A5_7 (List.length d5.PDU.Payload) k5_7, Value.bool d5.Lower.Control, Value.bool d5.Lower.Segmented, Value.bool d5.Lower.App, Value.int .i64 d5.Lower.Zero, Value.int .i64 d5.Lower.Index, Value.int .i64 d5.Lower.Last, Value.int .i64 d5.Lower.Opcode, Value.int .u32 d5.Lower.Block, Value.bool d5.Lower.Friend, Value.slice A5_17 (List.length d5.Lower.Bytes) k5_17]) 17 r5
  obtain ⟨A6_0, k6_0, r6, f6_0⟩ := r6
  have e23 : c23 = Value.slice A6_0 (List.length d6) k6_0 := one1 (l := [c23]) (m := [Value.slice A6_0 (List.length d6) k6_0]) 0 r6
  have e24 : c24 = Value.int .i64 d7 := one1 (l := [c24]) (m := [Value.int .i64 d7]) 0 r7
  subst e0 e1 e2 e3 e4 e5 e6 e7 e8 e9 e10 e11 e12 e13 e14 e15 e16 e17 e18 e19 e20 e21 e22 e23 e24
  exact ⟨⟨d0, d1, d2, d3, d4, d5, d6, d7⟩, ⟨A5_7, k5_7, A5_17, k5_17, A6_0, k6_0, rfl, f5_7, f5_17, f6_0⟩, ⟨g0, g1, g2, g3, g4, g5, g6, g7⟩⟩
theorem opens_t22 : Opens Try.prog 22 1 (RSl 25 R_T_wirelesslaw51_Op) (GAll G_T_wirelesslaw51_Op) := opens_slice Try.underlying22 (by kernel_rfl) (by kernel_rfl) opens_t40
end V
end Go.Proofs.Ytphigebccfoppaa
