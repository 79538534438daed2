/-
  Readings of the structs, the table of types, closed facts on the program.
-/
import Derived.Test.YtfdiabglpgkbeaaRow
import Derived.Test.YtfdiabglpgkbeaaFn
import Derived.Test.YtfdiabglpgkbeaaProg
import Derived.KernelRfl
namespace Go.Proofs.Ytfdiabglpgkbeaa
namespace V
abbrev R8 : RT Int := RInt .u8
def R_T_wirelesslaw33_Step : RT T_wirelesslaw33_Step := fun U w cs x => ∃ (A0 : Option Addr) (k0 : Nat), cs = [.int .u8 x.Kind, .slice A0 (List.length x.SDU) k0, .int .u8 x.N] ∧ Sl 1 R8 U w A0 k0 x.SDU
instance : GRep R_T_wirelesslaw33_Step := ⟨fun h h1 h2 => by
    obtain ⟨A0, k0, rfl, q0⟩ := h
    exact ⟨A0, k0, rfl, q0.step h1 h2⟩,
  fun h u hu => by
    obtain ⟨A0, k0, rfl, _⟩ := h
    simp only [List.mem_cons, List.not_mem_nil, or_false] at hu
    rcases hu with rfl | rfl | rfl
    all_goals rfl⟩
def C_wirelesslaw33_Step (x : T_wirelesslaw33_Step) (c0 : Cell) : List Cell := [ci .u8 x.Kind, c0, ci .u8 x.N]
instance : GOpen R_T_wirelesslaw33_Step := ⟨fun x n => C_wirelesslaw33_Step x (.s (n + 0)), fun x => [.rd 1 R8 x.SDU], fun {U w cs x} h => by
    obtain ⟨A0, k0, rfl, q0⟩ := h
    refine ⟨[.r A0 (List.length x.SDU) k0], rfl, fun κ => ?_, fun n => ?_, fun i it c h1 h2 => ?_⟩
    · simp [C_wirelesslaw33_Step, Cell.den, get_new, get_new0]
    · simp [C_wirelesslaw33_Step, Cell.lt]
    · match i, h1, h2 with
      | 0, h1, h2 => simp at h1 h2; subst h1; subst h2; exact ⟨rfl, fun _ => rfl, fun _ => ⟨rfl, q0⟩⟩
      | _ + 1, h1, _ => simp at h1⟩
theorem clo_T_wirelesslaw33_Step {its : List Item} {x : T_wirelesslaw33_Step} {c0 : Cell} (hc0 : Clo its (RSl 1 R8) [c0] x.SDU) : Clo its R_T_wirelesslaw33_Step (C_wirelesslaw33_Step x c0) x := fun S => by
    obtain ⟨Ac0, kc0, ec0, fc0⟩ := hc0 S
    simp only [List.map_cons, List.map_nil, List.cons.injEq, and_true] at ec0
    exact ⟨Ac0, kc0, by simp only [C_wirelesslaw33_Step, List.map_cons, List.map_nil, ec0]; rfl, fc0⟩

def R_T_wirelesslaw33_Way : RT T_wirelesslaw33_Way := fun U w cs x => ∃ (A0 : Option Addr) (k0 : Nat), cs = [.int .i64 x.MTU, .int .i64 x.MPS, .int .i64 x.Credits, .slice A0 (List.length x.Steps) k0] ∧ Sl 3 R_T_wirelesslaw33_Step U w A0 k0 x.Steps
instance : GRep R_T_wirelesslaw33_Way := ⟨fun h h1 h2 => by
    obtain ⟨A0, k0, rfl, q0⟩ := h
    exact ⟨A0, k0, rfl, q0.step h1 h2⟩,
  fun h u hu => by
    obtain ⟨A0, k0, rfl, _⟩ := h
    simp only [List.mem_cons, List.not_mem_nil, or_false] at hu
    rcases hu with rfl | rfl | rfl | rfl
    all_goals rfl⟩
def C_wirelesslaw33_Way (x : T_wirelesslaw33_Way) (c0 : Cell) : List Cell := [ci .i64 x.MTU, ci .i64 x.MPS, ci .i64 x.Credits, c0]
instance : GOpen R_T_wirelesslaw33_Way := ⟨fun x n => C_wirelesslaw33_Way x (.s (n + 0)), fun x => [.rd 3 R_T_wirelesslaw33_Step x.Steps], fun {U w cs x} h => by
    obtain ⟨A0, k0, rfl, q0⟩ := h
    refine ⟨[.r A0 (List.length x.Steps) k0], rfl, fun κ => ?_, fun n => ?_, fun i it c h1 h2 => ?_⟩
    · simp [C_wirelesslaw33_Way, Cell.den, get_new, get_new0]
    · simp [C_wirelesslaw33_Way, Cell.lt]
    · match i, h1, h2 with
      | 0, h1, h2 => simp at h1 h2; subst h1; subst h2; exact ⟨rfl, fun _ => rfl, fun _ => ⟨rfl, q0⟩⟩
      | _ + 1, h1, _ => simp at h1⟩
theorem clo_T_wirelesslaw33_Way {its : List Item} {x : T_wirelesslaw33_Way} {c0 : Cell} (hc0 : Clo its (RSl 3 R_T_wirelesslaw33_Step) [c0] x.Steps) : Clo its R_T_wirelesslaw33_Way (C_wirelesslaw33_Way x c0) x := fun S => by
    obtain ⟨Ac0, kc0, ec0, fc0⟩ := hc0 S
    simp only [List.map_cons, List.map_nil, List.cons.injEq, and_true] at ec0
    exact ⟨Ac0, kc0, by simp only [C_wirelesslaw33_Way, List.map_cons, List.map_nil, ec0]; rfl, fc0⟩

def R_T_api_Channel : RT T_api_Channel := fun U w cs x => ∃ (A0 : Option Addr) (k0 : Nat) (A2 : Option Addr) (k2 : Nat), cs = [.int .u16 x.Local, .int .u16 x.Remote, .int .u16 x.PSM, .int .i64 x.MTU, .int .i64 x.MPS, .int .i64 x.PeerMTU, .int .i64 x.PeerMPS, .int .i64 x.TxCredits, .int .i64 x.RxCredits, .int .i64 x.Given, .slice A0 (List.length x.Out) k0, .int .i64 x.Sent, .slice A2 (List.length x.In) k2, .int .i64 x.Want, .bool x.Failed] ∧ Sl 1 (RSl 1 R8) U w A0 k0 x.Out ∧ Sl 1 R8 U w A2 k2 x.In
instance : GRep R_T_api_Channel := ⟨fun h h1 h2 => by
    obtain ⟨A0, k0, A2, k2, rfl, q0, q1⟩ := h
    exact ⟨A0, k0, A2, k2, rfl, q0.step h1 h2, q1.step h1 h2⟩,
  fun h u hu => by
    obtain ⟨A0, k0, A2, k2, rfl, _, _⟩ := h
    simp only [List.mem_cons, List.not_mem_nil, or_false] at hu
    rcases hu with rfl | rfl | rfl | rfl | rfl | rfl | rfl | rfl | rfl | rfl | rfl | rfl | rfl | rfl | rfl
    all_goals rfl⟩
def C_api_Channel (x : T_api_Channel) (c0 : Cell) (c1 : Cell) : List Cell := [ci .u16 x.Local, ci .u16 x.Remote, ci .u16 x.PSM, ci .i64 x.MTU, ci .i64 x.MPS, ci .i64 x.PeerMTU, ci .i64 x.PeerMPS, ci .i64 x.TxCredits, ci .i64 x.RxCredits, ci .i64 x.Given, c0, ci .i64 x.Sent, c1, ci .i64 x.Want, cb x.Failed]
instance : GOpen R_T_api_Channel := ⟨fun x n => C_api_Channel x (.s (n + 0)) (.s (n + 1)), fun x => [.rd 1 (RSl 1 R8) x.Out, .rd 1 R8 x.In], fun {U w cs x} h => by
    obtain ⟨A0, k0, A2, k2, rfl, q0, q1⟩ := h
    refine ⟨[.r A0 (List.length x.Out) k0, .r A2 (List.length x.In) k2], rfl, fun κ => ?_, fun n => ?_, fun i it c h1 h2 => ?_⟩
    · simp [C_api_Channel, Cell.den, get_new, get_new0]
    · simp [C_api_Channel, Cell.lt]
    · match i, h1, h2 with
      | 0, h1, h2 => simp at h1 h2; subst h1; subst h2; exact ⟨rfl, fun _ => rfl, fun _ => ⟨rfl, q0⟩⟩
      | 1, h1, h2 => simp at h1 h2; subst h1; subst h2; exact ⟨rfl, fun _ => rfl, fun _ => ⟨rfl, q1⟩⟩
      | _ + 2, h1, _ => simp at h1⟩
theorem clo_T_api_Channel {its : List Item} {x : T_api_Channel} {c0 : Cell} {c1 : Cell} (hc0 : Clo its (RSl 1 (RSl 1 R8)) [c0] x.Out) (hc1 : Clo its (RSl 1 R8) [c1] x.In) : Clo its R_T_api_Channel (C_api_Channel x c0 c1) x := fun S => by
    obtain ⟨Ac0, kc0, ec0, fc0⟩ := hc0 S
    simp only [List.map_cons, List.map_nil, List.cons.injEq, and_true] at ec0
    obtain ⟨Ac1, kc1, ec1, fc1⟩ := hc1 S
    simp only [List.map_cons, List.map_nil, List.cons.injEq, and_true] at ec1
    exact ⟨Ac0, kc0, Ac1, kc1, by simp only [C_api_Channel, List.map_cons, List.map_nil, ec0, ec1]; rfl, fc0, fc1⟩

def R_T_wirelesslaw33_wire : RT T_wirelesslaw33_wire := fun U w cs x => ∃ (A0 : Option Addr) (k0 : Nat) (A2 : Option Addr) (k2 : Nat) (A4 : Option Addr) (k4 : Nat) (A6 : Option Addr) (k6 : Nat) (A8 : Option Addr) (k8 : Nat) (A10 : Option Addr) (k10 : Nat) (A12 : Option Addr) (k12 : Nat) (A14 : Option Addr) (k14 : Nat), cs = [.int .u16 x.a.Local, .int .u16 x.a.Remote, .int .u16 x.a.PSM, .int .i64 x.a.MTU, .int .i64 x.a.MPS, .int .i64 x.a.PeerMTU, .int .i64 x.a.PeerMPS, .int .i64 x.a.TxCredits, .int .i64 x.a.RxCredits, .int .i64 x.a.Given, .slice A0 (List.length x.a.Out) k0, .int .i64 x.a.Sent, .slice A2 (List.length x.a.In) k2, .int .i64 x.a.Want, .bool x.a.Failed, .int .u16 x.b.Local, .int .u16 x.b.Remote, .int .u16 x.b.PSM, .int .i64 x.b.MTU, .int .i64 x.b.MPS, .int .i64 x.b.PeerMTU, .int .i64 x.b.PeerMPS, .int .i64 x.b.TxCredits, .int .i64 x.b.RxCredits, .int .i64 x.b.Given, .slice A4 (List.length x.b.Out) k4, .int .i64 x.b.Sent, .slice A6 (List.length x.b.In) k6, .int .i64 x.b.Want, .bool x.b.Failed, .slice A8 (List.length x.frames) k8, .slice A10 (List.length x.credits) k10, .slice A12 (List.length x.queued) k12, .slice A14 (List.length x.got) k14, .bool x.bad] ∧ Sl 1 (RSl 1 R8) U w A0 k0 x.a.Out ∧ Sl 1 R8 U w A2 k2 x.a.In ∧ Sl 1 (RSl 1 R8) U w A4 k4 x.b.Out ∧ Sl 1 R8 U w A6 k6 x.b.In ∧ Sl 1 (RSl 1 R8) U w A8 k8 x.frames ∧ Sl 1 (RInt .i64) U w A10 k10 x.credits ∧ Sl 1 (RSl 1 R8) U w A12 k12 x.queued ∧ Sl 1 (RSl 1 R8) U w A14 k14 x.got
instance : GRep R_T_wirelesslaw33_wire := ⟨fun h h1 h2 => by
    obtain ⟨A0, k0, A2, k2, A4, k4, A6, k6, A8, k8, A10, k10, A12, k12, A14, k14, rfl, q0, q1, q2, q3, q4, q5, q6, q7⟩ := h
    exact ⟨A0, k0, A2, k2, A4, k4, A6, k6, A8, k8, A10, k10, A12, k12, A14, k14, rfl, q0.step h1 h2, q1.step h1 h2, q2.step h1 h2, q3.step h1 h2, q4.step h1 h2, q5.step h1 h2, q6.step h1 h2, q7.step h1 h2⟩,
  fun h u hu => by
    obtain ⟨A0, k0, A2, k2, A4, k4, A6, k6, A8, k8, A10, k10, A12, k12, A14, k14, rfl, _, _, _, _, _, _, _, _⟩ := h
    simp only [List.mem_cons, List.not_mem_nil, or_false] at hu
    rcases hu with rfl | rfl | rfl | rfl | rfl | rfl | rfl | rfl | rfl | rfl | rfl | rfl | rfl | rfl | rfl | rfl | rfl | rfl | rfl | rfl | rfl | rfl | rfl | rfl | rfl | rfl | rfl | rfl | rfl | rfl | rfl | rfl | rfl | rfl | rfl
    all_goals rfl⟩
def C_wirelesslaw33_wire (x : T_wirelesslaw33_wire) (c0 : Cell) (c1 : Cell) (c2 : Cell) (c3 : Cell) (c4 : Cell) (c5 : Cell) (c6 : Cell) (c7 : Cell) : List Cell := [ci .u16 x.a.Local, ci .u16 x.a.Remote, ci .u16 x.a.PSM, ci .i64 x.a.MTU, ci .i64 x.a.MPS, ci .i64 x.a.PeerMTU, ci .i64 x.a.PeerMPS, ci .i64 x.a.TxCredits, ci .i64 x.a.RxCredits, ci .i64 x.a.Given, c0, ci .i64 x.a.Sent, c1, ci .i64 x.a.Want, cb x.a.Failed, ci .u16 x.b.Local, ci .u16 x.b.Remote, ci .u16 x.b.PSM, ci .i64 x.b.MTU, ci .i64 x.b.MPS, ci .i64 x.b.PeerMTU, ci .i64 x.b.PeerMPS, ci .i64 x.b.TxCredits, ci .i64 x.b.RxCredits, ci .i64 x.b.Given, c2, ci .i64 x.b.Sent, c3, ci .i64 x.b.Want, cb x.b.Failed, c4, c5, c6, c7, cb x.bad]
instance : GOpen R_T_wirelesslaw33_wire := ⟨fun x n => C_wirelesslaw33_wire x (.s (n + 0)) (.s (n + 1)) (.s (n + 2)) (.s (n + 3)) (.s (n + 4)) (.s (n + 5)) (.s (n + 6)) (.s (n + 7)), fun x => [.rd 1 (RSl 1 R8) x.a.Out, .rd 1 R8 x.a.In, .rd 1 (RSl 1 R8) x.b.Out, .rd 1 R8 x.b.In, .rd 1 (RSl 1 R8) x.frames, .rd 1 (RInt .i64) x.credits, .rd 1 (RSl 1 R8) x.queued, .rd 1 (RSl 1 R8) x.got], fun {U w cs x} h => by
    obtain ⟨A0, k0, A2, k2, A4, k4, A6, k6, A8, k8, A10, k10, A12, k12, A14, k14, rfl, q0, q1, q2, q3, q4, q5, q6, q7⟩ := h
    refine ⟨[.r A0 (List.length x.a.Out) k0, .r A2 (List.length x.a.In) k2, .r A4 (List.length x.b.Out) k4, .r A6 (List.length x.b.In) k6, .r A8 (List.length x.frames) k8, .r A10 (List.length x.credits) k10, .r A12 (List.length x.queued) k12, .r A14 (List.length x.got) k14], rfl, fun κ => ?_, fun n => ?_, fun i it c h1 h2 => ?_⟩
    · simp [C_wirelesslaw33_wire, Cell.den, get_new, get_new0]
    · simp [C_wirelesslaw33_wire, Cell.lt]
    · match i, h1, h2 with
      | 0, h1, h2 => simp at h1 h2; subst h1; subst h2; exact ⟨rfl, fun _ => rfl, fun _ => ⟨rfl, q0⟩⟩
      | 1, h1, h2 => simp at h1 h2; subst h1; subst h2; exact ⟨rfl, fun _ => rfl, fun _ => ⟨rfl, q1⟩⟩
      | 2, h1, h2 => simp at h1 h2; subst h1; subst h2; exact ⟨rfl, fun _ => rfl, fun _ => ⟨rfl, q2⟩⟩
      | 3, h1, h2 => simp at h1 h2; subst h1; subst h2; exact ⟨rfl, fun _ => rfl, fun _ => ⟨rfl, q3⟩⟩
      | 4, h1, h2 => simp at h1 h2; subst h1; subst h2; exact ⟨rfl, fun _ => rfl, fun _ => ⟨rfl, q4⟩⟩
      | 5, h1, h2 => simp at h1 h2; subst h1; subst h2; exact ⟨rfl, fun _ => rfl, fun _ => ⟨rfl, q5⟩⟩
      | 6, h1, h2 => simp at h1 h2; subst h1; subst h2; exact ⟨rfl, fun _ => rfl, fun _ => ⟨rfl, q6⟩⟩
      | 7, h1, h2 => simp at h1 h2; subst h1; subst h2; exact ⟨rfl, fun _ => rfl, fun _ => ⟨rfl, q7⟩⟩
      | _ + 8, h1, _ => simp at h1⟩
theorem clo_T_wirelesslaw33_wire {its : List Item} {x : T_wirelesslaw33_wire} {c0 : Cell} {c1 : Cell} {c2 : Cell} {c3 : Cell} {c4 : Cell} {c5 : Cell} {c6 : Cell} {c7 : Cell} (hc0 : Clo its (RSl 1 (RSl 1 R8)) [c0] x.a.Out) (hc1 : Clo its (RSl 1 R8) [c1] x.a.In) (hc2 : Clo its (RSl 1 (RSl 1 R8)) [c2] x.b.Out) (hc3 : Clo its (RSl 1 R8) [c3] x.b.In) (hc4 : Clo its (RSl 1 (RSl 1 R8)) [c4] x.frames) (hc5 : Clo its (RSl 1 (RInt .i64)) [c5] x.credits) (hc6 : Clo its (RSl 1 (RSl 1 R8)) [c6] x.queued) (hc7 : Clo its (RSl 1 (RSl 1 R8)) [c7] x.got) : Clo its R_T_wirelesslaw33_wire (C_wirelesslaw33_wire x c0 c1 c2 c3 c4 c5 c6 c7) x := fun S => by
    obtain ⟨Ac0, kc0, ec0, fc0⟩ := hc0 S
    simp only [List.map_cons, List.map_nil, List.cons.injEq, and_true] at ec0
    obtain ⟨Ac1, kc1, ec1, fc1⟩ := hc1 S
    simp only [List.map_cons, List.map_nil, List.cons.injEq, and_true] at ec1
    obtain ⟨Ac2, kc2, ec2, fc2⟩ := hc2 S
    simp only [List.map_cons, List.map_nil, List.cons.injEq, and_true] at ec2
    obtain ⟨Ac3, kc3, ec3, fc3⟩ := hc3 S
    simp only [List.map_cons, List.map_nil, List.cons.injEq, and_true] at ec3
    obtain ⟨Ac4, kc4, ec4, fc4⟩ := hc4 S
    simp only [List.map_cons, List.map_nil, List.cons.injEq, and_true] at ec4
    obtain ⟨Ac5, kc5, ec5, fc5⟩ := hc5 S
    simp only [List.map_cons, List.map_nil, List.cons.injEq, and_true] at ec5
    obtain ⟨Ac6, kc6, ec6, fc6⟩ := hc6 S
    simp only [List.map_cons, List.map_nil, List.cons.injEq, and_true] at ec6
    obtain ⟨Ac7, kc7, ec7, fc7⟩ := hc7 S
    simp only [List.map_cons, List.map_nil, List.cons.injEq, and_true] at ec7
    exact ⟨Ac0, kc0, Ac1, kc1, Ac2, kc2, Ac3, kc3, Ac4, kc4, Ac5, kc5, Ac6, kc6, Ac7, kc7, by simp only [C_wirelesslaw33_wire, List.map_cons, List.map_nil, ec0, ec1, ec2, ec3, ec4, ec5, ec6, ec7]; rfl, fc0, fc1, fc2, fc3, fc4, fc5, fc6, fc7⟩

def tbl : TT := [(3, ⟨.int .i64, false, 1, (some (.int .i64 0)), 8⟩),
  (4, ⟨.bool, false, 1, none, 1⟩),
  (5, ⟨.int .u8, false, 1, (some (.int .u8 0)), 1⟩),
  (9, ⟨.string, false, 1, none, 16⟩),
  (22, ⟨.int .u16, false, 1, none, 2⟩),
  (23, ⟨.slice 24, false, 1, (some (.slice none 0 0)), 24⟩),
  (24, ⟨.slice 5, false, 1, (some (.slice none 0 0)), 24⟩),
  (26, ⟨.struct #[⟨"Local", 22, 0, false, "", "", 0⟩, ⟨"Remote", 22, 1, false, "", "", 2⟩, ⟨"PSM", 22, 2, false, "", "", 4⟩, ⟨"MTU", 3, 3, false, "", "", 8⟩, ⟨"MPS", 3, 4, false, "", "", 16⟩, ⟨"PeerMTU", 3, 5, false, "", "", 24⟩, ⟨"PeerMPS", 3, 6, false, "", "", 32⟩, ⟨"TxCredits", 3, 7, false, "", "", 40⟩, ⟨"RxCredits", 3, 8, false, "", "", 48⟩, ⟨"Given", 3, 9, false, "", "", 56⟩, ⟨"Out", 23, 10, false, "", "", 64⟩, ⟨"Sent", 3, 11, false, "", "", 88⟩, ⟨"In", 24, 12, false, "", "", 96⟩, ⟨"Want", 3, 13, false, "", "", 120⟩, ⟨"Failed", 4, 14, false, "", "", 128⟩], true, 15, (some (.agg #[(.int .u16 0), (.int .u16 0), (.int .u16 0), (.int .i64 0), (.int .i64 0), (.int .i64 0), (.int .i64 0), (.int .i64 0), (.int .i64 0), (.int .i64 0), (.slice none 0 0), (.int .i64 0), (.slice none 0 0), (.int .i64 0), (.bool false)])), 136⟩),
  (45, ⟨.slice 49, false, 1, none, 24⟩),
  (47, ⟨.struct #[⟨"MTU", 3, 0, false, "", "", 0⟩, ⟨"MPS", 3, 1, false, "", "", 8⟩, ⟨"Credits", 3, 2, false, "", "", 16⟩, ⟨"Steps", 45, 3, false, "", "", 24⟩], true, 4, none, 48⟩),
  (49, ⟨.struct #[⟨"Kind", 5, 0, false, "", "", 0⟩, ⟨"SDU", 24, 1, false, "", "", 8⟩, ⟨"N", 5, 2, false, "", "", 32⟩], true, 3, (some (.agg #[(.int .u8 0), (.slice none 0 0), (.int .u8 0)])), 40⟩),
  (51, ⟨.slice 3, false, 1, none, 24⟩),
  (53, ⟨.struct #[⟨"a", 26, 0, false, "", "wireless/wirelesslaw33", 0⟩, ⟨"b", 26, 15, false, "", "wireless/wirelesslaw33", 136⟩, ⟨"frames", 23, 30, false, "", "wireless/wirelesslaw33", 272⟩, ⟨"credits", 51, 31, false, "", "wireless/wirelesslaw33", 296⟩, ⟨"queued", 23, 32, false, "", "wireless/wirelesslaw33", 320⟩, ⟨"got", 23, 33, false, "", "wireless/wirelesslaw33", 344⟩, ⟨"bad", 4, 34, false, "", "wireless/wirelesslaw33", 368⟩], true, 35, (some (.agg #[(.int .u16 0), (.int .u16 0), (.int .u16 0), (.int .i64 0), (.int .i64 0), (.int .i64 0), (.int .i64 0), (.int .i64 0), (.int .i64 0), (.int .i64 0), (.slice none 0 0), (.int .i64 0), (.slice none 0 0), (.int .i64 0), (.bool false), (.int .u16 0), (.int .u16 0), (.int .u16 0), (.int .i64 0), (.int .i64 0), (.int .i64 0), (.int .i64 0), (.int .i64 0), (.int .i64 0), (.int .i64 0), (.slice none 0 0), (.int .i64 0), (.slice none 0 0), (.int .i64 0), (.bool false), (.slice none 0 0), (.slice none 0 0), (.slice none 0 0), (.slice none 0 0), (.bool false)])), 376⟩)]
theorem tk : TTOk Try.prog tbl := fun p hp => by
  simp only [tbl, List.mem_cons, List.not_mem_nil, or_false] at hp
  rcases hp with rfl | rfl | rfl | rfl | rfl | rfl | rfl | rfl | rfl | rfl | rfl | rfl | rfl
  · exact ⟨Try.underlying3, Try.isAgg3, Try.sizeOf3, ⟨Try.t3, _, by kernel_rfl, rfl, rfl, rfl, rfl⟩, fun z hz => by injection hz with hz; subst hz; exact Try.zeroValue3⟩
  · exact ⟨Try.underlying4, Try.isAgg4, Try.sizeOf4, ⟨Try.t4, _, by kernel_rfl, rfl, rfl, rfl, rfl⟩, fun z hz => by cases hz⟩
  · exact ⟨Try.underlying5, Try.isAgg5, Try.sizeOf5, ⟨Try.t5, _, by kernel_rfl, rfl, rfl, rfl, rfl⟩, fun z hz => by injection hz with hz; subst hz; exact Try.zeroValue5⟩
  · exact ⟨Try.underlying9, Try.isAgg9, Try.sizeOf9, ⟨Try.t9, _, by kernel_rfl, rfl, rfl, rfl, rfl⟩, fun z hz => by cases hz⟩
  · exact ⟨Try.underlying22, Try.isAgg22, Try.sizeOf22, ⟨Try.t22, _, by kernel_rfl, rfl, rfl, rfl, rfl⟩, fun z hz => by cases hz⟩
  · exact ⟨Try.underlying23, Try.isAgg23, Try.sizeOf23, ⟨Try.t23, _, by kernel_rfl, rfl, rfl, rfl, rfl⟩, fun z hz => by injection hz with hz; subst hz; exact Try.zeroValue23⟩
  · exact ⟨Try.underlying24, Try.isAgg24, Try.sizeOf24, ⟨Try.t24, _, by kernel_rfl, rfl, rfl, rfl, rfl⟩, fun z hz => by injection hz with hz; subst hz; exact Try.zeroValue24⟩
  · exact ⟨Try.underlying26, Try.isAgg26, Try.sizeOf26, ⟨Try.t26, _, by kernel_rfl, rfl, rfl, rfl, rfl⟩, fun z hz => by injection hz with hz; subst hz; exact Try.zeroValue26⟩
  · exact ⟨Try.underlying45, Try.isAgg45, Try.sizeOf45, ⟨Try.t45, _, by kernel_rfl, rfl, rfl, rfl, rfl⟩, fun z hz => by cases hz⟩
  · exact ⟨Try.underlying47, Try.isAgg47, Try.sizeOf47, ⟨Try.t47, _, by kernel_rfl, rfl, rfl, rfl, rfl⟩, fun z hz => by cases hz⟩
  · exact ⟨Try.underlying49, Try.isAgg49, Try.sizeOf49, ⟨Try.t49, _, by kernel_rfl, rfl, rfl, rfl, rfl⟩, fun z hz => by injection hz with hz; subst hz; exact Try.zeroValue49⟩
  · exact ⟨Try.underlying51, Try.isAgg51, Try.sizeOf51, ⟨Try.t51, _, by kernel_rfl, rfl, rfl, rfl, rfl⟩, fun z hz => by cases hz⟩
  · exact ⟨Try.underlying53, Try.isAgg53, Try.sizeOf53, ⟨Try.t53, _, by kernel_rfl, rfl, rfl, rfl, rfl⟩, fun z hz => by injection hz with hz; subst hz; exact Try.zeroValue53⟩
theorem MO : Try.prog.follows .mixedOrders = true := by kernel_rfl
end V
end Go.Proofs.Ytfdiabglpgkbeaa
