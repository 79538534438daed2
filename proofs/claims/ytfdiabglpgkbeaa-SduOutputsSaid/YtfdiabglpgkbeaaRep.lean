/-
  Readings of the structs, and closed facts on the program.
-/
import Derived.Test.YtfdiabglpgkbeaaDraw
import Derived.Test.YtfdiabglpgkbeaaFn
import Derived.Test.YtfdiabglpgkbeaaProg
import Derived.KernelRfl
namespace Go.Proofs.Ytfdiabglpgkbeaa
namespace V
def R_T_api_Channel : RT T_api_Channel := fun U w cs x => ∃ (A0 : Option Addr) (k0 : Nat) (A2 : Option Addr) (k2 : Nat), cs = [.int .u16 x.Local, .int .u16 x.Remote, .int .u16 x.PSM, .int .i64 x.MTU, .int .i64 x.MPS, .int .i64 x.PeerMTU, .int .i64 x.PeerMPS, .int .i64 x.TxCredits, .int .i64 x.RxCredits, .int .i64 x.Given, .slice A0 (List.length x.Out) k0, .int .i64 x.Sent, .slice A2 (List.length x.In) k2, .int .i64 x.Want, .bool x.Failed] ∧ Sl 1 (RSl 1 (RInt .u8)) U w A0 k0 x.Out ∧ Sl 1 (RInt .u8) U w A2 k2 x.In
instance : GRep R_T_api_Channel := ⟨fun h h1 h2 => by
    obtain ⟨A0, k0, A2, k2, rfl, q0, q1⟩ := h
    exact ⟨A0, k0, A2, k2, rfl, q0.step h1 h2, q1.step h1 h2⟩,
  fun h u hu => by
    obtain ⟨A0, k0, A2, k2, rfl, _, _⟩ := h
    simp only [List.mem_cons, List.not_mem_nil, or_false] at hu
    rcases hu with rfl | rfl | rfl | rfl | rfl | rfl | rfl | rfl | rfl | rfl | rfl | rfl | rfl | rfl | rfl
    all_goals rfl⟩

theorem I5 : Try.prog.info? 5 = some Try.t5 := by kernel_rfl
theorem MO : Try.prog.follows .mixedOrders = true := by kernel_rfl
theorem I22 : Try.prog.info? 22 = some Try.t22 := by kernel_rfl
theorem FA26_0 : FieldAt Try.prog 26 0 0 := fieldAt_of (i := Try.t22) Try.underlying26 rfl I22 (by decide) rfl
theorem FA26_1 : FieldAt Try.prog 26 1 1 := fieldAt_of (i := Try.t22) Try.underlying26 rfl I22 (by decide) rfl
theorem FA26_2 : FieldAt Try.prog 26 2 2 := fieldAt_of (i := Try.t22) Try.underlying26 rfl I22 (by decide) rfl
theorem I3 : Try.prog.info? 3 = some Try.t3 := by kernel_rfl
theorem FA26_3 : FieldAt Try.prog 26 3 3 := fieldAt_of (i := Try.t3) Try.underlying26 rfl I3 (by decide) rfl
theorem FA26_4 : FieldAt Try.prog 26 4 4 := fieldAt_of (i := Try.t3) Try.underlying26 rfl I3 (by decide) rfl
theorem FA26_5 : FieldAt Try.prog 26 5 5 := fieldAt_of (i := Try.t3) Try.underlying26 rfl I3 (by decide) rfl
theorem FA26_6 : FieldAt Try.prog 26 6 6 := fieldAt_of (i := Try.t3) Try.underlying26 rfl I3 (by decide) rfl
theorem FA26_7 : FieldAt Try.prog 26 7 7 := fieldAt_of (i := Try.t3) Try.underlying26 rfl I3 (by decide) rfl
theorem FA26_8 : FieldAt Try.prog 26 8 8 := fieldAt_of (i := Try.t3) Try.underlying26 rfl I3 (by decide) rfl
theorem FA26_9 : FieldAt Try.prog 26 9 9 := fieldAt_of (i := Try.t3) Try.underlying26 rfl I3 (by decide) rfl
theorem FA26_11 : FieldAt Try.prog 26 11 11 := fieldAt_of (i := Try.t3) Try.underlying26 rfl I3 (by decide) rfl
theorem FA26_13 : FieldAt Try.prog 26 13 13 := fieldAt_of (i := Try.t3) Try.underlying26 rfl I3 (by decide) rfl
theorem I4 : Try.prog.info? 4 = some Try.t4 := by kernel_rfl
theorem FA26_14 : FieldAt Try.prog 26 14 14 := fieldAt_of (i := Try.t4) Try.underlying26 rfl I4 (by decide) rfl
theorem I23 : Try.prog.info? 23 = some Try.t23 := by kernel_rfl
theorem FA26_10 : FieldAt Try.prog 26 10 10 := fieldAt_of (i := Try.t23) Try.underlying26 rfl I23 (by decide) rfl
theorem I24 : Try.prog.info? 24 = some Try.t24 := by kernel_rfl
theorem FA26_12 : FieldAt Try.prog 26 12 12 := fieldAt_of (i := Try.t24) Try.underlying26 rfl I24 (by decide) rfl
theorem PL26 : ∀ fs, some (TypeDesc.struct fs.toArray) = Try.prog.underlying 26 → PlOf Try.prog fs = some [(0, 1), (1, 1), (2, 1), (3, 1), (4, 1), (5, 1), (6, 1), (7, 1), (8, 1), (9, 1), (10, 1), (11, 1), (12, 1), (13, 1), (14, 1)] := fun fs h => by
  rw [Try.underlying26] at h
  injection h with h
  injection h with h
  have h : fs = _ := congrArg Array.toList h
  subst h
  show PlOf _ _ = _
  kernel_rfl
end V
end Go.Proofs.Ytfdiabglpgkbeaa
