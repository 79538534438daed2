/-
  Each argument type opened.
-/
import Derived.Test.YtojcklkcjnnkaaaDoorArrO
namespace Go.Proofs.YtojcklkcjnnkaaaDoor
namespace V
open Go.ChangeShapes Go.WideShapes Go.ChangeAt Go.RowKit Go.Deep
theorem own : ownKnob Tryd.prog.godebug = none := by kernel_rfl
theorem laidOut : laidOutB Tryd.prog = true := by kernel_rfl
theorem opens_t22 : Opens Tryd.prog 22 1 (RSl 1 R8) (GAll (GInt .u8)) := opens_slice Tryd.underlying22 (by kernel_rfl) (by kernel_rfl) (opens_int Tryd.underlying5)
def RA_23 : RT ((List Int) × (List Int)) := fun U w cs x => ∃ (A0 : Option Addr) (k0 : Nat) (A1 : Option Addr) (k1 : Nat), cs = [.slice A0 (List.length x.1) k0, .slice A1 (List.length x.2) k1] ∧ Sl 1 R8 U w A0 k0 x.1 ∧ Sl 1 R8 U w A1 k1 x.2
def GA_23 (x : ((List Int) × (List Int))) : Prop := (GAll (GInt .u8)) x.1 ∧ (GAll (GInt .u8)) x.2
theorem opens_t23 : Opens Tryd.prog 23 2 RA_23 GA_23 := fun {H enc w fuel cs x} h hw => by
  obtain ⟨hl, hf⟩ := array_at Tryd.underlying23 h hw
  have hl : cs.length = 2 := hl.trans (by kernel_rfl)
  obtain ⟨d0, r0, g0⟩ := array_elem opens_t22 hf 0 0 1 (by decide) (by kernel_rfl) rfl
  obtain ⟨d1, r1, g1⟩ := array_elem opens_t22 hf 1 1 1 (by decide) (by kernel_rfl) rfl
  clear h hw hf
  match cs, hl with
  | [c0, c1], _ =>
    obtain ⟨A0, k0, s0, f0⟩ := r0
    have e0 : c0 = Value.slice A0 (List.length d0) k0 := one1 (l := [c0]) (m := [Value.slice A0 (List.length d0) k0]) 0 s0
    obtain ⟨A1, k1, s1, f1⟩ := r1
    have e1 : c1 = Value.slice A1 (List.length d1) k1 := one1 (l := [c1]) (m := [Value.slice A1 (List.length d1) k1]) 0 s1
    subst e0 e1
    exact ⟨rfl, ⟨d0, d1⟩, ⟨A0, k0, A1, k1, rfl, f0, f1⟩, g0, g1⟩
instance : Inhabited T_api_Flash := ⟨⟨default⟩⟩
def G_T_api_Flash (c : T_api_Flash) : Prop := GA_23 c.Banks
theorem opens_t25 : Opens Tryd.prog 25 2 R_T_api_Flash G_T_api_Flash := fun {H enc w fuel cs x} h hw => by
  obtain ⟨hl, hf⟩ := struct_at Tryd.underlying25 h hw
  have hl : cs.length = 2 := hl.trans (by kernel_rfl)
  refine ⟨hl, ?_⟩
  obtain ⟨d0, r0, g0⟩ := struct_field opens_t23 hf 0 0 2 rfl (by kernel_rfl)
  obtain ⟨c0, c1, rfl⟩ : ∃ c0 c1, cs = [c0, c1] := by
    clear h hw hf r0 g0
    match cs, hl with
    | [c0, c1], _ => exact ⟨c0, c1, rfl⟩
  obtain ⟨A0_0, k0_0, A0_1, k0_1, r0, f0_0, f0_1⟩ := r0
  have e0 : c0 = Value.slice A0_0 (List.length d0.1) k0_0 := one1 (l := [c0, c1]) (m := [Value.slice A0_0 (List.length d0.1) k0_0, Value.slice A0_1 (List.length d0.2) k0_1]) 0 r0
  have e1 : c1 = Value.slice A0_1 (List.length d0.2) k0_1 := one1 (l := [c0, c1]) (m := [Value.slice A0_0 (List.length d0.1) k0_0, Value.slice A0_1 (List.length d0.2) k0_1]) 1 r0
  subst e0 e1
  exact ⟨⟨d0⟩, ⟨A0_0, k0_0, A0_1, k0_1, rfl, f0_0, f0_1⟩, g0⟩
end V
end Go.Proofs.YtojcklkcjnnkaaaDoor
