/-
  The check of an end.
-/
import Derived.Test.YtfdiabglpgkbeaaLoop
import Derived.Test.YtfdiabglpgkbeaaFn
import Derived.KernelRfl
namespace Go.Proofs.Ytfdiabglpgkbeaa
namespace V
theorem ite_some {α : Type} (c : Prop) [Decidable c] (a b : α) : (if c then some a else some b) = some (if c then a else b) := by split <;> rfl
def FF : Nat := 1048576
theorem ex_holds : wirelesslaw33_exampleHolds FF = some true := by kernel_rfl

/-- An end's lengths are lengths of memory. -/
def GCh (c : T_api_Channel) : Prop := (c.Out.length : Int) ≤ 140737488351232 ∧ (c.In.length : Int) ≤ 140737488351232 ∧ ∀ s ∈ c.Out, (s.length : Int) ≤ 140737488351232
def sizeOk (n : Int) : Bool := decide (n ≥ 23) && decide (n ≤ 4096)
def countOk (n : Int) : Bool := decide (n ≥ 0) && decide (n ≤ 65535)
def lastOf (c : T_api_Channel) : Int := match c.Out with | [] => 0 | s :: _ => 1 + s.length
def posOf (c : T_api_Channel) : Int :=
  if (c.Sent < 0 ∨ c.Sent > lastOf c ∨ c.Want < -1 ∨ c.Want > c.MTU) ∨ (c.Want = -1 ∧ c.In.length > 0) ∨ (c.Want ≥ 0 ∧ (c.In.length : Int) ≥ c.Want) then 1 else 0
/-- What Check answers. -/
def chk (c : T_api_Channel) : Int :=
  if c.Local < 64 ∨ c.Local > 127 ∨ c.Remote < 64 ∨ c.Remote > 127 then 5
  else if c.PSM = 0 then 1
  else if (sizeOk c.MTU && sizeOk c.MPS && sizeOk c.PeerMTU && sizeOk c.PeerMPS && countOk c.TxCredits && countOk c.RxCredits && countOk c.Given) = false then 5
  else if c.Out.length > 64 then 4
  else if c.Out.any (fun s => decide ((s.length : Int) > c.PeerMTU)) = true then 4
  else posOf c

def posAt (c : T_api_Channel) (last : Int) : Int :=
  if (c.Sent < 0 ∨ c.Sent > last ∨ c.Want < -1 ∨ c.Want > c.MTU) ∨ (c.Want = -1 ∧ c.In.length > 0) ∨ (c.Want ≥ 0 ∧ (c.In.length : Int) ≥ c.Want) then 1 else 0
theorem ref_pos2 (F : Nat) (c : T_api_Channel) (x : Int) : wirelessref33_Check_j2 F c x = some (posAt c x) := by
  unfold wirelessref33_Check_j2 posAt
  simp only [Bool.or_eq_true, Bool.and_eq_true, decide_eq_true_eq, beq_iff_eq]
  have hl := len_nat c.In
  by_cases h1 : ((c.Sent < 0 ∨ c.Sent > x) ∨ c.Want < -1) ∨ c.Want > c.MTU
  · rw [if_pos h1, if_pos (by omega)]
  · rw [if_neg h1]
    by_cases h2 : c.Want = -1 ∧ len c.In > 0 ∨ c.Want ≥ 0 ∧ len c.In ≥ c.Want
    · rw [if_pos h2, if_pos (by omega)]
    · rw [if_neg h2, if_neg (by omega)]
theorem idx_zero {α : Type} (x : α) (l : List α) : idx (x :: l) 0 = some x := rfl
theorem ref_pos (F : Nat) (c : T_api_Channel) (h : GCh c) : wirelessref33_Check_j1 F c = some (posAt c (lastOf c)) := by
  obtain ⟨h1, h2, h3⟩ := h
  unfold wirelessref33_Check_j1 lastOf
  cases ho : c.Out with
  | nil => exact ref_pos2 F c 0
  | cons s r =>
    have := h3 s (by simp [ho])
    rw [if_pos (by simp [len] <;> omega), idx_zero]
    have e : w64 (1 + len s) = 1 + s.length := by rw [w64_id] <;> simp only [len] <;> omega
    simp only [Option.bind_some, e, ref_pos2]
theorem ref_loop (F : Nat) (c : T_api_Channel) (hF : c.Out.length < F) (h : GCh c) : iter (fun s => wirelessref33_Check_l1 F c s) F 0 = some (if c.Out.any (fun s => decide ((s.length : Int) > c.PeerMTU)) = true then .inr 4 else .inl ()) := by
  have := iter_any (body := fun s => wirelessref33_Check_l1 F c s) (l := c.Out) (p := fun s => decide ((s.length : Int) > c.PeerMTU)) (o := .inr 4) (e := .inl ()) (fun i x hx => by
    have hlt := (List.getElem?_eq_some_iff.1 hx).1
    have := h.1
    show wirelessref33_Check_l1 F c i = _
    unfold wirelessref33_Check_l1 wirelessref33_Check_j3
    rw [if_pos (by simp [len] <;> omega), idx_nat, hx]
    simp only [Option.bind_some, w64_nat i (by omega)]
    exact ite_some _ _ _) (by
    show wirelessref33_Check_l1 F c _ = _
    unfold wirelessref33_Check_l1
    rw [if_neg (by simp [len])]) F 0 (by omega) (by omega)
  simpa using this
theorem or_some (x y : Bool) : (if x = true then some true else some y) = some (x || y) := by cases x <;> rfl
theorem ref_check (F : Nat) (c : T_api_Channel) (hF : 100 < F) (h : GCh c) : wirelessref33_Check F c = some (chk c) := by
  unfold wirelessref33_Check chk wirelessref33_isCID wirelessref33_isSize wirelessref33_isCount
  simp only [Option.bind_some, or_some]
  by_cases h1 : c.Local < 64 ∨ c.Local > 127 ∨ c.Remote < 64 ∨ c.Remote > 127
  · rw [if_pos (by simp; omega), if_pos h1]
  rw [if_neg (by simp; omega), if_neg h1]
  by_cases h2 : c.PSM = 0
  · rw [if_pos (by simpa using h2), if_pos h2]
  rw [if_neg (by simpa using h2), if_neg h2]
  by_cases h3 : (sizeOk c.MTU && sizeOk c.MPS && sizeOk c.PeerMTU && sizeOk c.PeerMPS && countOk c.TxCredits && countOk c.RxCredits && countOk c.Given) = false
  · rw [if_pos (by unfold sizeOk countOk at h3; simp at h3 ⊢; omega), if_pos h3]
  rw [if_neg (by unfold sizeOk countOk at h3; simp at h3 ⊢; omega), if_neg h3]
  by_cases h4 : c.Out.length > 64
  · rw [if_pos (by simp [len]; omega), if_pos h4]
  rw [if_neg (by simp [len]; omega), if_neg h4, ref_loop F c (by omega) h]
  by_cases h5 : c.Out.any (fun s => decide ((s.length : Int) > c.PeerMTU)) = true
  · rw [if_pos h5, if_pos h5]; rfl
  · rw [if_neg h5, if_neg h5]
    exact ref_pos F c h
end V
end Go.Proofs.Ytfdiabglpgkbeaa
