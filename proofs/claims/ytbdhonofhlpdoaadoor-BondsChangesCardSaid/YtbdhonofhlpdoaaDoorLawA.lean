/-
  Addresses and bonds: what the checks answer; copies; equality.
-/
import Derived.Test.YtbdhonofhlpdoaaDoorLawN
namespace Go.Proofs.YtbdhonofhlpdoaaDoor
namespace V
theorem ofInt_nat (w a : Nat) (h : a < 2 ^ w) : (BitVec.ofInt w (a : Int)).toNat = a := by
  rw [BitVec.toNat_ofInt]
  have : ((a : Int) % ((2 ^ w : Nat) : Int)).toNat = a := by
    rw [← Int.natCast_emod, Int.toNat_natCast, Nat.mod_eq_of_lt h]
  exact this
theorem iand_mask (x : Int) (k : Nat) (m : Nat) (hm : m = 2 ^ k - 1) (hk : k ≤ 63) (h0 : 0 ≤ x) (h1 : x < 18446744073709551616) : iand .u64 x (m : Int) = x % ((m + 1 : Nat) : Int) := by
  obtain ⟨a, rfl⟩ := Int.eq_ofNat_of_zero_le h0
  have hp : (2 : Nat) ^ k ≤ 2 ^ 63 := Nat.pow_le_pow_right (by decide) hk
  have hpos : 0 < (2 : Nat) ^ k := Nat.pow_pos (by decide)
  have hm1 : m + 1 = 2 ^ k := by omega
  unfold iand
  have e : (BitVec.ofInt IntKind.u64.bits (a : Int) &&& BitVec.ofInt IntKind.u64.bits (m : Int)).toNat = a % (m + 1) := by
    rw [BitVec.toNat_and]
    show (BitVec.ofInt 64 (a : Int)).toNat &&& (BitVec.ofInt 64 (m : Int)).toNat = _
    rw [ofInt_nat 64 a (by omega), ofInt_nat 64 m (by omega), hm, Nat.and_two_pow_sub_one_eq_mod, show 2 ^ k - 1 + 1 = 2 ^ k by omega]
  have hlt : a % (m + 1) < m + 1 := Nat.mod_lt _ (by omega)
  rw [e, wrap_u64, wu64_id (by omega) (by omega)]
  omega
theorem shrp_div (x : Int) (n : Nat) : shrp x n = x / 2 ^ n := by
  unfold shrp
  exact Int.fdiv_eq_ediv_of_nonneg _ (Int.le_of_lt (Int.pow_pos (by decide)))
theorem mask22 (F : Nat) : address_mask F 22 = some 4194303 := by kernel_rfl
theorem mask46 (F : Nat) : address_mask F 46 = some 70368744177663 := by kernel_rfl
/-- What the checks of an address answer. -/
def chkA (a : T_api_Address) : Int :=
  if a.Kind ≤ 0 ∨ a.Kind ≥ 5 then 12
  else if a.Bits ≥ 281474976710656 then 5
  else if a.Kind = 1 then 0
  else if a.Kind = 3 then (if a.Bits / 70368744177664 ≠ 1 ∨ a.Bits % 70368744177664 / 16777216 = 0 ∨ a.Bits % 70368744177664 / 16777216 = 4194303 then 1 else 0)
  else (if a.Bits / 70368744177664 ≠ (if a.Kind = 2 then 3 else 0) ∨ a.Bits % 70368744177664 = 0 ∨ a.Bits % 70368744177664 = 70368744177663 then 1 else 0)
def U64 (x : Int) : Prop := 0 ≤ x ∧ x < 18446744073709551616
theorem j1_ite (p : Prop) [Decidable p] (b : Bool) (hb : b = true ↔ p) : (if b = true then some (1 : Int) else some 0) = some (if p then 1 else 0) := by
  by_cases h : p
  · rw [if_pos (hb.2 h), if_pos h]
  · rw [if_neg (fun e => h (hb.1 e)), if_neg h]
theorem ucheck (F : Nat) (a : T_api_Address) (h : U64 a.Bits) : address_Check F a = some (chkA a) := by
  obtain ⟨h0, h1⟩ := h
  unfold address_Check chkA
  have e48 : shrp a.Bits 48 = a.Bits / 281474976710656 := shrp_div _ 48
  have e46 : shrp a.Bits 46 = a.Bits / 70368744177664 := shrp_div _ 46
  have e24 : shrp a.Bits 24 = a.Bits / 16777216 := shrp_div _ 24
  by_cases c1 : a.Kind ≤ 0 ∨ a.Kind ≥ 5
  · rw [if_pos (by simpa using c1), if_pos c1]
  rw [if_neg (by simpa using c1), if_neg c1, e48, e46]
  by_cases c2 : a.Bits ≥ 281474976710656
  · rw [if_pos (by simp; omega), if_pos c2]
  rw [if_neg (by simp; omega), if_neg c2]
  by_cases c3 : a.Kind = 1
  · rw [if_pos (by simpa using c3), if_pos c3]
  rw [if_neg (by simpa using c3), if_neg c3]
  unfold address_part address_part_j1 address_part_j2 address_Check_j1
  by_cases c4 : a.Kind = 3
  · have i22 : iand .u64 (a.Bits / 16777216) 4194303 = a.Bits / 16777216 % 4194304 := iand_mask _ 22 4194303 (by decide) (by decide) (by omega) (by omega)
    have e : a.Bits / 16777216 % 4194304 = a.Bits % 70368744177664 / 16777216 := by omega
    rw [if_pos (by simpa using c4), if_pos c4, mask22, Option.bind_some, e24, i22, e, Option.bind_some, c4, show idx [(0 : Int), 0, 3, 1, 0] 3 = some 1 from rfl, Option.bind_some, if_pos rfl]
    simp only
    by_cases c5 : a.Bits / 70368744177664 ≠ 1 ∨ a.Bits % 70368744177664 / 16777216 = 0
    · rw [if_pos (by simpa using c5), if_pos (by omega)]
    · rw [if_neg (by simpa using c5), mask22, Option.bind_some]
      exact j1_ite _ _ (by simp; omega)
  · have i46 : iand .u64 a.Bits 70368744177663 = a.Bits % 70368744177664 := iand_mask _ 46 70368744177663 (by decide) (by decide) (by omega) (by omega)
    rw [if_neg (by simpa using c4), if_neg c4, mask46, Option.bind_some, i46, Option.bind_some]
    have c5 : a.Kind = 2 ∨ a.Kind = 4 := by omega
    have key : ∀ pre : Int, idx [(0 : Int), 0, 3, 1, 0] a.Kind = some pre → (if a.Kind = 2 then (3 : Int) else 0) = pre → ((idx [(0 : Int), 0, 3, 1, 0] a.Kind).bind fun x_6 => if ((a.Bits / 70368744177664 != x_6) || ((a.Bits % 70368744177664, (46 : Int)).fst == 0)) = true then (if (true : Bool) = true then some (1 : Int) else some 0) else (address_mask F (a.Bits % 70368744177664, (46 : Int)).snd).bind fun x_8 => if ((a.Bits % 70368744177664, (46 : Int)).fst == x_8) = true then some 1 else some 0) = some (if a.Bits / 70368744177664 ≠ (if a.Kind = 2 then 3 else 0) ∨ a.Bits % 70368744177664 = 0 ∨ a.Bits % 70368744177664 = 70368744177663 then 1 else 0) := by
      intro pre k1 k2
      rw [k1, k2, Option.bind_some]
      by_cases c6 : a.Bits / 70368744177664 ≠ pre ∨ a.Bits % 70368744177664 = 0
      · rw [if_pos (by simpa using c6), if_pos rfl, if_pos (by omega)]
      · rw [if_neg (by simpa using c6), mask46, Option.bind_some]
        exact j1_ite _ _ (by simp; omega)
    rcases c5 with c5 | c5
    · exact key 3 (by rw [c5]; rfl) (by rw [if_pos c5])
    · exact key 0 (by rw [c5]; rfl) (if_neg (by omega))
theorem rcheck (F : Nat) (a : T_api_Address) (h : U64 a.Bits) : wirelessref08_Check F a = some (chkA a) := by
  obtain ⟨h0, h1⟩ := h
  unfold wirelessref08_Check chkA
  have eq46 : quop .u64 a.Bits 70368744177664 = a.Bits / 70368744177664 := by
    unfold quop
    rw [Int.tdiv_eq_ediv_of_nonneg h0, wrap_u64, wu64_id (by omega) (by omega)]
  have er46 : remp a.Bits 70368744177664 = a.Bits % 70368744177664 := Int.tmod_eq_emod_of_nonneg h0
  have eq24 : quop .u64 (a.Bits % 70368744177664) 16777216 = a.Bits % 70368744177664 / 16777216 := by
    unfold quop
    rw [Int.tdiv_eq_ediv_of_nonneg (by omega), wrap_u64, wu64_id (by omega) (by omega)]
  by_cases c1 : a.Kind ≤ 0 ∨ a.Kind ≥ 5
  · rw [if_pos (by simp; omega), if_pos c1]
  rw [if_neg (by simp; omega), if_neg c1]
  by_cases c2 : a.Bits ≥ 281474976710656
  · rw [if_pos (by simpa using c2), if_pos c2]
  rw [if_neg (by simpa using c2), if_neg c2]
  by_cases c3 : a.Kind = 1
  · rw [if_pos (by simpa using c3), if_pos c3]
  rw [if_neg (by simpa using c3), if_neg c3, er46, eq24]
  unfold wirelessref08_Check_j1 wirelessref08_prefix wirelessref08_Check_j2
  rw [eq46]
  by_cases c4 : a.Kind = 3
  · rw [if_pos (by simpa using c4), if_pos c4, if_neg (by simp; omega), if_pos (by simpa using c4), Option.bind_some]
    exact j1_ite _ _ (by simp [or_assoc])
  · rw [if_neg (by simpa using c4), if_neg c4]
    by_cases c5 : a.Kind = 2
    · rw [if_pos (by simpa using c5), Option.bind_some, if_pos c5]
      exact j1_ite _ _ (by simp [or_assoc])
    · rw [if_neg (by simpa using c5), if_neg (by simpa using c4), Option.bind_some, if_neg c5]
      exact j1_ite _ _ (by simp [or_assoc])
/-! ### Bonds -/
theorem check_same (F : Nat) (b : T_api_Bond) (h : U64 b.Peer.Address.Bits) : bonds_Check F b = wirelessref40_Check F b := by
  unfold bonds_Check wirelessref40_Check
  rw [ucheck F _ h, rcheck F _ h]
  rfl
def okSub (s : T_api_Subscription) : Prop := s.Handle ≠ 0 ∧ 0 ≤ s.Bits ∧ s.Bits ≤ 3
/-- Subscriptions in order. -/
def SubsOk (l : List T_api_Subscription) : Prop := ∀ (i : Nat) s, l[i]? = some s → okSub s ∧ ∀ (j : Nat) p, i = j + 1 → l[j]? = some p → p.Handle < s.Handle
/-- A valid bond. -/
structure VB (b : T_api_Bond) : Prop where
  adr : chkA b.Peer.Address = 0
  kind : b.Peer.Address.Kind = 1 ∨ b.Peer.Address.Kind = 2
  used : 0 ≤ b.Used ∧ b.Used ≤ 4294967295
  few : b.Subs.length ≤ 16
  subs : SubsOk b.Subs
theorem subs_loop (F : Nat) (b : T_api_Bond) (hF : 2000 < F) (hl : b.Subs.length ≤ 1000) : ∃ o, iter (fun s => wirelessref40_Check_l1 F b s) F 0 = some o ∧ ((o = .inl () ∧ SubsOk b.Subs) ∨ ∃ e, o = .inr e ∧ e ≠ 0 ∧ ¬ SubsOk b.Subs) := by
  refine iter_by (body := fun s => wirelessref40_Check_l1 F b s) (fun s => ∃ i : Nat, s = i ∧ i ≤ b.Subs.length ∧ ∀ (q : Nat) s, q < i → b.Subs[q]? = some s → okSub s ∧ ∀ (j : Nat) p, q = j + 1 → b.Subs[j]? = some p → p.Handle < s.Handle) _ (fun s => (1000 - s).toNat) (fun s hs => ?_) F 0 ⟨0, rfl, by omega, fun q s h => by omega⟩ (by simp; omega)
  obtain ⟨i, rfl, hi, hall⟩ := hs
  show (∃ s', wirelessref40_Check_l1 F b _ = _ ∧ _) ∨ ∃ o, wirelessref40_Check_l1 F b _ = _ ∧ _
  unfold wirelessref40_Check_l1 wirelessref40_Check_j2
  have hn := len_nat b.Subs
  by_cases hc : i < b.Subs.length
  · have hx : b.Subs[i]? = some b.Subs[i] := List.getElem?_eq_getElem hc
    rw [if_pos (by rw [decide_eq_true_eq]; omega), idx_nat, hx, Option.bind_some]
    by_cases h1 : okSub b.Subs[i]
    · have h1' := h1
      unfold okSub at h1
      rw [if_neg (by simp; omega)]
      by_cases h0 : i = 0
      · subst h0
        rw [if_neg (by simp), if_neg (by decide), w64_nat 0 (by omega)]
        refine .inl ⟨_, rfl, ⟨1, rfl, by omega, fun q s hq hs => ?_⟩, by omega⟩
        have : q = 0 := by omega
        subst this
        rw [hx] at hs
        injection hs with hs
        subst hs
        exact ⟨h1', fun j p hj => by omega⟩
      · have hx2 : b.Subs[i - 1]? = some b.Subs[i - 1] := List.getElem?_eq_getElem (by omega)
        rw [if_pos (by simp; omega), w64_id (by omega) (by omega), show ((i : Int) - 1) = ((i - 1 : Nat) : Int) by omega, idx_nat, hx2, Option.bind_some]
        by_cases h2 : b.Subs[i].Handle ≤ b.Subs[i - 1].Handle
        · rw [if_pos (by simpa using h2)]
          refine .inr ⟨_, rfl, .inr ⟨_, rfl, by decide, fun hS => ?_⟩⟩
          have := (hS i _ hx).2 (i - 1) _ (by omega) hx2
          omega
        · rw [if_neg (by simpa using h2), w64_nat i (by omega)]
          refine .inl ⟨_, rfl, ⟨i + 1, rfl, by omega, fun q s hq hs => ?_⟩, by omega⟩
          by_cases hqi : q < i
          · exact hall q s hqi hs
          · have : q = i := by omega
            subst this
            rw [hx] at hs
            injection hs with hs
            subst hs
            refine ⟨h1', fun j p hj hp => ?_⟩
            rw [show j = q - 1 by omega, hx2] at hp
            injection hp with hp
            subst hp
            omega
    · rw [if_pos (by unfold okSub at h1; simp; omega)]
      exact .inr ⟨_, rfl, .inr ⟨_, rfl, by decide, fun hS => h1 (hS i _ hx).1⟩⟩
  · rw [if_neg (by rw [decide_eq_true_eq]; omega)]
    have : i = b.Subs.length := by omega
    refine .inr ⟨_, rfl, .inl ⟨rfl, fun q s hs => hall q s (by have := (List.getElem?_eq_some_iff.1 hs).1; omega) hs⟩⟩
theorem check_ok (F : Nat) (b : T_api_Bond) (hF : 2000 < F) (h : U64 b.Peer.Address.Bits) : ∃ e, wirelessref40_Check F b = some e ∧ (e = 0 ↔ VB b) := by
  unfold wirelessref40_Check
  rw [rcheck F _ h, Option.bind_some]
  by_cases h1 : chkA b.Peer.Address = 0
  · rw [if_neg (by simpa using h1)]
    by_cases h2 : b.Peer.Address.Kind = 1 ∨ b.Peer.Address.Kind = 2
    · rw [if_neg (by simp; omega)]
      by_cases h3 : 0 ≤ b.Used ∧ b.Used ≤ 4294967295
      · rw [if_neg (by simp; omega)]
        have hn := len_nat b.Subs
        by_cases h4 : b.Subs.length ≤ 16
        · rw [if_neg (by simp; omega)]
          obtain ⟨o, k1, k2⟩ := subs_loop F b hF (by omega)
          rw [k1, Option.bind_some]
          rcases k2 with ⟨rfl, k2⟩ | ⟨e, rfl, k2, k3⟩
          · exact ⟨0, rfl, fun _ => ⟨h1, h2, h3, h4, k2⟩, fun _ => rfl⟩
          · exact ⟨e, rfl, fun h => absurd h k2, fun h => absurd h.subs k3⟩
        · rw [if_pos (by simp; omega)]
          exact ⟨4, rfl, fun h => (by cases h), fun h => absurd h.few h4⟩
      · rw [if_pos (by simp; omega)]
        exact ⟨5, rfl, fun h => (by cases h), fun h => absurd h.used h3⟩
    · rw [if_pos (by simp; omega)]
      exact ⟨12, rfl, fun h => (by cases h), fun h => absurd h.kind h2⟩
  · rw [if_pos (by simpa using h1)]
    exact ⟨_, rfl, fun h => absurd h h1, fun h => absurd h.adr h1⟩
theorem copy_ok (F : Nat) (l : List T_api_Bond) (hF : 2000 < F) (hl : l.length ≤ 1000) (hs : ∀ b ∈ l, b.Subs.length ≤ 1000) : wirelessref40_Copy F l = some l := by
  unfold wirelessref40_Copy wirelessref40_Copy_j1
  have := iter_count (body := fun s : List T_api_Bond × Int => wirelessref40_Copy_l1 F l s.1 s.2) (fun i => (l.take i, (i : Int))) l.length l (fun i hi => by
    have hx : l[i]? = some l[i] := List.getElem?_eq_getElem hi
    have hm := hs _ (List.getElem_mem hi)
    show wirelessref40_Copy_l1 F l _ _ = _
    unfold wirelessref40_Copy_l1
    rw [if_pos (by simp [len]; omega), idx_nat, hx, Option.bind_some, app_small (by simp; omega) (by omega), Option.bind_some, List.nil_append, app_small (by simp; omega) (by omega), Option.bind_some, w64_nat i (by omega)]
    have : l.take i ++ [l[i]] = l.take (i + 1) := by rw [List.take_add_one, hx]; rfl
    rw [this]) (by
    show wirelessref40_Copy_l1 F l _ _ = _
    unfold wirelessref40_Copy_l1
    rw [if_neg (by simp [len]), List.take_length]) F 0 (by omega) (by omega)
  rw [List.take_zero, show ((0 : Nat) : Int) = 0 from rfl] at this
  rw [this]
  rfl
theorem same_bond (F : Nat) (b : T_api_Bond) (hF : 2000 < F) (hs : b.Subs.length ≤ 1000) : wirelessref40_SameBond F b b = some true := by
  unfold wirelessref40_SameBond wirelessref40_SameBond_j1
  rw [if_neg (by simp)]
  have := iter_count (body := fun s => wirelessref40_SameBond_l1 F b b s) (fun i => (i : Int)) b.Subs.length (.inl ()) (fun i hi => by
    have hx : b.Subs[i]? = some b.Subs[i] := List.getElem?_eq_getElem hi
    show wirelessref40_SameBond_l1 F b b _ = _
    unfold wirelessref40_SameBond_l1 wirelessref40_SameBond_j2
    rw [if_pos (by simp [len]; omega), idx_nat, hx, Option.bind_some, Option.bind_some, if_neg (by simp), w64_nat i (by omega)]) (by
    show wirelessref40_SameBond_l1 F b b _ = _
    unfold wirelessref40_SameBond_l1
    rw [if_neg (by simp [len])]) F 0 (by omega) (by omega)
  rw [show ((0 : Nat) : Int) = 0 from rfl] at this
  rw [this]
  rfl
end V
end Go.Proofs.YtbdhonofhlpdoaaDoor
