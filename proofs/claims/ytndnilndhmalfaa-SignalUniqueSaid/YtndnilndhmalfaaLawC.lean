/-
  Signals: what is decoded.
-/
import Derived.Test.YtndnilndhmalfaaTak
import Derived.Test.YtndnilndhmalfaaLawB
namespace Go.Proofs.Ytndnilndhmalfaa
namespace V
/-- The sizes of a kind's fields. -/
def szOf (k : Int) : List Nat :=
  if k = 1 ∨ k = 19 then [2]
  else if k = 6 ∨ k = 7 ∨ k = 22 then [2, 2]
  else if k = 18 then [1, 2, 2, 2, 2]
  else [2, 2, 2, 2, 2]
def zs : T_api_Signal := ⟨0, 0, 0, 0, 0, 0, 0, 0, 0, ⟨0, 0, 0, 0, 0⟩⟩
def ks (k id : Int) : T_api_Signal := ⟨k, id, 0, 0, 0, 0, 0, 0, 0, ⟨0, 0, 0, 0, 0⟩⟩
def nAt (b : List Int) (at_ k : Nat) : Int := num ((b.drop at_).take k)
def fillOf (k id : Int) (b : List Int) : T_api_Signal :=
  if k = 1 ∨ k = 19 then ⟨k, id, 0, 0, 0, 0, 0, 0, nAt b 4 2, ⟨0, 0, 0, 0, 0⟩⟩
  else if k = 6 ∨ k = 7 then ⟨k, id, 0, nAt b 4 2, nAt b 6 2, 0, 0, 0, 0, ⟨0, 0, 0, 0, 0⟩⟩
  else if k = 18 then ⟨k, id, 0, 0, 0, 0, 0, 0, 0, ⟨nAt b 4 1, nAt b 5 2, nAt b 7 2, nAt b 9 2, nAt b 11 2⟩⟩
  else if k = 20 then ⟨k, id, nAt b 4 2, nAt b 6 2, 0, nAt b 8 2, nAt b 10 2, nAt b 12 2, 0, ⟨0, 0, 0, 0, 0⟩⟩
  else if k = 21 then ⟨k, id, 0, nAt b 4 2, 0, nAt b 6 2, nAt b 8 2, nAt b 10 2, nAt b 12 2, ⟨0, 0, 0, 0, 0⟩⟩
  else ⟨k, id, 0, nAt b 4 2, 0, 0, 0, nAt b 6 2, 0, ⟨0, 0, 0, 0, 0⟩⟩
/-- What the bytes after the head give. -/
def tailOf (k id n : Int) (b : List Int) : T_api_Signal × Int :=
  if (usesOf k).Known = false then (zs, 12)
  else if id = 0 then (zs, 5)
  else if n ≠ (sumN (szOf k) : Int) then (zs, 2)
  else if b.length < 4 + sumN (szOf k) then (zs, 3)
  else if 4 + sumN (szOf k) < b.length then (zs, 2)
  else if chk (fillOf k id b) ≠ 0 then (zs, chk (fillOf k id b))
  else (fillOf k id b, 0)
def decOf : List Int → T_api_Signal × Int
  | k :: id :: c :: d :: r => tailOf k id (c + 256 * d) (k :: id :: c :: d :: r)
  | _ => (zs, 3)
theorem nAt_range {b : List Int} (hb : ∀ x ∈ b, Byte x) (at_ : Nat) (k : Nat) (hk : k = 1 ∨ k = 2) : 0 ≤ nAt b at_ k ∧ nAt b at_ k < 65536 := by
  have hm : ∀ x ∈ (b.drop at_).take k, Byte x := fun x hx => hb x (List.mem_of_mem_drop (List.mem_of_mem_take hx))
  refine ⟨num_nonneg hm, ?_⟩
  have h1 := num_lt hm
  have h2 : ((b.drop at_).take k).length ≤ 2 := by simp; omega
  unfold nAt
  generalize num ((b.drop at_).take k) = q at *
  generalize ((b.drop at_).take k).length = n at *
  rcases n with _ | _ | _ | n
  · have : (256 : Int) ^ 0 = 1 := by decide
    rw [this] at h1; omega
  · have : (256 : Int) ^ (0 + 1) = 256 := by decide
    rw [this] at h1; omega
  · have : (256 : Int) ^ (0 + 1 + 1) = 65536 := by decide
    rw [this] at h1; omega
  · omega
theorem nAt_ref {b : List Int} (hb : ∀ x ∈ b, Byte x) (at_ k : Nat) (hk : k ≤ 8) (hl : at_ + k ≤ b.length) (ha : at_ ≤ 100) : wirelessref23_Num FF b at_ k = some (nAt b at_ k) := by
  have hlen : ((b.drop at_).take k).length = k := by simp; omega
  have := rnum_ok FF b ((b.drop at_).take k) at_ (by rw [hlen]; unfold FF; omega) (fun x hx => hb x (List.mem_of_mem_drop (List.mem_of_mem_take hx))) (by omega) (by omega) (by
    intro i hi
    rw [hlen] at hi
    rw [List.getElem?_take_of_lt hi, List.getElem?_drop])
  rw [hlen] at this
  exact this
theorem sizes_ok {k : Int} (hk : (usesOf k).Known = true) : signal_sizes FF k = some (sizesI (szOf k)) := by
  rcases kinds k with rfl | rfl | rfl | rfl | rfl | rfl | rfl | rfl | h
  any_goals rfl
  obtain ⟨h1, h2, h3, h4, h5, h6, h7, h8⟩ := h
  simp [usesOf, h1, h2, h3, h4, h5, h6, h7, h8] at hk
theorem szOf_ok (k : Int) : ∀ n ∈ szOf k, 1 ≤ n ∧ n ≤ 8 := by
  unfold szOf
  (repeat' split) <;> decide
theorem szOf_len (k : Int) : (szOf k).length ≤ 5 := by
  unfold szOf
  (repeat' split) <;> decide
theorem szOf_sum (k : Int) : sumN (szOf k) ≤ 10 := by
  unfold szOf
  (repeat' split) <;> decide
theorem dec_loop (k : Int) (hk : (usesOf k).Known = true) : iter (fun s => signal_Decode_l1 FF (sizesI (szOf k)) s.1 s.2) FF (0, 0) = some (sumN (szOf k) : Int) := by
  rcases kinds k with rfl | rfl | rfl | rfl | rfl | rfl | rfl | rfl | h
  · kernel_rfl
  · kernel_rfl
  · kernel_rfl
  · kernel_rfl
  · kernel_rfl
  · kernel_rfl
  · kernel_rfl
  · kernel_rfl
  obtain ⟨h1, h2, h3, h4, h5, h6, h7, h8⟩ := h
  simp [usesOf, h1, h2, h3, h4, h5, h6, h7, h8] at hk
theorem fl1 (id x0 : Int) (h0 : 0 ≤ x0 ∧ x0 < 65536) : signal_filled FF (ks 1 id) [x0] = some ⟨1, id, 0, 0, 0, 0, 0, 0, x0, ⟨0, 0, 0, 0, 0⟩⟩ := by
  have h : signal_filled FF (ks 1 id) [x0] = some ⟨1, id, 0, 0, 0, 0, 0, 0, w64 x0, ⟨0, 0, 0, 0, 0⟩⟩ := by kernel_rfl
  rw [w64_id (by omega) (by omega)] at h
  exact h
theorem fl6 (id x0 x1 : Int) (h0 : 0 ≤ x0 ∧ x0 < 65536) (h1 : 0 ≤ x1 ∧ x1 < 65536) : signal_filled FF (ks 6 id) [x0, x1] = some ⟨6, id, 0, x0, x1, 0, 0, 0, 0, ⟨0, 0, 0, 0, 0⟩⟩ := by
  have h : signal_filled FF (ks 6 id) [x0, x1] = some ⟨6, id, 0, wu16 x0, wu16 x1, 0, 0, 0, 0, ⟨0, 0, 0, 0, 0⟩⟩ := by kernel_rfl
  rw [wu16_id h0.1 (by omega), wu16_id h1.1 (by omega)] at h
  exact h
theorem fl7 (id x0 x1 : Int) (h0 : 0 ≤ x0 ∧ x0 < 65536) (h1 : 0 ≤ x1 ∧ x1 < 65536) : signal_filled FF (ks 7 id) [x0, x1] = some ⟨7, id, 0, x0, x1, 0, 0, 0, 0, ⟨0, 0, 0, 0, 0⟩⟩ := by
  have h : signal_filled FF (ks 7 id) [x0, x1] = some ⟨7, id, 0, wu16 x0, wu16 x1, 0, 0, 0, 0, ⟨0, 0, 0, 0, 0⟩⟩ := by kernel_rfl
  rw [wu16_id h0.1 (by omega), wu16_id h1.1 (by omega)] at h
  exact h
theorem fl18 (id x0 x1 x2 x3 x4 : Int) (h0 : 0 ≤ x0 ∧ x0 < 65536) (h1 : 0 ≤ x1 ∧ x1 < 65536) (h2 : 0 ≤ x2 ∧ x2 < 65536) (h3 : 0 ≤ x3 ∧ x3 < 65536) (h4 : 0 ≤ x4 ∧ x4 < 65536) : signal_filled FF (ks 18 id) [x0, x1, x2, x3, x4] = some ⟨18, id, 0, 0, 0, 0, 0, 0, 0, ⟨x0, x1, x2, x3, x4⟩⟩ := by
  have h : signal_filled FF (ks 18 id) [x0, x1, x2, x3, x4] = some ⟨18, id, 0, 0, 0, 0, 0, 0, 0, ⟨w64 x0, w64 x1, w64 x2, w64 x3, w64 x4⟩⟩ := by kernel_rfl
  rw [w64_id (by omega) (by omega), w64_id (by omega) (by omega), w64_id (by omega) (by omega), w64_id (by omega) (by omega), w64_id (by omega) (by omega)] at h
  exact h
theorem fl19 (id x0 : Int) (h0 : 0 ≤ x0 ∧ x0 < 65536) : signal_filled FF (ks 19 id) [x0] = some ⟨19, id, 0, 0, 0, 0, 0, 0, x0, ⟨0, 0, 0, 0, 0⟩⟩ := by
  have h : signal_filled FF (ks 19 id) [x0] = some ⟨19, id, 0, 0, 0, 0, 0, 0, w64 x0, ⟨0, 0, 0, 0, 0⟩⟩ := by kernel_rfl
  rw [w64_id (by omega) (by omega)] at h
  exact h
theorem fl20 (id x0 x1 x2 x3 x4 : Int) (h0 : 0 ≤ x0 ∧ x0 < 65536) (h1 : 0 ≤ x1 ∧ x1 < 65536) (h2 : 0 ≤ x2 ∧ x2 < 65536) (h3 : 0 ≤ x3 ∧ x3 < 65536) (h4 : 0 ≤ x4 ∧ x4 < 65536) : signal_filled FF (ks 20 id) [x0, x1, x2, x3, x4] = some ⟨20, id, x0, x1, 0, x2, x3, x4, 0, ⟨0, 0, 0, 0, 0⟩⟩ := by
  have h : signal_filled FF (ks 20 id) [x0, x1, x2, x3, x4] = some ⟨20, id, wu16 x0, wu16 x1, 0, w64 x2, w64 x3, w64 x4, 0, ⟨0, 0, 0, 0, 0⟩⟩ := by kernel_rfl
  rw [wu16_id h0.1 (by omega), wu16_id h1.1 (by omega), w64_id (by omega) (by omega), w64_id (by omega) (by omega), w64_id (by omega) (by omega)] at h
  exact h
theorem fl21 (id x0 x1 x2 x3 x4 : Int) (h0 : 0 ≤ x0 ∧ x0 < 65536) (h1 : 0 ≤ x1 ∧ x1 < 65536) (h2 : 0 ≤ x2 ∧ x2 < 65536) (h3 : 0 ≤ x3 ∧ x3 < 65536) (h4 : 0 ≤ x4 ∧ x4 < 65536) : signal_filled FF (ks 21 id) [x0, x1, x2, x3, x4] = some ⟨21, id, 0, x0, 0, x1, x2, x3, x4, ⟨0, 0, 0, 0, 0⟩⟩ := by
  have h : signal_filled FF (ks 21 id) [x0, x1, x2, x3, x4] = some ⟨21, id, 0, wu16 x0, 0, w64 x1, w64 x2, w64 x3, w64 x4, ⟨0, 0, 0, 0, 0⟩⟩ := by kernel_rfl
  rw [wu16_id h0.1 (by omega), w64_id (by omega) (by omega), w64_id (by omega) (by omega), w64_id (by omega) (by omega), w64_id (by omega) (by omega)] at h
  exact h
theorem fl22 (id x0 x1 : Int) (h0 : 0 ≤ x0 ∧ x0 < 65536) (h1 : 0 ≤ x1 ∧ x1 < 65536) : signal_filled FF (ks 22 id) [x0, x1] = some ⟨22, id, 0, x0, 0, 0, 0, x1, 0, ⟨0, 0, 0, 0, 0⟩⟩ := by
  have h : signal_filled FF (ks 22 id) [x0, x1] = some ⟨22, id, 0, wu16 x0, 0, 0, 0, w64 x1, 0, ⟨0, 0, 0, 0, 0⟩⟩ := by kernel_rfl
  rw [wu16_id h0.1 (by omega), w64_id (by omega) (by omega)] at h
  exact h
theorem filled_ok {b : List Int} (hb : ∀ x ∈ b, Byte x) (k id : Int) (hk : (usesOf k).Known = true) : signal_filled FF (ks k id) (valsT (b.drop 4) (szOf k)) = some (fillOf k id b) := by
  have r2 := fun a => nAt_range hb a 2 (.inr rfl)
  have r1 := nAt_range hb 4 1 (.inl rfl)
  rcases kinds k with rfl | rfl | rfl | rfl | rfl | rfl | rfl | rfl | h
  · rw [show valsT (b.drop 4) (szOf 1) = [nAt b 4 2] from by simp [valsT, szOf, nAt]]
    exact fl1 id _ (r2 4)
  · rw [show valsT (b.drop 4) (szOf 6) = [nAt b 4 2, nAt b 6 2] from by simp [valsT, szOf, nAt]]
    exact fl6 id _ _ (r2 4) (r2 6)
  · rw [show valsT (b.drop 4) (szOf 7) = [nAt b 4 2, nAt b 6 2] from by simp [valsT, szOf, nAt]]
    exact fl7 id _ _ (r2 4) (r2 6)
  · rw [show valsT (b.drop 4) (szOf 18) = [nAt b 4 1, nAt b 5 2, nAt b 7 2, nAt b 9 2, nAt b 11 2] from by simp [valsT, szOf, nAt]]
    exact fl18 id _ _ _ _ _ r1 (r2 5) (r2 7) (r2 9) (r2 11)
  · rw [show valsT (b.drop 4) (szOf 19) = [nAt b 4 2] from by simp [valsT, szOf, nAt]]
    exact fl19 id _ (r2 4)
  · rw [show valsT (b.drop 4) (szOf 20) = [nAt b 4 2, nAt b 6 2, nAt b 8 2, nAt b 10 2, nAt b 12 2] from by simp [valsT, szOf, nAt]]
    exact fl20 id _ _ _ _ _ (r2 4) (r2 6) (r2 8) (r2 10) (r2 12)
  · rw [show valsT (b.drop 4) (szOf 21) = [nAt b 4 2, nAt b 6 2, nAt b 8 2, nAt b 10 2, nAt b 12 2] from by simp [valsT, szOf, nAt]]
    exact fl21 id _ _ _ _ _ (r2 4) (r2 6) (r2 8) (r2 10) (r2 12)
  · rw [show valsT (b.drop 4) (szOf 22) = [nAt b 4 2, nAt b 6 2] from by simp [valsT, szOf, nAt]]
    exact fl22 id _ _ (r2 4) (r2 6)
  · obtain ⟨h1, h2, h3, h4, h5, h6, h7, h8⟩ := h
    simp [usesOf, h1, h2, h3, h4, h5, h6, h7, h8] at hk
theorem hi_byte {x : Int} (hx : Byte x) : ishl .i64 (w64 x) 8 = some (x * 256) := by
  obtain ⟨h0, h1⟩ := hx
  rw [w64_id (by omega) (by omega)]
  show some (IntKind.i64.wrap (x * 2 ^ (min (8 : Int).toNat IntKind.i64.bits))) = _
  rw [show (2 : Int) ^ (min (8 : Int).toNat IntKind.i64.bits) = 256 from by decide, wrap_i64, w64_id (by omega) (by omega)]
theorem or_byte {x y : Int} (hx : Byte x) (hy : Byte y) : ior .i64 (w64 x) (y * 256) = x + 256 * y := by
  obtain ⟨h0, h1⟩ := hx
  obtain ⟨g0, g1⟩ := hy
  rw [w64_id (by omega) (by omega)]
  obtain ⟨x, rfl⟩ := Int.eq_ofNat_of_zero_le h0
  obtain ⟨y, rfl⟩ := Int.eq_ofNat_of_zero_le g0
  unfold ior
  have e : (BitVec.ofInt IntKind.i64.bits (x : Int) ||| BitVec.ofInt IntKind.i64.bits ((y : Int) * 256)).toNat = x + y * 256 := by
    rw [show ((y : Int) * 256) = ((y * 256 : Nat) : Int) from by rw [Int.natCast_mul]; rfl, BitVec.toNat_or]
    show (BitVec.ofInt 64 (x : Int)).toNat ||| (BitVec.ofInt 64 ((y * 256 : Nat) : Int)).toNat = _
    rw [BitVec.toNat_ofInt, BitVec.toNat_ofInt]
    rw [show (((x : Nat) : Int) % ((2 ^ 64 : Nat) : Int)).toNat = x from by rw [← Int.natCast_emod, Int.toNat_natCast, Nat.mod_eq_of_lt (by omega)]]
    rw [show (((y * 256 : Nat) : Int) % ((2 ^ 64 : Nat) : Int)).toNat = y * 256 from by rw [← Int.natCast_emod, Int.toNat_natCast, Nat.mod_eq_of_lt (by omega)]]
    exact nat_or_add x y 8 (by omega)
  rw [e, wrap_i64, w64_id (by omega) (by omega)]
  omega
theorem sig_dec (b : List Int) (hb : ∀ x ∈ b, Byte x) (hl : b.length ≤ 1000) : signal_Decode FF b = some (decOf b) := by
  match b, hb, hl with
  | [], _, _ => rfl
  | [_], _, _ => rfl
  | [_, _], _, _ => rfl
  | [_, _, _], _, _ => rfl
  | k :: id :: c :: d :: r, hb, hl =>
    have hk := hb k (by simp)
    have hid := hb id (by simp)
    have hc := hb c (by simp)
    have hd := hb d (by simp)
    have h5 : ¬ (len (k :: id :: c :: d :: r) < 4) := by simp only [len, List.length_cons]; omega
    have i0 : idx (k :: id :: c :: d :: r) 0 = some k := (idx_nat _ 0).trans rfl
    have i1 : idx (k :: id :: c :: d :: r) 1 = some id := (idx_nat _ 1).trans rfl
    have i2 : idx (k :: id :: c :: d :: r) 2 = some c := (idx_nat _ 2).trans rfl
    have i3 : idx (k :: id :: c :: d :: r) 3 = some d := (idx_nat _ 3).trans rfl
    unfold signal_Decode
    rw [if_neg (fun h => h5 (of_decide_eq_true h)), i0, Option.bind_some, i1, Option.bind_some]
    show signal_Decode_j1 FF (k :: id :: c :: d :: r) ⟨w64 k, w64 id, 0, 0, 0, 0, 0, 0, 0, ⟨0, 0, 0, 0, 0⟩⟩ = _
    rw [w64_id (by have := hk.1; omega) (by have := hk.2; omega), w64_id (by have := hid.1; omega) (by have := hid.2; omega)]
    unfold signal_Decode_j1
    rw [i2, Option.bind_some, i3, Option.bind_some, hi_byte hd, Option.bind_some]
    show signal_Decode_j2 FF (k :: id :: c :: d :: r) (ks k id) (ior .i64 (w64 c) (d * 256)) = _
    rw [or_byte hc hd]
    show _ = some (tailOf k id (c + 256 * d) (k :: id :: c :: d :: r))
    generalize hB : k :: id :: c :: d :: r = B at *
    generalize c + 256 * d = n
    have hBl : 4 ≤ B.length := by rw [← hB]; simp
    clear hB i0 i1 i2 i3 h5
    unfold signal_Decode_j2 tailOf
    show (signal_sizes FF k).bind _ = _
    by_cases hkn : (usesOf k).Known = true
    · rw [sizes_ok hkn, Option.bind_some, dec_loop k hkn, Option.bind_some]
      unfold signal_Decode_j3
      rw [known_ok]
      show (some (usesOf k).Known).bind _ = _
      rw [hkn, Option.bind_some, if_neg (show ¬ ((!true) = true) by decide), if_neg (show ¬ (true = false) by decide)]
      show (if (id == 0) = true then _ else _) = _
      by_cases h0 : id = 0
      · rw [if_pos (by simp [h0]), if_pos h0]; rfl
      rw [if_neg (by simp [h0]), if_neg h0]
      by_cases hn : n = (sumN (szOf k) : Int)
      · rw [if_neg (by simp [hn]), if_neg (show ¬ (n ≠ (sumN (szOf k) : Int)) from not_not_intro hn)]
        have hs := sub_nat B 4 B.length hBl (Nat.le_refl _)
        rw [List.take_length] at hs
        rw [show sub B 4 (len B) = some (B.drop 4) from hs, Option.bind_some]
        show (signal_sizes FF k).bind _ = _
        rw [sizes_ok hkn, Option.bind_some]
        have hlen := szOf_len k
        have hsum := szOf_sum k
        have hbd : ∀ x ∈ B.drop 4, Byte x := fun x hx => hb x (List.mem_of_mem_drop hx)
        by_cases hsh : B.length < 4 + sumN (szOf k)
        · rw [take_short FF (B.drop 4) (szOf k) (szOf_ok k) (by omega) (by unfold FF; omega) (by simp; omega), if_pos hsh]
          rfl
        · rw [take_ok FF (B.drop 4) (szOf k) (szOf_ok k) (by omega) (by unfold FF; omega) hbd (by simp; omega) (by simp; omega), if_neg hsh, Option.bind_some]
          unfold signal_Decode_j4
          rw [if_neg (by simp)]
          by_cases hlo : 4 + sumN (szOf k) < B.length
          · rw [if_pos (by simp [len]; omega), if_pos hlo]; rfl
          · rw [if_neg (by simp [len]; omega), if_neg hlo]
            show (signal_filled FF (ks k id) (valsT (B.drop 4) (szOf k))).bind _ = _
            rw [filled_ok hb k id hkn, Option.bind_some, sig_check FF _ (by decide), Option.bind_some]
            by_cases hch : chk (fillOf k id B) = 0
            · rw [if_neg (by simp [hch]), if_neg (show ¬ (chk (fillOf k id B) ≠ 0) from not_not_intro hch)]
            · rw [if_pos (by simp [hch]), if_pos hch]; rfl
      · rw [if_pos (by simpa using hn), if_pos hn]; rfl
    · have hk0 : (usesOf k).Known = false := by simpa using hkn
      have : ∃ sz n', signal_sizes FF k = some sz ∧ iter (fun s => signal_Decode_l1 FF sz s.1 s.2) FF (0, 0) = some n' := by
        rcases kinds k with rfl | rfl | rfl | rfl | rfl | rfl | rfl | rfl | h
        any_goals cases hk0
        obtain ⟨h1, h2, h3, h4, h5, h6, h7, h8⟩ := h
        refine ⟨[2, 2, 2, 2, 2], 10, ?_, by kernel_rfl⟩
        simp [signal_sizes, signal_sizes_j1, signal_sizes_j2, h1, h2, h3, h4, h5, h6, h7, h8]
      obtain ⟨sz, n', e1, e2⟩ := this
      rw [e1, Option.bind_some, e2, Option.bind_some]
      unfold signal_Decode_j3
      rw [known_ok]
      show (some (usesOf k).Known).bind _ = _
      rw [hk0, Option.bind_some, if_pos (show (!false) = true from rfl), if_pos (show false = false from rfl)]
      rfl
end V
end Go.Proofs.Ytndnilndhmalfaa
