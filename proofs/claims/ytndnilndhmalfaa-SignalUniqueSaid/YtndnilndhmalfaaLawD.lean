/-
  Signals: what the reference decodes.
-/
import Derived.Test.YtndnilndhmalfaaLawC
namespace Go.Proofs.Ytndnilndhmalfaa
namespace V
theorem pos42 : w64 (4 + 2) = 6 := by decide
theorem pos62 : w64 (6 + 2) = 8 := by decide
theorem pos82 : w64 (8 + 2) = 10 := by decide
theorem pos84 : w64 (8 + 4) = 12 := by decide
theorem pos64 : w64 (6 + 4) = 10 := by decide
theorem pos102 : w64 (10 + 2) = 12 := by decide
theorem pos122 : w64 (12 + 2) = 14 := by decide
theorem pos41 : w64 (4 + 1) = 5 := by decide
theorem pos43 : w64 (4 + 3) = 7 := by decide
theorem pos45 : w64 (4 + 5) = 9 := by decide
theorem pos47 : w64 (4 + 7) = 11 := by decide
theorem tk1 (b : List Int) (id x0 : Int) (h0 : 0 ≤ x0 ∧ x0 < 65536) (n0 : wirelessref23_Num FF b 4 2 = some x0) : wirelessref34_taken FF (ks 1 id) b = some ⟨1, id, 0, 0, 0, 0, 0, 0, x0, ⟨0, 0, 0, 0, 0⟩⟩ := by
  have e : w64 x0 = x0 ∧ True := by refine ⟨?_, trivial⟩ <;> first | exact w64_id (by omega) (by omega) | exact wu16_id (by omega) (by omega)
  simp only [wirelessref34_taken, wirelessref34_taken_j1, wirelessref34_taken_j2, wirelessref34_taken_j3, wirelessref34_taken_j4, wirelessref34_taken_j5, wirelessref34_taken_j6, wirelessref34_taken_j7, wirelessref26_TakeUpdate, ks, fields_ok, usesOf, Option.bind_some, pos42, pos62, pos82, pos84, pos64, pos102, pos122, pos41, pos43, pos45, pos47, if_true, if_false, Bool.false_eq_true, reduceIte, Int.reduceEq, or_true, true_or, or_false, false_or, or_self, n0, e]
theorem tk6 (b : List Int) (id x0 x1 : Int) (h0 : 0 ≤ x0 ∧ x0 < 65536) (h1 : 0 ≤ x1 ∧ x1 < 65536) (n0 : wirelessref23_Num FF b 4 2 = some x0) (n1 : wirelessref23_Num FF b 6 2 = some x1) : wirelessref34_taken FF (ks 6 id) b = some ⟨6, id, 0, x0, x1, 0, 0, 0, 0, ⟨0, 0, 0, 0, 0⟩⟩ := by
  have e : wu16 x0 = x0 ∧ wu16 x1 = x1 ∧ True := by refine ⟨?_, ?_, trivial⟩ <;> first | exact w64_id (by omega) (by omega) | exact wu16_id (by omega) (by omega)
  simp only [wirelessref34_taken, wirelessref34_taken_j1, wirelessref34_taken_j2, wirelessref34_taken_j3, wirelessref34_taken_j4, wirelessref34_taken_j5, wirelessref34_taken_j6, wirelessref34_taken_j7, wirelessref26_TakeUpdate, ks, fields_ok, usesOf, Option.bind_some, pos42, pos62, pos82, pos84, pos64, pos102, pos122, pos41, pos43, pos45, pos47, if_true, if_false, Bool.false_eq_true, reduceIte, Int.reduceEq, or_true, true_or, or_false, false_or, or_self, n0, n1, e]
theorem tk7 (b : List Int) (id x0 x1 : Int) (h0 : 0 ≤ x0 ∧ x0 < 65536) (h1 : 0 ≤ x1 ∧ x1 < 65536) (n0 : wirelessref23_Num FF b 4 2 = some x0) (n1 : wirelessref23_Num FF b 6 2 = some x1) : wirelessref34_taken FF (ks 7 id) b = some ⟨7, id, 0, x0, x1, 0, 0, 0, 0, ⟨0, 0, 0, 0, 0⟩⟩ := by
  have e : wu16 x0 = x0 ∧ wu16 x1 = x1 ∧ True := by refine ⟨?_, ?_, trivial⟩ <;> first | exact w64_id (by omega) (by omega) | exact wu16_id (by omega) (by omega)
  simp only [wirelessref34_taken, wirelessref34_taken_j1, wirelessref34_taken_j2, wirelessref34_taken_j3, wirelessref34_taken_j4, wirelessref34_taken_j5, wirelessref34_taken_j6, wirelessref34_taken_j7, wirelessref26_TakeUpdate, ks, fields_ok, usesOf, Option.bind_some, pos42, pos62, pos82, pos84, pos64, pos102, pos122, pos41, pos43, pos45, pos47, if_true, if_false, Bool.false_eq_true, reduceIte, Int.reduceEq, or_true, true_or, or_false, false_or, or_self, n0, n1, e]
theorem tk18 (b : List Int) (id x0 x1 x2 x3 x4 : Int) (h0 : 0 ≤ x0 ∧ x0 < 65536) (h1 : 0 ≤ x1 ∧ x1 < 65536) (h2 : 0 ≤ x2 ∧ x2 < 65536) (h3 : 0 ≤ x3 ∧ x3 < 65536) (h4 : 0 ≤ x4 ∧ x4 < 65536) (n0 : wirelessref23_Num FF b 4 1 = some x0) (n1 : wirelessref23_Num FF b 5 2 = some x1) (n2 : wirelessref23_Num FF b 7 2 = some x2) (n3 : wirelessref23_Num FF b 9 2 = some x3) (n4 : wirelessref23_Num FF b 11 2 = some x4) : wirelessref34_taken FF (ks 18 id) b = some ⟨18, id, 0, 0, 0, 0, 0, 0, 0, ⟨x0, x1, x2, x3, x4⟩⟩ := by
  have e : w64 x0 = x0 ∧ w64 x1 = x1 ∧ w64 x2 = x2 ∧ w64 x3 = x3 ∧ w64 x4 = x4 ∧ True := by refine ⟨?_, ?_, ?_, ?_, ?_, trivial⟩ <;> first | exact w64_id (by omega) (by omega) | exact wu16_id (by omega) (by omega)
  simp only [wirelessref34_taken, wirelessref34_taken_j1, wirelessref34_taken_j2, wirelessref34_taken_j3, wirelessref34_taken_j4, wirelessref34_taken_j5, wirelessref34_taken_j6, wirelessref34_taken_j7, wirelessref26_TakeUpdate, ks, fields_ok, usesOf, Option.bind_some, pos42, pos62, pos82, pos84, pos64, pos102, pos122, pos41, pos43, pos45, pos47, if_true, if_false, Bool.false_eq_true, reduceIte, Int.reduceEq, or_true, true_or, or_false, false_or, or_self, n0, n1, n2, n3, n4, e]
theorem tk19 (b : List Int) (id x0 : Int) (h0 : 0 ≤ x0 ∧ x0 < 65536) (n0 : wirelessref23_Num FF b 4 2 = some x0) : wirelessref34_taken FF (ks 19 id) b = some ⟨19, id, 0, 0, 0, 0, 0, 0, x0, ⟨0, 0, 0, 0, 0⟩⟩ := by
  have e : w64 x0 = x0 ∧ True := by refine ⟨?_, trivial⟩ <;> first | exact w64_id (by omega) (by omega) | exact wu16_id (by omega) (by omega)
  simp only [wirelessref34_taken, wirelessref34_taken_j1, wirelessref34_taken_j2, wirelessref34_taken_j3, wirelessref34_taken_j4, wirelessref34_taken_j5, wirelessref34_taken_j6, wirelessref34_taken_j7, wirelessref26_TakeUpdate, ks, fields_ok, usesOf, Option.bind_some, pos42, pos62, pos82, pos84, pos64, pos102, pos122, pos41, pos43, pos45, pos47, if_true, if_false, Bool.false_eq_true, reduceIte, Int.reduceEq, or_true, true_or, or_false, false_or, or_self, n0, e]
theorem tk20 (b : List Int) (id x0 x1 x2 x3 x4 : Int) (h0 : 0 ≤ x0 ∧ x0 < 65536) (h1 : 0 ≤ x1 ∧ x1 < 65536) (h2 : 0 ≤ x2 ∧ x2 < 65536) (h3 : 0 ≤ x3 ∧ x3 < 65536) (h4 : 0 ≤ x4 ∧ x4 < 65536) (n0 : wirelessref23_Num FF b 4 2 = some x0) (n1 : wirelessref23_Num FF b 6 2 = some x1) (n2 : wirelessref23_Num FF b 8 2 = some x2) (n3 : wirelessref23_Num FF b 10 2 = some x3) (n4 : wirelessref23_Num FF b 12 2 = some x4) : wirelessref34_taken FF (ks 20 id) b = some ⟨20, id, x0, x1, 0, x2, x3, x4, 0, ⟨0, 0, 0, 0, 0⟩⟩ := by
  have e : wu16 x0 = x0 ∧ wu16 x1 = x1 ∧ w64 x2 = x2 ∧ w64 x3 = x3 ∧ w64 x4 = x4 ∧ True := by refine ⟨?_, ?_, ?_, ?_, ?_, trivial⟩ <;> first | exact w64_id (by omega) (by omega) | exact wu16_id (by omega) (by omega)
  simp only [wirelessref34_taken, wirelessref34_taken_j1, wirelessref34_taken_j2, wirelessref34_taken_j3, wirelessref34_taken_j4, wirelessref34_taken_j5, wirelessref34_taken_j6, wirelessref34_taken_j7, wirelessref26_TakeUpdate, ks, fields_ok, usesOf, Option.bind_some, pos42, pos62, pos82, pos84, pos64, pos102, pos122, pos41, pos43, pos45, pos47, if_true, if_false, Bool.false_eq_true, reduceIte, Int.reduceEq, or_true, true_or, or_false, false_or, or_self, n0, n1, n2, n3, n4, e]
theorem tk21 (b : List Int) (id x0 x1 x2 x3 x4 : Int) (h0 : 0 ≤ x0 ∧ x0 < 65536) (h1 : 0 ≤ x1 ∧ x1 < 65536) (h2 : 0 ≤ x2 ∧ x2 < 65536) (h3 : 0 ≤ x3 ∧ x3 < 65536) (h4 : 0 ≤ x4 ∧ x4 < 65536) (n0 : wirelessref23_Num FF b 4 2 = some x0) (n1 : wirelessref23_Num FF b 6 2 = some x1) (n2 : wirelessref23_Num FF b 8 2 = some x2) (n3 : wirelessref23_Num FF b 10 2 = some x3) (n4 : wirelessref23_Num FF b 12 2 = some x4) : wirelessref34_taken FF (ks 21 id) b = some ⟨21, id, 0, x0, 0, x1, x2, x3, x4, ⟨0, 0, 0, 0, 0⟩⟩ := by
  have e : wu16 x0 = x0 ∧ w64 x1 = x1 ∧ w64 x2 = x2 ∧ w64 x3 = x3 ∧ w64 x4 = x4 ∧ True := by refine ⟨?_, ?_, ?_, ?_, ?_, trivial⟩ <;> first | exact w64_id (by omega) (by omega) | exact wu16_id (by omega) (by omega)
  simp only [wirelessref34_taken, wirelessref34_taken_j1, wirelessref34_taken_j2, wirelessref34_taken_j3, wirelessref34_taken_j4, wirelessref34_taken_j5, wirelessref34_taken_j6, wirelessref34_taken_j7, wirelessref26_TakeUpdate, ks, fields_ok, usesOf, Option.bind_some, pos42, pos62, pos82, pos84, pos64, pos102, pos122, pos41, pos43, pos45, pos47, if_true, if_false, Bool.false_eq_true, reduceIte, Int.reduceEq, or_true, true_or, or_false, false_or, or_self, n0, n1, n2, n3, n4, e]
theorem tk22 (b : List Int) (id x0 x1 : Int) (h0 : 0 ≤ x0 ∧ x0 < 65536) (h1 : 0 ≤ x1 ∧ x1 < 65536) (n0 : wirelessref23_Num FF b 4 2 = some x0) (n1 : wirelessref23_Num FF b 6 2 = some x1) : wirelessref34_taken FF (ks 22 id) b = some ⟨22, id, 0, x0, 0, 0, 0, x1, 0, ⟨0, 0, 0, 0, 0⟩⟩ := by
  have e : wu16 x0 = x0 ∧ w64 x1 = x1 ∧ True := by refine ⟨?_, ?_, trivial⟩ <;> first | exact w64_id (by omega) (by omega) | exact wu16_id (by omega) (by omega)
  simp only [wirelessref34_taken, wirelessref34_taken_j1, wirelessref34_taken_j2, wirelessref34_taken_j3, wirelessref34_taken_j4, wirelessref34_taken_j5, wirelessref34_taken_j6, wirelessref34_taken_j7, wirelessref26_TakeUpdate, ks, fields_ok, usesOf, Option.bind_some, pos42, pos62, pos82, pos84, pos64, pos102, pos122, pos41, pos43, pos45, pos47, if_true, if_false, Bool.false_eq_true, reduceIte, Int.reduceEq, or_true, true_or, or_false, false_or, or_self, n0, n1, e]
theorem taken_ok {b : List Int} (hb : ∀ x ∈ b, Byte x) (k id : Int) (hk : (usesOf k).Known = true) (hl : b.length = 4 + sumN (szOf k)) : wirelessref34_taken FF (ks k id) b = some (fillOf k id b) := by
  have r2 := fun a => nAt_range hb a 2 (.inr rfl)
  have r1 := nAt_range hb 4 1 (.inl rfl)
  rcases kinds k with rfl | rfl | rfl | rfl | rfl | rfl | rfl | rfl | h
  · have hl : b.length = 6 := hl
    exact tk1 b id _ (r2 4) (nAt_ref hb 4 2 (by decide) (by omega) (by decide))
  · have hl : b.length = 8 := hl
    exact tk6 b id _ _ (r2 4) (r2 6) (nAt_ref hb 4 2 (by decide) (by omega) (by decide)) (nAt_ref hb 6 2 (by decide) (by omega) (by decide))
  · have hl : b.length = 8 := hl
    exact tk7 b id _ _ (r2 4) (r2 6) (nAt_ref hb 4 2 (by decide) (by omega) (by decide)) (nAt_ref hb 6 2 (by decide) (by omega) (by decide))
  · have hl : b.length = 13 := hl
    exact tk18 b id _ _ _ _ _ r1 (r2 5) (r2 7) (r2 9) (r2 11) (nAt_ref hb 4 1 (by decide) (by omega) (by decide)) (nAt_ref hb 5 2 (by decide) (by omega) (by decide)) (nAt_ref hb 7 2 (by decide) (by omega) (by decide)) (nAt_ref hb 9 2 (by decide) (by omega) (by decide)) (nAt_ref hb 11 2 (by decide) (by omega) (by decide))
  · have hl : b.length = 6 := hl
    exact tk19 b id _ (r2 4) (nAt_ref hb 4 2 (by decide) (by omega) (by decide))
  · have hl : b.length = 14 := hl
    exact tk20 b id _ _ _ _ _ (r2 4) (r2 6) (r2 8) (r2 10) (r2 12) (nAt_ref hb 4 2 (by decide) (by omega) (by decide)) (nAt_ref hb 6 2 (by decide) (by omega) (by decide)) (nAt_ref hb 8 2 (by decide) (by omega) (by decide)) (nAt_ref hb 10 2 (by decide) (by omega) (by decide)) (nAt_ref hb 12 2 (by decide) (by omega) (by decide))
  · have hl : b.length = 14 := hl
    exact tk21 b id _ _ _ _ _ (r2 4) (r2 6) (r2 8) (r2 10) (r2 12) (nAt_ref hb 4 2 (by decide) (by omega) (by decide)) (nAt_ref hb 6 2 (by decide) (by omega) (by decide)) (nAt_ref hb 8 2 (by decide) (by omega) (by decide)) (nAt_ref hb 10 2 (by decide) (by omega) (by decide)) (nAt_ref hb 12 2 (by decide) (by omega) (by decide))
  · have hl : b.length = 8 := hl
    exact tk22 b id _ _ (r2 4) (r2 6) (nAt_ref hb 4 2 (by decide) (by omega) (by decide)) (nAt_ref hb 6 2 (by decide) (by omega) (by decide))
  · obtain ⟨h1, h2, h3, h4, h5, h6, h7, h8⟩ := h
    simp [usesOf, h1, h2, h3, h4, h5, h6, h7, h8] at hk
theorem body_zero (k id : Int) (hk : (usesOf k).Known = true) : ∃ z, wirelessref34_body FF (ks k id) = some z ∧ z.length = sumN (szOf k) := by
  rcases kinds k with rfl | rfl | rfl | rfl | rfl | rfl | rfl | rfl | h
  · exact ⟨[0, 0], by kernel_rfl, rfl⟩
  · exact ⟨[0, 0, 0, 0], by kernel_rfl, rfl⟩
  · exact ⟨[0, 0, 0, 0], by kernel_rfl, rfl⟩
  · exact ⟨[0, 0, 0, 0, 0, 0, 0, 0, 0], by kernel_rfl, rfl⟩
  · exact ⟨[0, 0], by kernel_rfl, rfl⟩
  · exact ⟨[0, 0, 0, 0, 0, 0, 0, 0, 0, 0], by kernel_rfl, rfl⟩
  · exact ⟨[0, 0, 0, 0, 0, 0, 0, 0, 0, 0], by kernel_rfl, rfl⟩
  · exact ⟨[0, 0, 0, 0], by kernel_rfl, rfl⟩
  · obtain ⟨h1, h2, h3, h4, h5, h6, h7, h8⟩ := h
    simp [usesOf, h1, h2, h3, h4, h5, h6, h7, h8] at hk
theorem nAt_two (k id c d : Int) (r : List Int) : nAt (k :: id :: c :: d :: r) 2 2 = c + 256 * d := by simp [nAt, num]
theorem ref_dec (b : List Int) (hb : ∀ x ∈ b, Byte x) (hl : b.length ≤ 1000) : wirelessref34_Decode FF b = some (decOf b) := by
  match b, hb, hl with
  | [], _, _ => rfl
  | [_], _, _ => rfl
  | [_, _], _, _ => rfl
  | [_, _, _], _, _ => rfl
  | k :: id :: c :: d :: r, hb, hl =>
    have hk := hb k (by simp)
    have hid := hb id (by simp)
    have hc := hb c (by simp)
    have hd := hb d (by simp)
    have h5 : ¬ (len (k :: id :: c :: d :: r) < 4) := by simp only [len, List.length_cons]; omega
    have i0 : idx (k :: id :: c :: d :: r) 0 = some k := (idx_nat _ 0).trans rfl
    have i1 : idx (k :: id :: c :: d :: r) 1 = some id := (idx_nat _ 1).trans rfl
    have i2 : idx (k :: id :: c :: d :: r) 2 = some c := (idx_nat _ 2).trans rfl
    have i3 : idx (k :: id :: c :: d :: r) 3 = some d := (idx_nat _ 3).trans rfl
    unfold wirelessref34_Decode
    rw [if_neg (fun h => h5 (of_decide_eq_true h)), i0, Option.bind_some, i1, Option.bind_some]
    show wirelessref34_Decode_j1 FF (k :: id :: c :: d :: r) ⟨w64 k, w64 id, 0, 0, 0, 0, 0, 0, 0, ⟨0, 0, 0, 0, 0⟩⟩ = _
    rw [w64_id (by have := hk.1; omega) (by have := hk.2; omega), w64_id (by have := hid.1; omega) (by have := hid.2; omega)]
    show _ = some (tailOf k id (c + 256 * d) (k :: id :: c :: d :: r))
    have hN := nAt_ref hb 2 2 (by decide) (by simp) (by decide)
    rw [nAt_two] at hN
    have hnr : 0 ≤ c + 256 * d ∧ c + 256 * d < 65536 := by
      have := hc.1; have := hc.2; have := hd.1; have := hd.2; omega
    generalize hB : k :: id :: c :: d :: r = B at *
    generalize c + 256 * d = n at *
    have hBl : 4 ≤ B.length := by rw [← hB]; simp
    clear hB i0 i1 i2 i3 h5
    unfold wirelessref34_Decode_j1 tailOf
    rw [fields_ok]
    show (if (!(usesOf k).Known) = true then _ else _) = _
    by_cases hkn : (usesOf k).Known = true
    · rw [if_neg (show ¬ ((!(usesOf k).Known) = true) by simp [hkn]), if_neg (show ¬ ((usesOf k).Known = false) by simp [hkn])]
      show (if (id == 0) = true then _ else _) = _
      by_cases h0 : id = 0
      · rw [if_pos (by simp [h0]), if_pos h0]; rfl
      rw [if_neg (by simp [h0]), if_neg h0]
      obtain ⟨z, hz, hzl⟩ := body_zero k id hkn
      have hsum := szOf_sum k
      show (wirelessref34_body FF (ks k id)).bind _ = _
      rw [hz, Option.bind_some]
      show (wirelessref23_Num FF B ((2 : Nat) : Int) ((2 : Nat) : Int)).bind _ = _
      rw [hN, Option.bind_some, w64_id (by omega) (by omega), len_nat, hzl, len_nat, w64_id (by omega) (by omega)]
      by_cases hn : n = (sumN (szOf k) : Int)
      · rw [if_neg (by simp [hn]), if_neg (show ¬ (n ≠ (sumN (szOf k) : Int)) from not_not_intro hn)]
        by_cases hsh : B.length < 4 + sumN (szOf k)
        · rw [if_pos (by simp; omega), if_pos hsh]; rfl
        · rw [if_neg (by simp; omega), if_neg hsh]
          by_cases hlo : 4 + sumN (szOf k) < B.length
          · rw [if_pos (by simp; omega), if_pos hlo]; rfl
          · rw [if_neg (by simp; omega), if_neg hlo]
            show (wirelessref34_taken FF (ks k id) B).bind _ = _
            rw [taken_ok hb k id hkn (by omega), Option.bind_some, ref_check FF, Option.bind_some]
            by_cases hch : chk (fillOf k id B) = 0
            · rw [if_neg (by simp [hch]), if_neg (show ¬ (chk (fillOf k id B) ≠ 0) from not_not_intro hch)]
            · rw [if_pos (by simp [hch]), if_pos hch]; rfl
      · rw [if_pos (by simpa using hn), if_pos hn]; rfl
    · have hk0 : (usesOf k).Known = false := by simpa using hkn
      rw [if_pos (by simp [hk0]), if_pos hk0]; rfl
theorem decodes_law (b : List Int) (hb : ∀ x ∈ b, Byte x) : wirelesslaw34_SignalDecodes FF b = some true := by
  unfold wirelesslaw34_SignalDecodes
  by_cases h : len b > 1000
  · rw [if_pos (by simpa using h), ex_holds]; rfl
  · rw [if_neg (by simpa using h), sig_dec b hb (by simp [len] at h; omega), ref_dec b hb (by simp [len] at h; omega)]
    simp only [Option.bind_some, beq_self_eq_true, if_true, Bool.and_true, ex_holds]
end V
end Go.Proofs.Ytndnilndhmalfaa
