/-
  Signals: there and back.
-/
import Derived.Test.YtndnilndhmalfaaLawD
namespace Go.Proofs.Ytndnilndhmalfaa
namespace V
theorem leb2 (x : Int) : leb 2 x = [x % 256, x / 256 % 256] := rfl
theorem leb1 (x : Int) : leb 1 x = [x % 256] := rfl
theorem num2 {x : Int} (h : 0 ≤ x ∧ x < 256 ^ 2) : num [x % 256, x / 256 % 256] = x := by
  rw [p2] at h
  simp only [num]; omega
theorem num1 {x : Int} (h : 0 ≤ x ∧ x < 256 ^ 1) : num [x % 256] = x := by
  rw [p1] at h
  simp only [num]; omega
theorem updZ_iff (u : T_api_Update) : updZ u = true ↔ u = ⟨0, 0, 0, 0, 0⟩ := by
  obtain ⟨a, b, c, d, e⟩ := u
  simp [updZ]
theorem wid8 {x : Int} (h : 0 ≤ x ∧ x < 256) : wu8 x = x := wu8_id h.1 h.2
/-- What was encoded is filled in again. -/
theorem fill_enc {s : T_api_Signal} (h : chk s = 0) (hf : Fit s) : fillOf s.Kind s.ID (encOf s) = s ∧ (bodyOf s).length = sumN (szOf s.Kind) := by
  obtain ⟨h1, _, _, h4, _, _⟩ := chk_zero h
  clear h
  obtain ⟨k, id, p, so, de, mt, mp, cr, re, u⟩ := s
  rcases kinds k with rfl | rfl | rfl | rfl | rfl | rfl | rfl | rfl | hk
  · have e0 := num2 (hf (2, re) (by simp [valsOf]))
    simp [blankOf, usesOf, updZ_iff] at h4
    refine ⟨?_, rfl⟩
    simp [fillOf, encOf, bodyOf, valsOf, nAt, leb2, e0, h4]
  · have e0 := num2 (hf (2, so) (by simp [valsOf]))
    have e1 := num2 (hf (2, de) (by simp [valsOf]))
    simp [blankOf, usesOf, updZ_iff] at h4
    refine ⟨?_, rfl⟩
    simp [fillOf, encOf, bodyOf, valsOf, nAt, leb2, e0, e1, h4]
  · have e0 := num2 (hf (2, so) (by simp [valsOf]))
    have e1 := num2 (hf (2, de) (by simp [valsOf]))
    simp [blankOf, usesOf, updZ_iff] at h4
    refine ⟨?_, rfl⟩
    simp [fillOf, encOf, bodyOf, valsOf, nAt, leb2, e0, e1, h4]
  · obtain ⟨u1, u2, u3, u4, u5⟩ := u
    have e0 := num1 (hf (1, u1) (by simp [valsOf]))
    have e1 := num2 (hf (2, u2) (by simp [valsOf]))
    have e2 := num2 (hf (2, u3) (by simp [valsOf]))
    have e3 := num2 (hf (2, u4) (by simp [valsOf]))
    have e4 := num2 (hf (2, u5) (by simp [valsOf]))
    simp [blankOf, usesOf, updZ_iff] at h4
    refine ⟨?_, rfl⟩
    simp [fillOf, encOf, bodyOf, valsOf, nAt, leb2, leb1, e0, e1, e2, e3, e4, h4]
  · have e0 := num2 (hf (2, re) (by simp [valsOf]))
    simp [blankOf, usesOf, updZ_iff] at h4
    refine ⟨?_, rfl⟩
    simp [fillOf, encOf, bodyOf, valsOf, nAt, leb2, e0, h4]
  · have e0 := num2 (hf (2, p) (by simp [valsOf]))
    have e1 := num2 (hf (2, so) (by simp [valsOf]))
    have e2 := num2 (hf (2, mt) (by simp [valsOf]))
    have e3 := num2 (hf (2, mp) (by simp [valsOf]))
    have e4 := num2 (hf (2, cr) (by simp [valsOf]))
    simp [blankOf, usesOf, updZ_iff] at h4
    refine ⟨?_, rfl⟩
    simp [fillOf, encOf, bodyOf, valsOf, nAt, leb2, e0, e1, e2, e3, e4, h4]
  · have e0 := num2 (hf (2, so) (by simp [valsOf]))
    have e1 := num2 (hf (2, mt) (by simp [valsOf]))
    have e2 := num2 (hf (2, mp) (by simp [valsOf]))
    have e3 := num2 (hf (2, cr) (by simp [valsOf]))
    have e4 := num2 (hf (2, re) (by simp [valsOf]))
    simp [blankOf, usesOf, updZ_iff] at h4
    refine ⟨?_, rfl⟩
    simp [fillOf, encOf, bodyOf, valsOf, nAt, leb2, e0, e1, e2, e3, e4, h4]
  · have e0 := num2 (hf (2, so) (by simp [valsOf]))
    have e1 := num2 (hf (2, cr) (by simp [valsOf]))
    simp [blankOf, usesOf, updZ_iff] at h4
    refine ⟨?_, rfl⟩
    simp [fillOf, encOf, bodyOf, valsOf, nAt, leb2, e0, e1, h4]
  · obtain ⟨g1, g2, g3, g4, g5, g6, g7, g8⟩ := hk
    simp [usesOf, g1, g2, g3, g4, g5, g6, g7, g8] at h1
theorem kind_byte {k : Int} (hk : (usesOf k).Known = true) : 0 ≤ k ∧ k < 256 := by
  rcases kinds k with rfl | rfl | rfl | rfl | rfl | rfl | rfl | rfl | h
  any_goals decide
  obtain ⟨g1, g2, g3, g4, g5, g6, g7, g8⟩ := h
  simp [usesOf, g1, g2, g3, g4, g5, g6, g7, g8] at hk
theorem sum_ge (k : Int) : 2 ≤ sumN (szOf k) := by
  unfold szOf
  (repeat' split) <;> decide
theorem enc_eq {s : T_api_Signal} (h : chk s = 0) : encOf s = s.Kind :: s.ID :: ((bodyOf s).length : Int) :: 0 :: bodyOf s := by
  obtain ⟨h1, h2, h3, _⟩ := chk_zero h
  have := body_len s
  unfold encOf
  rw [wid8 (kind_byte h1), wid8 (by omega), wid8 (by omega)]
  rfl
theorem dec_enc {s : T_api_Signal} (h : chk s = 0) (hp : 0 ≤ s.PSM ∧ s.PSM ≤ 65535) : decOf (encOf s) = (s, 0) := by
  obtain ⟨e1, e2⟩ := fill_enc h (fit_ok h hp)
  obtain ⟨h1, h2, h3, _⟩ := chk_zero h
  rw [enc_eq h] at e1 ⊢
  show tailOf s.Kind s.ID (((bodyOf s).length : Int) + 256 * 0) _ = _
  unfold tailOf
  rw [e1, if_neg (by simp [h1]), if_neg (show ¬ (s.ID = 0) by omega), if_neg (show ¬ (((bodyOf s).length : Int) + 256 * 0 ≠ (sumN (szOf s.Kind) : Int)) from not_not_intro (by rw [e2]; omega)),
    if_neg (by simp only [List.length_cons]; omega), if_neg (by simp only [List.length_cons]; omega), if_neg (not_not_intro h)]
theorem enc_bytes {s : T_api_Signal} (h : chk s = 0) : ∀ x ∈ encOf s, Byte x := by
  obtain ⟨h1, h2, h3, _⟩ := chk_zero h
  have hb := body_len s
  rw [enc_eq h]
  intro x hx
  have hk := kind_byte h1
  simp only [List.mem_cons] at hx
  rcases hx with rfl | rfl | rfl | rfl | hx
  · exact hk
  · exact ⟨by omega, by omega⟩
  · exact ⟨by omega, by omega⟩
  · exact ⟨by decide, by decide⟩
  · unfold bodyOf at hx
    obtain ⟨l, hl, hx⟩ := List.mem_flatten.1 hx
    obtain ⟨q, _, rfl⟩ := List.mem_map.1 hl
    exact leb_byte _ _ x hx
theorem back_law (s : T_api_Signal) (hp : 0 ≤ s.PSM ∧ s.PSM ≤ 65535) : wirelesslaw34_SignalBack FF s = some true := by
  unfold wirelesslaw34_SignalBack
  rw [sig_check FF s (by decide), Option.bind_some]
  by_cases h : chk s = 0
  · have hb := body_len s
    have hl : (encOf s).length = 4 + (bodyOf s).length := by rw [enc_eq h]; simp only [List.length_cons]; omega
    have hs := sum_ge s.Kind
    have he := (fill_enc h (fit_ok h hp)).2
    rw [if_neg (by simp [h]), sig_enc s hp, Option.bind_some]
    unfold encSpec
    rw [if_pos h, sig_dec _ (enc_bytes h) (by omega), dec_enc h hp, Option.bind_some]
    simp only [beq_self_eq_true, Bool.and_true, if_true, Option.bind_some, Bool.true_and, ex_holds]
    have g1 : len (encOf s) ≥ 6 := by rw [len_nat]; omega
    have g2 : len (encOf s) ≤ 14 := by rw [len_nat]; omega
    rw [if_pos (Bool.and_eq_true_iff.2 ⟨decide_eq_true g1, decide_eq_true g2⟩)]
    rfl
  · rw [if_pos (by simpa using h), ex_holds]; rfl
theorem byte_mod {x y : Int} (hx : Byte x) (hy : Byte y) : leb 2 (num [x, y]) = [x, y] := by
  have := leb_num (l := [x, y]) (by simp [hx, hy])
  exact this
theorem byte_one {x : Int} (hx : Byte x) : leb 1 (num [x]) = [x] := by
  have := leb_num (l := [x]) (by simp [hx])
  exact this
theorem body_fill (k id c d : Int) (r : List Int) (hb : ∀ x ∈ r, Byte x) (hk : (usesOf k).Known = true) (hr : r.length = sumN (szOf k)) : bodyOf (fillOf k id (k :: id :: c :: d :: r)) = r := by
  rcases kinds k with rfl | rfl | rfl | rfl | rfl | rfl | rfl | rfl | h
  · match r, hr, hb with
    | [x0, x1], _, hb =>
      have e0 := byte_mod (hb x0 (by simp)) (hb x1 (by simp))
      simp [fillOf, bodyOf, valsOf, nAt, e0]
  · match r, hr, hb with
    | [x0, x1, x2, x3], _, hb =>
      have e0 := byte_mod (hb x0 (by simp)) (hb x1 (by simp))
      have e1 := byte_mod (hb x2 (by simp)) (hb x3 (by simp))
      simp [fillOf, bodyOf, valsOf, nAt, e0, e1]
  · match r, hr, hb with
    | [x0, x1, x2, x3], _, hb =>
      have e0 := byte_mod (hb x0 (by simp)) (hb x1 (by simp))
      have e1 := byte_mod (hb x2 (by simp)) (hb x3 (by simp))
      simp [fillOf, bodyOf, valsOf, nAt, e0, e1]
  · match r, hr, hb with
    | [x0, x1, x2, x3, x4, x5, x6, x7, x8], _, hb =>
      have e0 := byte_one (hb x0 (by simp))
      have e1 := byte_mod (hb x1 (by simp)) (hb x2 (by simp))
      have e2 := byte_mod (hb x3 (by simp)) (hb x4 (by simp))
      have e3 := byte_mod (hb x5 (by simp)) (hb x6 (by simp))
      have e4 := byte_mod (hb x7 (by simp)) (hb x8 (by simp))
      simp [fillOf, bodyOf, valsOf, nAt, e0, e1, e2, e3, e4]
  · match r, hr, hb with
    | [x0, x1], _, hb =>
      have e0 := byte_mod (hb x0 (by simp)) (hb x1 (by simp))
      simp [fillOf, bodyOf, valsOf, nAt, e0]
  · match r, hr, hb with
    | [x0, x1, x2, x3, x4, x5, x6, x7, x8, x9], _, hb =>
      have e0 := byte_mod (hb x0 (by simp)) (hb x1 (by simp))
      have e1 := byte_mod (hb x2 (by simp)) (hb x3 (by simp))
      have e2 := byte_mod (hb x4 (by simp)) (hb x5 (by simp))
      have e3 := byte_mod (hb x6 (by simp)) (hb x7 (by simp))
      have e4 := byte_mod (hb x8 (by simp)) (hb x9 (by simp))
      simp [fillOf, bodyOf, valsOf, nAt, e0, e1, e2, e3, e4]
  · match r, hr, hb with
    | [x0, x1, x2, x3, x4, x5, x6, x7, x8, x9], _, hb =>
      have e0 := byte_mod (hb x0 (by simp)) (hb x1 (by simp))
      have e1 := byte_mod (hb x2 (by simp)) (hb x3 (by simp))
      have e2 := byte_mod (hb x4 (by simp)) (hb x5 (by simp))
      have e3 := byte_mod (hb x6 (by simp)) (hb x7 (by simp))
      have e4 := byte_mod (hb x8 (by simp)) (hb x9 (by simp))
      simp [fillOf, bodyOf, valsOf, nAt, e0, e1, e2, e3, e4]
  · match r, hr, hb with
    | [x0, x1, x2, x3], _, hb =>
      have e0 := byte_mod (hb x0 (by simp)) (hb x1 (by simp))
      have e1 := byte_mod (hb x2 (by simp)) (hb x3 (by simp))
      simp [fillOf, bodyOf, valsOf, nAt, e0, e1]
  · obtain ⟨g1, g2, g3, g4, g5, g6, g7, g8⟩ := h
    simp [usesOf, g1, g2, g3, g4, g5, g6, g7, g8] at hk
theorem fill_head (k id : Int) (b : List Int) : (fillOf k id b).Kind = k ∧ (fillOf k id b).ID = id := by
  unfold fillOf
  (repeat' split) <;> exact ⟨rfl, rfl⟩
theorem fill_psm {b : List Int} (hb : ∀ x ∈ b, Byte x) (k id : Int) : 0 ≤ (fillOf k id b).PSM ∧ (fillOf k id b).PSM ≤ 65535 := by
  have r2 := nAt_range hb 4 2 (.inr rfl)
  unfold fillOf
  (repeat' split) <;> first | exact ⟨Int.le_refl 0, (by decide : (0 : Int) ≤ 65535)⟩ | exact ⟨r2.1, by show nAt b 4 2 ≤ _; omega⟩
/-- What was decoded: nothing, and an error; or what encodes to the bytes. -/
theorem dec_cases (b : List Int) (hb : ∀ x ∈ b, Byte x) : ((decOf b).1 = zs ∧ (decOf b).2 ≠ 0) ∨ ((decOf b).2 = 0 ∧ chk (decOf b).1 = 0 ∧ (0 ≤ (decOf b).1.PSM ∧ (decOf b).1.PSM ≤ 65535) ∧ encOf (decOf b).1 = b) := by
  match b, hb with
  | [], _ => exact .inl ⟨rfl, show (3 : Int) ≠ 0 by decide⟩
  | [_], _ => exact .inl ⟨rfl, show (3 : Int) ≠ 0 by decide⟩
  | [_, _], _ => exact .inl ⟨rfl, show (3 : Int) ≠ 0 by decide⟩
  | [_, _, _], _ => exact .inl ⟨rfl, show (3 : Int) ≠ 0 by decide⟩
  | k :: id :: c :: d :: r, hb =>
    show ((tailOf k id (c + 256 * d) (k :: id :: c :: d :: r)).1 = zs ∧ (tailOf k id (c + 256 * d) (k :: id :: c :: d :: r)).2 ≠ 0) ∨ ((tailOf k id (c + 256 * d) (k :: id :: c :: d :: r)).2 = 0 ∧ chk (tailOf k id (c + 256 * d) (k :: id :: c :: d :: r)).1 = 0 ∧ (0 ≤ (tailOf k id (c + 256 * d) (k :: id :: c :: d :: r)).1.PSM ∧ (tailOf k id (c + 256 * d) (k :: id :: c :: d :: r)).1.PSM ≤ 65535) ∧ encOf (tailOf k id (c + 256 * d) (k :: id :: c :: d :: r)).1 = k :: id :: c :: d :: r)
    have hc := hb c (by simp)
    have hd := hb d (by simp)
    have hbr : ∀ x ∈ r, Byte x := fun x hx => hb x (by simp [hx])
    have hps := fill_psm hb k id
    have hfh := fill_head k id (k :: id :: c :: d :: r)
    have hbf := fun hk hr => body_fill k id c d r hbr hk hr
    have hlen : (k :: id :: c :: d :: r).length = 4 + r.length := by simp only [List.length_cons]; omega
    have hsum := szOf_sum k
    unfold tailOf
    generalize hS : fillOf k id (k :: id :: c :: d :: r) = S at *
    rw [hlen]
    by_cases h1 : (usesOf k).Known = false
    · rw [if_pos h1]; exact .inl ⟨rfl, show (12 : Int) ≠ 0 by decide⟩
    rw [if_neg h1]
    by_cases h2 : id = 0
    · rw [if_pos h2]; exact .inl ⟨rfl, show (5 : Int) ≠ 0 by decide⟩
    rw [if_neg h2]
    by_cases h3 : c + 256 * d = (sumN (szOf k) : Int)
    · rw [if_neg (not_not_intro h3)]
      by_cases h4 : 4 + r.length < 4 + sumN (szOf k)
      · rw [if_pos h4]; exact .inl ⟨rfl, show (3 : Int) ≠ 0 by decide⟩
      rw [if_neg h4]
      by_cases h5 : 4 + sumN (szOf k) < 4 + r.length
      · rw [if_pos h5]; exact .inl ⟨rfl, show (2 : Int) ≠ 0 by decide⟩
      rw [if_neg h5]
      by_cases h6 : chk S = 0
      · rw [if_neg (not_not_intro h6)]
        refine .inr ⟨rfl, h6, hps, ?_⟩
        show encOf S = _
        have hr : r.length = sumN (szOf k) := by omega
        have hd0 : d = 0 := by have := hc.1; have := hc.2; have := hd.1; omega
        rw [enc_eq h6, hfh.1, hfh.2, hbf (by simpa using h1) hr, hd0, show ((r.length : Nat) : Int) = c from by omega]
      · rw [if_pos h6]
        exact .inl ⟨rfl, h6⟩
    · rw [if_pos h3]; exact .inl ⟨rfl, show (2 : Int) ≠ 0 by decide⟩
theorem unique_law (b : List Int) (hb : ∀ x ∈ b, Byte x) : wirelesslaw34_SignalUnique FF b = some true := by
  unfold wirelesslaw34_SignalUnique
  by_cases h : len b > 1000
  · rw [if_pos (by simpa using h), ex_holds]; rfl
  · rw [if_neg (by simpa using h), sig_dec b hb (by simp [len] at h; omega), Option.bind_some]
    rcases dec_cases b hb with ⟨h1, h2⟩ | ⟨h1, h2, h3, h4⟩
    · rw [if_pos (by simpa using h2), h1]
      simp only [zs, beq_self_eq_true, Bool.and_true, if_true, ex_holds, Option.bind_some]
    · rw [if_neg (by simp [h1]), sig_enc _ h3, Option.bind_some]
      unfold encSpec
      rw [if_pos h2, h4]
      simp only [beq_self_eq_true, if_true, same_refl, ex_holds, Option.bind_some]
end V
end Go.Proofs.Ytndnilndhmalfaa
