/-
  A bond from bytes: both sides read the same.
-/
import Derived.Test.YtbdhonofhlpdoaaDoorLawE
namespace Go.Proofs.YtbdhonofhlpdoaaDoor
namespace V
theorem take_one_num {s : List Int} {i : Nat} {x : Int} (h : s[i]? = some x) : num ((s.drop i).take 1) = x := by
  have hi := (List.getElem?_eq_some_iff.1 h).1
  have : s.drop i = x :: s.drop (i + 1) := by
    rw [List.drop_eq_getElem_cons hi]
    congr 1
    exact (List.getElem?_eq_some_iff.1 h).2
  rw [this]
  simp [num]
theorem bytes_u64 {s : List Int} (hb : ∀ x ∈ s, Byte x) (i k : Nat) (hk : k ≤ 8) : U64 (num ((s.drop i).take k)) := by
  have := num_rng (l := (s.drop i).take k) (fun x hx => hb x (List.mem_of_mem_drop (List.mem_of_mem_take hx))) (by rw [List.length_take]; omega)
  exact this
/-- The address that bytes begin with. -/
def decA (s : List Int) (x0 : Int) : T_api_Address := T_api_Address.mk x0 (num ((s.drop 1).take 6))
theorem decA_u (F : Nat) (s : List Int) (x0 : Int) (hF : 2000 < F) (hb : ∀ x ∈ s, Byte x) (hl : 45 ≤ s.length) (hl2 : s.length ≤ 5000) (h0 : s[0]? = some x0) : address_Decode F s = some (if chkA (decA s x0) = 0 then (decA s x0, s.drop 7, 0) else (T_api_Address.mk 0 0, [], chkA (decA s x0))) := by
  have hx := hb x0 (List.mem_of_getElem? h0)
  unfold Byte at hx
  have ht := take_ok F s [1, 6] (by simp) (by simp) (by simp; omega) hb (by omega) (by simp [sumN]; omega)
  rw [show sizesI [1, 6] = [1, 6] from rfl] at ht
  have e0 : num (s.take 1) = x0 := by
    have := take_one_num (i := 0) h0
    rwa [List.drop_zero] at this
  unfold address_Decode
  rw [ht, Option.bind_some, if_neg (by simp)]
  simp only [valsT, sumN, e0]
  rw [show idx [x0, num (List.take 6 (List.drop 1 s))] 0 = some x0 from rfl, show idx [x0, num (List.take 6 (List.drop 1 s))] 1 = some (num (List.take 6 (List.drop 1 s))) from rfl, Option.bind_some, Option.bind_some, w64_id (x := x0) (by omega) (by omega)]
  unfold address_Decode_j1
  rw [ucheck F _ (bytes_u64 hb 1 6 (by omega)), Option.bind_some]
  rw [show T_api_Address.mk x0 (num (List.take 6 (List.drop 1 s))) = decA s x0 from rfl]
  by_cases h : chkA (decA s x0) = 0
  · rw [if_neg (fun e => (bne_iff_ne.1 e) h), if_pos h]
  · rw [if_pos (bne_iff_ne.2 h), if_neg h]
theorem decA_r (F : Nat) (s : List Int) (x0 : Int) (hF : 2000 < F) (hb : ∀ x ∈ s, Byte x) (hl : 45 ≤ s.length) (h0 : s[0]? = some x0) : ∃ q, wirelessref08_Decode F (s.take 7) = some (if chkA (decA s x0) = 0 then (decA s x0, q, 0) else (T_api_Address.mk 0 0, [], chkA (decA s x0))) := by
  have hx := hb x0 (List.mem_of_getElem? h0)
  unfold Byte at hx
  have h7 : (s.take 7).length = 7 := by rw [List.length_take]; omega
  have h7n := len_nat (s.take 7)
  have e1 : idx (s.take 7) 0 = some x0 := by
    have : (s.take 7)[0]? = some x0 := by rw [List.getElem?_take, if_pos (by omega)]; exact h0
    exact this
  have e2 : sub (s.take 7) 1 7 = some ((s.drop 1).take 6) := by
    have := sub_nat (s.take 7) 1 7 (by omega) (by omega)
    rw [List.take_take, List.drop_take] at this
    exact this
  unfold wirelessref08_Decode
  rw [if_neg (by rw [decide_eq_true_eq]; omega), e1, Option.bind_some, e2, Option.bind_some, chunk_r F _ (fun x hx => hb x (List.mem_of_mem_drop (List.mem_of_mem_take hx))) (by rw [List.length_take]; omega) (by omega), Option.bind_some, w64_id (x := x0) (by omega) (by omega)]
  unfold wirelessref08_Decode_j1 wirelessref08_Decode_j2
  rw [rcheck F _ (bytes_u64 hb 1 6 (by omega)), Option.bind_some]
  rw [show T_api_Address.mk x0 (num (List.take 6 (List.drop 1 s))) = decA s x0 from rfl]
  by_cases h : chkA (decA s x0) = 0
  · have h3 : sub (s.take 7) 7 (len (s.take 7)) = some [] := by
      have := sub_nat (s.take 7) 7 7 (by omega) (by omega)
      rw [h7n, h7]
      rw [show (s.take 7).take 7 = s.take 7 by rw [List.take_take]; rfl, List.drop_of_length_le (by omega)] at this
      exact this
    refine ⟨[], ?_⟩
    rw [if_neg (fun e => (bne_iff_ne.1 e) h), if_pos h, h3, Option.bind_some, app_cat (by simp), Option.bind_some]
    rfl
  · refine ⟨[], ?_⟩
    rw [if_pos (bne_iff_ne.2 h), if_neg h]
/-- The subscription at a place of bytes. -/
def subAt (s : List Int) (i : Nat) : T_api_Subscription := T_api_Subscription.mk (wu16 (num ((s.drop (45 + 3 * i)).take 2))) (w64 (num ((s.drop (45 + 3 * i + 2)).take 1)))
def subsOf (s : List Int) (n : Nat) : List T_api_Subscription := (List.range n).map (subAt s)
theorem subsOf_len (s : List Int) (n : Nat) : (subsOf s n).length = n := by simp [subsOf]
theorem subsOf_succ (s : List Int) (n : Nat) : subsOf s (n + 1) = subsOf s n ++ [subAt s n] := by simp [subsOf, List.range_succ]
theorem loop_u (F : Nat) (s : List Int) (c : Nat) (hF : 2000 < F) (hc : c ≤ 255) (hb : ∀ x ∈ s, Byte x) (hl : s.length = 45 + 3 * c) : iter (fun q : List Int × List T_api_Subscription × Int => bonds_Decode_l1 F (c : Int) q.1 q.2.1 q.2.2) F (s.drop 45, [], 0) = some (subsOf s c) := by
  have := iter_count (body := fun q : List Int × List T_api_Subscription × Int => bonds_Decode_l1 F (c : Int) q.1 q.2.1 q.2.2) (fun i => (s.drop (45 + 3 * i), subsOf s i, (i : Int))) c (subsOf s c) (fun i hi => by
    show bonds_Decode_l1 F (c : Int) (s.drop (45 + 3 * i)) (subsOf s i) (i : Int) = _
    unfold bonds_Decode_l1
    have ht := take_ok F (s.drop (45 + 3 * i)) [2, 1] (by simp) (by simp) (by simp; omega) (fun x hx => hb x (List.mem_of_mem_drop hx)) (by rw [List.length_drop]; omega) (by simp [sumN]; omega)
    rw [show sizesI [2, 1] = [2, 1] from rfl] at ht
    rw [if_pos (by rw [decide_eq_true_eq]; omega), ht, Option.bind_some]
    simp only [valsT, sumN, List.drop_drop]
    obtain ⟨p1, hp1⟩ : ∃ p, p = num (List.take 2 (List.drop (45 + 3 * i) s)) := ⟨_, rfl⟩
    obtain ⟨p2, hp2⟩ : ∃ p, p = num (List.take 1 (List.drop (45 + 3 * i + 2) s)) := ⟨_, rfl⟩
    have hsub : subAt s i = T_api_Subscription.mk (wu16 p1) (w64 p2) := by unfold subAt; rw [hp1, hp2]
    rw [← hp1, ← hp2, show idx [p1, p2] 0 = some p1 from rfl, show idx [p1, p2] 1 = some p2 from rfl, Option.bind_some, Option.bind_some, app_small (by rw [subsOf_len]; simp; omega) (by omega), Option.bind_some, wu64_id (by omega) (by omega), subsOf_succ, hsub]
    rfl) (by
    show bonds_Decode_l1 F (c : Int) _ _ (c : Int) = _
    unfold bonds_Decode_l1
    rw [if_neg (by rw [decide_eq_true_eq]; omega)]) F 0 (by omega) (by omega)
  exact this
theorem loop_r (F : Nat) (s : List Int) (c : Nat) (hF : 2000 < F) (hc : c ≤ 255) (hb : ∀ x ∈ s, Byte x) (hl : s.length = 45 + 3 * c) : iter (fun q : List T_api_Subscription × Int => wirelessref40_Decode_l1 F s q.1 q.2) F ([], 45) = some (subsOf s c) := by
  have hn := len_nat s
  have := iter_count (body := fun q : List T_api_Subscription × Int => wirelessref40_Decode_l1 F s q.1 q.2) (fun i => (subsOf s i, ((45 + 3 * i : Nat) : Int))) c (subsOf s c) (fun i hi => by
    show wirelessref40_Decode_l1 F s (subsOf s i) ((45 + 3 * i : Nat) : Int) = _
    unfold wirelessref40_Decode_l1
    have hx : s[45 + 3 * i + 2]? = some s[45 + 3 * i + 2] := List.getElem?_eq_getElem (by omega)
    have h1 := take_one_num hx
    generalize s[45 + 3 * i + 2] = v at hx h1
    have hs := sub_nat s (45 + 3 * i) (45 + 3 * i + 2) (by omega) (by omega)
    rw [List.drop_take, show 45 + 3 * i + 2 - (45 + 3 * i) = 2 by omega] at hs
    rw [if_pos (by rw [decide_eq_true_eq]; omega), w64_id (x := ((45 + 3 * i : Nat) : Int) + 2) (by omega) (by omega), show ((45 + 3 * i : Nat) : Int) + 2 = ((45 + 3 * i + 2 : Nat) : Int) by omega, idx_nat, hx, Option.bind_some, hs, Option.bind_some, chunk_r F _ (fun x hx => hb x (List.mem_of_mem_drop (List.mem_of_mem_take hx))) (by rw [List.length_take]; omega) (by omega), Option.bind_some, app_small (by rw [subsOf_len]; simp; omega) (by omega), Option.bind_some, w64_id (x := ((45 + 3 * i : Nat) : Int) + 3) (by omega) (by omega), show ((45 + 3 * i : Nat) : Int) + 3 = ((45 + 3 * (i + 1) : Nat) : Int) by omega, subsOf_succ]
    unfold subAt
    rw [h1]) (by
    show wirelessref40_Decode_l1 F s _ ((45 + 3 * c : Nat) : Int) = _
    unfold wirelessref40_Decode_l1
    rw [if_neg (by rw [decide_eq_true_eq]; omega)]) F 0 (by omega) (by omega)
  exact this
/-- Both decode. -/
theorem dec_both (F : Nat) (s : List Int) (hF : 2000 < F) (hb : ∀ x ∈ s, Byte x) (hl2 : s.length ≤ 4096) : ∃ r, bonds_Decode F s = some r ∧ wirelessref40_Decode F s = some r ∧ r.1.Subs.length ≤ 255 := by
  have hn := len_nat s
  unfold bonds_Decode wirelessref40_Decode
  by_cases h1 : s.length < 45
  · rw [if_pos (by rw [decide_eq_true_eq]; omega), Option.bind_some, Option.bind_some, if_pos rfl, if_pos rfl]
    exact ⟨_, rfl, rfl, by simp⟩
  have h44 : s[44]? = some s[44] := List.getElem?_eq_getElem (by omega)
  have hb44 := hb _ (List.getElem_mem (show 44 < s.length by omega))
  have n44 := take_one_num h44
  generalize s[44] = c at h44 hb44 n44
  obtain ⟨b0, b1⟩ := hb44
  have e44 : idx s 44 = some c := h44
  have ew : w64 (45 + 3 * c) = 45 + 3 * c := w64_id (by omega) (by omega)
  have ew3 : w64 (3 * w64 c) = 3 * c := by rw [w64_id (x := c) (by omega) (by omega), w64_id (x := 3 * c) (by omega) (by omega)]
  rw [if_neg (by rw [decide_eq_true_eq]; omega), e44]
  simp only [Option.bind_some, ew, ew3]
  by_cases h2 : (s.length : Int) < 45 + 3 * c
  · rw [if_pos (by rw [decide_eq_true_eq]; omega), if_pos (by rw [decide_eq_true_eq]; omega)]
    exact ⟨_, rfl, rfl, by simp⟩
  rw [if_neg (by rw [decide_eq_true_eq]; omega), if_neg (by rw [decide_eq_true_eq]; omega)]
  have h00 : s[0]? = some s[0] := List.getElem?_eq_getElem (by omega)
  generalize s[0] = x0 at h00
  have hsub7 := sub_nat s 7 s.length (by omega) (by omega)
  rw [List.take_length] at hsub7
  have ht := take_ok F (s.drop 7) [8, 8, 8, 1, 8, 4, 1] (by simp) (by simp) (by simp; omega) (fun x hx => hb x (List.mem_of_mem_drop hx)) (by rw [List.length_drop]; omega) (by simp [sumN]; omega)
  rw [show sizesI [8, 8, 8, 1, 8, 4, 1] = [8, 8, 8, 1, 8, 4, 1] from rfl] at ht
  have hs7 : sub s 7 (len s) = some (s.drop 7) := hsub7
  have h31 : s[31]? = some s[31] := List.getElem?_eq_getElem (by omega)
  have n31 := take_one_num h31
  generalize s[31] = d at h31 n31
  have e31 : idx s 31 = some d := h31
  have hvals : ∀ (a0 a1 a2 a3 a4 a5 a6 : Int), idx [a0, a1, a2, a3, a4, a5, a6] 3 = some a3 := fun _ _ _ _ _ _ _ => rfl
  have hd45 : len (s.drop (7 + (8 + (8 + (8 + (1 + (8 + (4 + (1 + 0))))))))) = s.length - 45 := by rw [len_nat, List.length_drop]; omega
  rw [decA_u F s x0 hF hb (by omega) (by omega) h00, hs7, e31]
  simp only [Option.bind_some, ht, valsT, sumN, List.drop_drop, hvals, hd45, show 7 + 8 + 8 + 8 = 31 from rfl, n31]
  by_cases h3 : (s.length : Int) > 45 + 3 * c
  · rw [if_pos (show decide ((s.length : Int) - 45 > 3 * c) = true by rw [decide_eq_true_eq]; omega), if_pos (show decide (len s > 45 + 3 * c) = true by rw [decide_eq_true_eq]; omega)]
    exact ⟨_, rfl, rfl, by simp⟩
  rw [if_neg (show ¬ decide ((s.length : Int) - 45 > 3 * c) = true by rw [decide_eq_true_eq]; omega), if_neg (show ¬ decide (len s > 45 + 3 * c) = true by rw [decide_eq_true_eq]; omega)]
  simp only [Option.bind_some]
  by_cases h4 : d > 3
  · rw [if_pos (show decide (d > 3) = true by simpa using h4), if_pos (show decide (d > 3) = true by simpa using h4)]
    exact ⟨_, rfl, rfl, by simp⟩
  rw [if_neg (show ¬ decide (d > 3) = true by simpa using h4), if_neg (show ¬ decide (d > 3) = true by simpa using h4)]
  obtain ⟨q, hq⟩ := decA_r F s x0 hF hb (by omega) h00
  have hsub0 := sub_nat s 0 7 (by omega) (by omega)
  rw [List.drop_zero] at hsub0
  have hs0 : sub s 0 7 = some (s.take 7) := hsub0
  rw [hs0, Option.bind_some, hq, Option.bind_some]
  by_cases h5 : chkA (decA s x0) = 0
  · rw [if_pos h5, if_pos h5, if_neg (by simp), if_neg (by simp)]
    have hd := fun (i k : Nat) (h : i + k ≤ s.length) => sub_nat s i (i + k) (by omega) h
    have hv : ∀ (i k : Nat), k ≤ 8 → i + k ≤ s.length → wirelessref02_Value F ((s.take (i + k)).drop i) = some (num ((s.drop i).take k)) := fun i k hk h => by
      rw [List.drop_take, show i + k - i = k by omega]
      exact chunk_r F _ (fun x hx => hb x (List.mem_of_mem_drop (List.mem_of_mem_take hx))) (by rw [List.length_take]; omega) (by omega)
    have t1 : sub s 7 15 = some ((s.take 15).drop 7) := hd 7 8 (by omega)
    have t2 : sub s 15 23 = some ((s.take 23).drop 15) := hd 15 8 (by omega)
    have t3 : sub s 23 31 = some ((s.take 31).drop 23) := hd 23 8 (by omega)
    have t4 : sub s 32 40 = some ((s.take 40).drop 32) := hd 32 8 (by omega)
    have t5 : sub s 40 44 = some ((s.take 44).drop 40) := hd 40 4 (by omega)
    have v1 : wirelessref02_Value F ((s.take 15).drop 7) = some (num ((s.drop 7).take 8)) := hv 7 8 (by omega) (by omega)
    have v2 : wirelessref02_Value F ((s.take 23).drop 15) = some (num ((s.drop 15).take 8)) := hv 15 8 (by omega) (by omega)
    have v3 : wirelessref02_Value F ((s.take 31).drop 23) = some (num ((s.drop 23).take 8)) := hv 23 8 (by omega) (by omega)
    have v4 : wirelessref02_Value F ((s.take 40).drop 32) = some (num ((s.drop 32).take 8)) := hv 32 8 (by omega) (by omega)
    have v5 : wirelessref02_Value F ((s.take 44).drop 40) = some (num ((s.drop 40).take 4)) := hv 40 4 (by omega) (by omega)
    rw [t1, Option.bind_some, t2, Option.bind_some, t3, Option.bind_some, t4, Option.bind_some, t5, Option.bind_some, v1, Option.bind_some, v2, Option.bind_some, v3, Option.bind_some, v4, Option.bind_some, v5, Option.bind_some]
    have i0 : ∀ (a0 a1 a2 a3 a4 a5 a6 : Int), idx [a0, a1, a2, a3, a4, a5, a6] 0 = some a0 := fun _ _ _ _ _ _ _ => rfl
    have i1 : ∀ (a0 a1 a2 a3 a4 a5 a6 : Int), idx [a0, a1, a2, a3, a4, a5, a6] 1 = some a1 := fun _ _ _ _ _ _ _ => rfl
    have i2 : ∀ (a0 a1 a2 a3 a4 a5 a6 : Int), idx [a0, a1, a2, a3, a4, a5, a6] 2 = some a2 := fun _ _ _ _ _ _ _ => rfl
    have i4 : ∀ (a0 a1 a2 a3 a4 a5 a6 : Int), idx [a0, a1, a2, a3, a4, a5, a6] 4 = some a4 := fun _ _ _ _ _ _ _ => rfl
    have i5 : ∀ (a0 a1 a2 a3 a4 a5 a6 : Int), idx [a0, a1, a2, a3, a4, a5, a6] 5 = some a5 := fun _ _ _ _ _ _ _ => rfl
    have i6 : ∀ (a0 a1 a2 a3 a4 a5 a6 : Int), idx [a0, a1, a2, a3, a4, a5, a6] 6 = some a6 := fun _ _ _ _ _ _ _ => rfl
    simp only [i0, i1, i2, i4, i5, Option.bind_some, Nat.reduceAdd]
    unfold bonds_Decode_j1 wirelessref40_Decode_j1
    simp only [i6, Option.bind_some, n44]
    obtain ⟨cn, rfl⟩ := Int.eq_ofNat_of_zero_le b0
    rw [loop_u F s cn hF (by omega) hb (by omega), loop_r F s cn hF (by omega) hb (by omega), Option.bind_some, Option.bind_some]
    unfold bonds_Decode_j2 wirelessref40_Decode_j2
    have hde : decide (d > 1) = decide (d ≥ 2) := by simp only [decide_eq_decide]; omega
    simp only [hde]
    generalize hB : T_api_Bond.mk (T_api_Identity.mk (decA s x0) (num (List.take 8 (List.drop 7 s)))) (num (List.take 8 (List.drop 15 s))) (num (List.take 8 (List.drop 23 s))) (remp d 2 == 1) (num (List.take 8 (List.drop 32 s))) (decide (d ≥ 2)) (subsOf s cn) (w64 (num (List.take 4 (List.drop 40 s)))) = B
    have hBa : U64 B.Peer.Address.Bits := by rw [← hB]; exact bytes_u64 hb 1 6 (by omega)
    have hBs : B.Subs.length ≤ 255 := by rw [← hB]; simp only; rw [subsOf_len]; omega
    rw [check_same F B hBa]
    obtain ⟨e, k1, _⟩ := check_ok F B hF hBa
    rw [k1, Option.bind_some]
    by_cases h6 : e = 0
    · rw [if_neg (by simpa using h6)]
      exact ⟨_, rfl, rfl, hBs⟩
    · rw [if_pos (by simpa using h6)]
      exact ⟨_, rfl, rfl, by simp⟩
  · rw [if_neg h5, if_neg h5, if_pos (by simpa using h5), if_pos (by simpa using h5)]
    exact ⟨_, rfl, rfl, by simp⟩
end V
end Go.Proofs.YtbdhonofhlpdoaaDoor
