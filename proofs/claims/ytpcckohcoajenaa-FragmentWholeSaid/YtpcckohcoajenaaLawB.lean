/-
  Frames: split.
-/
import Derived.Test.YtpcckohcoajenaaLawA
namespace Go.Proofs.Ytpcckohcoajenaa
namespace V
def pkt (m : Nat) (b : List Int) (i : Nat) : T_api_Packet := ⟨if i = 0 then 2 else 1, (b.drop (i * m)).take m⟩
def pkts (m : Nat) (b : List Int) (n : Nat) : List T_api_Packet := (List.range n).map (pkt m b)
def nP (m : Nat) (b : List Int) : Nat := (b.length + m - 1) / m
theorem pkts_succ (m : Nat) (b : List Int) (n : Nat) : pkts m b (n + 1) = pkts m b n ++ [pkt m b n] := by simp [pkts, List.range_succ]
theorem pkts_len (m : Nat) (b : List Int) (n : Nat) : (pkts m b n).length = n := by simp [pkts]
theorem pkts_get {m : Nat} {b : List Int} {n i : Nat} (h : i < n) : (pkts m b n)[i]? = some (pkt m b i) := by simp [pkts, h]
theorem nP_lt {m : Nat} {b : List Int} (hm : 1 ≤ m) {i : Nat} (h : i < nP m b) : i * m < b.length := by
  have h1 : i + 1 ≤ (b.length + m - 1) / m := h
  rw [Nat.le_div_iff_mul_le (by omega), Nat.succ_mul] at h1
  omega
theorem nP_ge {m : Nat} {b : List Int} (hm : 1 ≤ m) : b.length ≤ nP m b * m := by
  have h1 : ¬ (nP m b + 1 ≤ (b.length + m - 1) / m) := by unfold nP; omega
  rw [Nat.le_div_iff_mul_le (by omega), Nat.succ_mul] at h1
  omega
theorem nP_le {m : Nat} {b : List Int} (hm : 1 ≤ m) : nP m b ≤ b.length := by
  rcases Nat.lt_or_ge b.length (nP m b) with h | h
  · have := nP_lt hm h
    have h2 : b.length * 1 ≤ b.length * m := Nat.mul_le_mul_left _ hm
    omega
  · exact h
theorem imin_nat (a b : Nat) : imin (a : Int) (b : Int) = ((min a b : Nat) : Int) := by
  unfold imin
  split <;> omega
theorem take_min {α : Type} (l : List α) (m : Nat) : l.take (min m l.length) = l.take m := by
  rw [List.take_eq_take_iff]
  omega
theorem drop_min {α : Type} (l : List α) (m : Nat) : l.drop (min m l.length) = l.drop m := by
  rcases Nat.lt_or_ge m l.length with h | h
  · rw [Nat.min_eq_left (Nat.le_of_lt h)]
  · rw [Nat.min_eq_right h, List.drop_length, List.drop_eq_nil_of_le h]
theorem split_b (F : Nat) (m : Nat) (b : List Int) (j : Nat) (hF : 2 < F) (hm : m ≤ 251) (hj : j ≤ 1000000) : fragment_Split_b F (pkts m b j) (j : Int) ((b.drop (j * m)).take m) = some (pkts m b (j + 1)) := by
  unfold fragment_Split_b
  rw [join_one F _ (by omega) (by simp; omega), Option.bind_some]
  have ha : ∀ k, fragment_Split_bj13 F (pkts m b j) ((b.drop (j * m)).take m) k = some (pkts m b j ++ [⟨k, (b.drop (j * m)).take m⟩]) := fun k => by
    unfold fragment_Split_bj13
    rw [app_small (by rw [pkts_len]; simp; omega) (by omega)]
    rfl
  rw [pkts_succ]
  unfold pkt
  by_cases h0 : j = 0
  · rw [if_pos (show ((j : Int) == 0) = true from by simp [h0]), ha, if_pos h0]
  · rw [if_neg (show ¬ ((j : Int) == 0) = true from by simp [h0]), ha, if_neg h0]
theorem split_it (F m : Nat) (b : List Int) (x : Int) (h1 : 1 ≤ m) (h2 : m ≤ 251) (hl : b.length ≤ 1000000) (hF : b.length + 3 < F) : fragment_Split_it F (m : Int) (b, x) = some (pkts m b (nP m b)) := by
  have hn := nP_le (b := b) h1
  unfold fragment_Split_it
  have := iter_count (body := fun s : List T_api_Packet × List Int × Int => fragment_Split_it_l1 F (m : Int) s.1 s.2.1 s.2.2) (fun j => (pkts m b j, b.drop (j * m), (j : Int))) (nP m b) (pkts m b (nP m b)) (fun j hj => by
    have hlt := nP_lt h1 hj
    show fragment_Split_it_l1 F (m : Int) (pkts m b j) (b.drop (j * m)) (j : Int) = _
    unfold fragment_Split_it_l1
    have hlen : (b.drop (j * m)).length = b.length - j * m := by simp
    rw [if_pos (dt (show len (b.drop (j * m)) > 0 from by rw [len_nat, hlen]; omega)), len_nat, imin_nat]
    have e1 : sub (b.drop (j * m)) 0 ((min m (b.drop (j * m)).length : Nat) : Int) = some ((b.drop (j * m)).take m) := by
      rw [show (0 : Int) = ((0 : Nat) : Int) from rfl, sub_nat _ 0 _ (by omega) (by omega), List.drop_zero, take_min]
    have e2 : sub (b.drop (j * m)) ((min m (b.drop (j * m)).length : Nat) : Int) ((b.drop (j * m)).length : Int) = some (b.drop ((j + 1) * m)) := by
      rw [sub_nat _ _ _ (by omega) (by omega), List.take_length, drop_min, List.drop_drop, Nat.succ_mul]
    rw [e1, Option.bind_some, split_b F m b j (by omega) h2 (by omega), Option.bind_some, e2, Option.bind_some, w64_nat j (by omega)]) (by
    show fragment_Split_it_l1 F (m : Int) (pkts m b (nP m b)) (b.drop (nP m b * m)) _ = _
    unfold fragment_Split_it_l1
    have := nP_ge (b := b) h1
    rw [if_neg (df (show ¬ len (b.drop (nP m b * m)) > 0 from by rw [len_nat, List.length_drop]; omega))]) F 0 (by omega) (by omega)
  have h0 : (pkts m b 0, b.drop (0 * m), ((0 : Nat) : Int)) = (([] : List T_api_Packet), b, (0 : Int)) := by simp [pkts]
  rw [h0] at this
  rw [this]
  rfl
theorem rsplit_it (F m : Nat) (b : List Int) (x : Int) (h1 : 1 ≤ m) (h2 : m ≤ 251) (hl : b.length ≤ 1000000) (hF : b.length + 3 < F) : iter (fun s => wirelessref32_Split_l1 F (m : Int) (b, x) s.1 s.2) F ([], 0) = some (pkts m b (nP m b)) := by
  have hn := nP_le (b := b) h1
  have := iter_count (body := fun s : List T_api_Packet × Int => wirelessref32_Split_l1 F (m : Int) (b, x) s.1 s.2) (fun j => (pkts m b j, ((j * m : Nat) : Int))) (nP m b) (pkts m b (nP m b)) (fun j hj => by
    have hlt := nP_lt h1 hj
    show wirelessref32_Split_l1 F (m : Int) (b, x) (pkts m b j) ((j * m : Nat) : Int) = _
    unfold wirelessref32_Split_l1
    have e0 : w64 (((j * m : Nat) : Int) + (m : Int)) = (((j + 1) * m : Nat) : Int) := by
      rw [Nat.succ_mul, Int.natCast_add]
      exact w64_id (by omega) (by omega)
    rw [if_pos (dt (show ((j * m : Nat) : Int) < len b from by rw [len_nat]; omega))]
    simp only [e0]
    rw [len_nat, imin_nat]
    have e1 : sub b ((j * m : Nat) : Int) ((min ((j + 1) * m) b.length : Nat) : Int) = some ((b.drop (j * m)).take m) := by
      have ht : (b.drop (j * m)).take (min ((j + 1) * m) b.length - j * m) = (b.drop (j * m)).take m := by
        rw [List.take_eq_take_iff, List.length_drop, Nat.succ_mul]
        omega
      rw [sub_nat _ _ _ (by rw [Nat.succ_mul]; omega) (by omega), List.drop_take, ht]
    have hj2 : ∀ k, wirelessref32_Split_j2 F (m : Int) (pkts m b j) ((j * m : Nat) : Int) ((b.drop (j * m)).take m) k = some (.next (pkts m b j ++ [⟨k, (b.drop (j * m)).take m⟩], (((j + 1) * m : Nat) : Int))) := fun k => by
      unfold wirelessref32_Split_j2
      rw [app_small (by rw [pkts_len]; simp; omega) (by omega), Option.bind_some, e0]
    rw [e1, Option.bind_some, app_cat (by simp; omega), Option.bind_some, List.nil_append, pkts_succ]
    unfold pkt
    by_cases hz : j = 0
    · rw [if_pos (show ((((j * m : Nat) : Int)) == 0) = true from by simp [hz]), hj2, if_pos hz]
    · have : j * m ≠ 0 := Nat.mul_ne_zero hz (by omega)
      rw [if_neg (show ¬ ((((j * m : Nat) : Int)) == 0) = true from by intro e; rw [beq_iff_eq] at e; omega), hj2, if_neg hz]) (by
    show wirelessref32_Split_l1 F (m : Int) (b, x) _ _ = _
    unfold wirelessref32_Split_l1
    have := nP_ge (b := b) h1
    rw [if_neg (df (show ¬ ((nP m b * m : Nat) : Int) < len b from by rw [len_nat]; omega))]) F 0 (by omega) (by omega)
  have h0 : (pkts m b 0, ((0 * m : Nat) : Int)) = (([] : List T_api_Packet), (0 : Int)) := by simp [pkts]
  rw [h0] at this
  exact this
/-- What splitting gives. -/
def spl (f : T_api_Frame) (most : Int) : List T_api_Packet × Int :=
  if (enc f).2 ≠ 0 then ([], (enc f).2)
  else if most < 1 ∨ 251 < most then ([], 5)
  else (pkts most.toNat (enc f).1 (nP most.toNat (enc f).1), 0)
theorem enc_len (f : T_api_Frame) : (enc f).1.length ≤ 65535 := by
  unfold enc
  split
  · simp
  · split
    · simp
    · simp only [bytesOf_len]; omega
theorem split_ok {f : T_api_Frame} (h : FOk f) (most : Int) : fragment_Split FF f most = some (spl f most) := by
  unfold fragment_Split spl
  rw [enc_ok h, Option.bind_some]
  by_cases h0 : (enc f).2 = 0
  · have e1 : ¬ ((enc f).2 != 0) = true := by simpa using h0
    rw [if_neg e1, if_neg (show ¬ (enc f).2 ≠ 0 from fun e => e h0)]
    by_cases h1 : most < 1 ∨ 251 < most
    · have e2 : (decide (most < 1) || decide (most > 251)) = true := by simpa using h1
      rw [if_pos e2, if_pos h1]
    · have e2 : ¬ (decide (most < 1) || decide (most > 251)) = true := by simpa using h1
      rw [if_neg e2, if_neg h1]
      have hl := enc_len f
      have := split_it FF most.toNat (enc f).1 (enc f).2 (by omega) (by omega) (by omega) (by unfold FF; omega)
      rw [show ((most.toNat : Nat) : Int) = most from by omega] at this
      rw [this]
      rfl
  · have e1 : ((enc f).2 != 0) = true := by simpa using h0
    rw [if_pos e1, if_pos h0]
theorem rsplit_ok {f : T_api_Frame} (h : FOk f) (most : Int) : wirelessref32_Split FF f most = some (spl f most) := by
  unfold wirelessref32_Split spl
  rw [renc_ok h, Option.bind_some]
  by_cases h0 : (enc f).2 = 0
  · have e1 : ¬ ((enc f).2 != 0) = true := by simpa using h0
    rw [if_neg e1, if_neg (show ¬ (enc f).2 ≠ 0 from fun e => e h0)]
    by_cases h1 : most < 1 ∨ 251 < most
    · have e2 : (decide (most < 1) || decide (most > 251)) = true := by simpa using h1
      rw [if_pos e2, if_pos h1]
    · have e2 : ¬ (decide (most < 1) || decide (most > 251)) = true := by simpa using h1
      rw [if_neg e2, if_neg h1]
      have hl := enc_len f
      have := rsplit_it FF most.toNat (enc f).1 (enc f).2 (by omega) (by omega) (by omega) (by unfold FF; omega)
      rw [show ((most.toNat : Nat) : Int) = most from by omega] at this
      have this' : iter (fun s : List T_api_Packet × Int => wirelessref32_Split_l1 FF most (enc f) s.1 s.2) FF ([], 0) = some (pkts most.toNat (enc f).1 (nP most.toNat (enc f).1)) := this
      rw [this']
      rfl
  · have e1 : ((enc f).2 != 0) = true := by simpa using h0
    rw [if_pos e1, if_pos h0]
theorem spl_len (f : T_api_Frame) (most : Int) : (spl f most).1.length ≤ 65535 := by
  unfold spl
  split
  · simp
  · split
    · simp
    · simp only [pkts_len]
      have := nP_le (m := most.toNat) (b := (enc f).1) (by omega)
      have := enc_len f
      omega
theorem splits_law (f : T_api_Frame) (most : Int) (h : FOk f) : wirelesslaw32_FragmentSplits FF f most = some true := by
  unfold wirelesslaw32_FragmentSplits
  by_cases hb : decide (len f.Payload > 131072) = true
  · rw [if_pos hb, example_ok]; rfl
  have hl := spl_len f most
  rw [if_neg hb, split_ok h, rsplit_ok h, Option.bind_some, Option.bind_some, if_pos (show ((spl f most).2 == (spl f most).2) = true from by simp), same_packets_refl FF _ (by unfold FF; omega) (by omega)]
  simp only [Option.bind_some, if_true, example_ok]
end V
end Go.Proofs.Ytpcckohcoajenaa
