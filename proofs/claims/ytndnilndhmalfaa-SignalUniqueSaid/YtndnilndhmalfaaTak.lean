/-
  Taking numbers from bytes: what octets.Take computes.
-/
import Derived.Test.YtndnilndhmalfaaOct
namespace Go.Proofs.Ytndnilndhmalfaa
namespace V
theorem nat_or_add (a b i : Nat) (ha : a < 2 ^ i) : a ||| (b * 2 ^ i) = a + b * 2 ^ i := by
  have h := Nat.shiftLeft_add_eq_or_of_lt ha b
  rw [Nat.shiftLeft_eq] at h
  rw [Nat.or_comm, ← h, Nat.add_comm]
theorem pow256 (i : Nat) : (256 : Int) ^ i = ((2 ^ (8 * i) : Nat) : Int) := by
  rw [Nat.pow_mul, show (2 : Nat) ^ 8 = 256 from by decide]
  exact (congrArg (fun z : Int => z ^ i) (rfl : (256 : Int) = ((256 : Nat) : Int))).trans (Int.natCast_pow 256 i).symm
theorem ior_add (a b : Int) (i : Nat) (hi : i < 8) (h0 : 0 ≤ a) (h1 : a < 256 ^ i) (h2 : Byte b) : ior .u64 a (b * 256 ^ i) = a + b * 256 ^ i := by
  obtain ⟨b0, b1⟩ := h2
  obtain ⟨a, rfl⟩ := Int.eq_ofNat_of_zero_le h0
  obtain ⟨b, rfl⟩ := Int.eq_ofNat_of_zero_le b0
  have hp := pow256 i
  rw [hp] at h1 ⊢
  have ha : a < 2 ^ (8 * i) := by exact_mod_cast h1
  have hb : b < 256 := by omega
  have hle : (2 : Nat) ^ (8 * i) ≤ 2 ^ 56 := Nat.pow_le_pow_right (by decide) (by omega)
  have hbl : b * 2 ^ (8 * i) < 2 ^ 64 := by
    have : b * 2 ^ (8 * i) ≤ 255 * 2 ^ 56 := Nat.mul_le_mul (by omega) hle
    omega
  have hs : a + b * 2 ^ (8 * i) < 2 ^ 64 := by
    have : (b + 1) * 2 ^ (8 * i) ≤ 256 * 2 ^ 56 := Nat.mul_le_mul (by omega) hle
    rw [Nat.add_mul] at this
    omega
  unfold ior
  have e : ((b : Int) * ((2 ^ (8 * i) : Nat) : Int)) = ((b * 2 ^ (8 * i) : Nat) : Int) := by rw [Int.natCast_mul]
  have e2 : (BitVec.ofInt IntKind.u64.bits (a : Int) ||| BitVec.ofInt IntKind.u64.bits ((b : Int) * ((2 ^ (8 * i) : Nat) : Int))).toNat = a + b * 2 ^ (8 * i) := by
    rw [e, BitVec.toNat_or]
    show (BitVec.ofInt 64 (a : Int)).toNat ||| (BitVec.ofInt 64 ((b * 2 ^ (8 * i) : Nat) : Int)).toNat = _
    rw [BitVec.toNat_ofInt, BitVec.toNat_ofInt]
    rw [show (((a : Nat) : Int) % ((2 ^ 64 : Nat) : Int)).toNat = a from by rw [← Int.natCast_emod, Int.toNat_natCast, Nat.mod_eq_of_lt (by omega)]]
    rw [show (((b * 2 ^ (8 * i) : Nat) : Int) % ((2 ^ 64 : Nat) : Int)).toNat = b * 2 ^ (8 * i) from by rw [← Int.natCast_emod, Int.toNat_natCast, Nat.mod_eq_of_lt hbl]]
    exact nat_or_add a b (8 * i) ha
  rw [e2, wrap_u64]
  unfold wu64
  rw [Int.natCast_add, Int.natCast_mul]
  rw [show ((a : Int) + (b : Int) * ((2 ^ (8 * i) : Nat) : Int)) = ((a + b * 2 ^ (8 * i) : Nat) : Int) from by rw [Int.natCast_add, Int.natCast_mul]]
  omega
theorem pow2_nat (i : Nat) : (2 : Int) ^ (8 * i) = ((2 ^ (8 * i) : Nat) : Int) := (congrArg (fun z : Int => z ^ (8 * i)) (rfl : (2 : Int) = ((2 : Nat) : Int))).trans (Int.natCast_pow 2 (8 * i)).symm
theorem shl_le (x i : Nat) (h1 : (x : Int) < 256) (hi : i < 8) : x * 2 ^ (8 * i) ≤ 255 * 2 ^ 56 := by
  have hle : (2 : Nat) ^ (8 * i) ≤ 2 ^ 56 := Nat.pow_le_pow_right (by decide) (by omega)
  exact Nat.mul_le_mul (by omega) hle
theorem wu64_le (q : Nat) (hb : q ≤ 255 * 2 ^ 56) : wu64 (q : Int) = q := by
  rw [wu64_id (by omega) (by omega)]
theorem shl_core (x i : Nat) (hi : i < 8) : ishl .u64 (x : Int) (8 * i) = some (IntKind.u64.wrap ((x : Int) * 2 ^ (8 * i))) := by
  unfold ishl
  rw [if_neg (by omega)]
  have e1 : min (8 * (i : Int)).toNat IntKind.u64.bits = 8 * i := by
    show min (8 * (i : Int)).toNat 64 = 8 * i
    omega
  rw [e1]
theorem shl_bytes {x : Int} (hx : Byte x) (i : Nat) (hi : i < 8) : ishl .u64 (wu64 x) (w64 (8 * i)) = some (x * 256 ^ i) := by
  obtain ⟨h0, h1⟩ := hx
  obtain ⟨x, rfl⟩ := Int.eq_ofNat_of_zero_le h0
  have e1 : w64 (8 * (i : Int)) = 8 * i := w64_id (by omega) (by omega)
  have e2 : wu64 (x : Int) = x := wu64_id (by omega) (by omega)
  have e3 := wu64_le _ (shl_le x i h1 hi)
  rw [Int.natCast_mul, ← pow2_nat] at e3
  have e4 : (256 : Int) ^ i = 2 ^ (8 * i) := (pow256 i).trans (pow2_nat i).symm
  rw [e1, e2, shl_core x i hi, wrap_u64, e3, e4]
theorem tstep0 (F : Nat) (b : List Int) (k i : Nat) (a p : Int) (x : Int) (hc : decide ((i : Int) < (k : Int)) = true) (hx : b[i]? = some x) (hw : w64 ((i : Int) + 1) = ((i + 1 : Nat) : Int)) (hs : ishl .u64 (wu64 x) (w64 (8 * (i : Int))) = some p) (ho : ior .u64 a p = a + p) : octets_Take_l2 F b k a i = some (.next (a + p, ((i + 1 : Nat) : Int))) := by
  unfold octets_Take_l2
  rw [if_pos hc, idx_nat, hx, Option.bind_some, hs, Option.bind_some, ho, hw]
theorem num_take (b : List Int) (i : Nat) (x : Int) (hx : b[i]? = some x) (hlen : (b.take i).length = i) : num (b.take (i + 1)) = num (b.take i) + x * 256 ^ i := by
  rw [List.take_add_one, hx, num_append, hlen, Int.mul_comm x]
  simp only [Option.toList_some, num, Int.mul_zero, Int.add_zero]
theorem take_lt {b : List Int} {i : Nat} (ht : ∀ x ∈ b.take i, Byte x) (hlen : (b.take i).length = i) : num (b.take i) < 256 ^ i := by
  have h := num_lt ht
  rw [hlen] at h
  exact h
theorem tstep (F : Nat) (b : List Int) (k i : Nat) (hi8 : i < 8) (hin : i < 9223372036854775807) (hc : decide ((i : Int) < (k : Int)) = true) (x : Int) (hx : b[i]? = some x) (hbx : Byte x) (ht : ∀ x ∈ b.take i, Byte x) (hlen : (b.take i).length = i) : octets_Take_l2 F b k (num (b.take i)) i = some (.next (num (b.take (i + 1)), ((i + 1 : Nat) : Int))) :=
  (tstep0 F b k i (num (b.take i)) (x * 256 ^ i) x hc hx (w64_nat i hin) (shl_bytes hbx i hi8) (ior_add _ _ i hi8 (num_nonneg ht) (take_lt ht hlen) hbx)).trans (by rw [num_take b i x hx hlen])
theorem take_in (F : Nat) (b : List Int) (k : Nat) (hk : k ≤ 8) (hl : k ≤ b.length) (hb : ∀ x ∈ b, Byte x) (hF : 9 < F) : iter (fun s => octets_Take_l2 F b k s.1 s.2) F (0, 0) = some (num (b.take k)) := by
  have := iter_count (body := fun s : Int × Int => octets_Take_l2 F b k s.1 s.2) (fun i => (num (b.take i), (i : Int))) k (num (b.take k)) (fun i hi => by
    have hil : i < b.length := by omega
    exact tstep F b k i (by omega) (by omega) (decide_eq_true (by omega)) b[i] (List.getElem?_eq_getElem hil) (hb _ (List.getElem_mem hil)) (fun x hx => hb x (List.mem_of_mem_take hx)) (by simp; omega)) (by
    show octets_Take_l2 F b k _ _ = _
    unfold octets_Take_l2
    rw [if_neg (by simp)]) F 0 (by omega) (by omega)
  exact this
/-- The numbers of these sizes. -/
def valsT : List Int → List Nat → List Int
  | _, [] => []
  | b, k :: ks => num (b.take k) :: valsT (b.drop k) ks
def sizesI (ks : List Nat) : List Int := ks.map fun (k : Nat) => (k : Int)
def sumN : List Nat → Nat
  | [] => 0
  | k :: ks => k + sumN ks
theorem sumN_append : ∀ a b, sumN (a ++ b) = sumN a + sumN b
  | [], b => by simp [sumN]
  | x :: a, b => by simp [sumN, sumN_append a b]; omega
theorem valsT_len : ∀ (ks : List Nat) (b : List Int), (valsT b ks).length = ks.length
  | [], _ => rfl
  | k :: ks, b => by simp [valsT, valsT_len ks]
theorem valsT_append : ∀ (a c : List Nat) (b : List Int), valsT b (a ++ c) = valsT b a ++ valsT (b.drop (sumN a)) c
  | [], c, b => by simp [valsT, sumN]
  | k :: a, c, b => by simp [valsT, sumN, valsT_append a c, List.drop_drop]
theorem sumN_le {ks : List Nat} (h : ∀ k ∈ ks, 1 ≤ k ∧ k ≤ 8) : sumN ks ≤ 8 * ks.length := by
  induction ks with
  | nil => simp [sumN]
  | cons k ks ih =>
    have h1 := h k (by simp)
    have h2 := ih fun k hk => h k (by simp [hk])
    simp [sumN]; omega
theorem take_sum (F : Nat) (ks : List Nat) (h : ∀ k ∈ ks, 1 ≤ k ∧ k ≤ 8) (hn : ks.length ≤ 1000) (hF : ks.length < F) : iter (fun s => octets_Take_l3 F (sizesI ks) s.1 s.2) F (0, 0) = some (.inl (sumN ks : Int)) := by
  have := iter_count (body := fun s : Int × Int => octets_Take_l3 F (sizesI ks) s.1 s.2) (fun i => ((sumN (ks.take i) : Int), (i : Int))) ks.length (.inl (sumN ks : Int)) (by
    intro i hi
    have hx : ks[i]? = some ks[i] := List.getElem?_eq_getElem hi
    have hk := h ks[i] (List.getElem_mem hi)
    have hs := sumN_le (ks := ks.take i) fun k hk => h k (List.mem_of_mem_take hk)
    have hlen : (ks.take i).length ≤ i := by simp; omega
    show octets_Take_l3 F (sizesI ks) (sumN (ks.take i) : Int) i = _
    unfold octets_Take_l3
    rw [if_pos (by simp [len, sizesI]; omega), idx_nat]
    simp only [sizesI, List.getElem?_map, hx, Option.map_some, Option.bind_some, octets_sized]
    rw [if_neg (by simp; omega), w64_nat i (by omega), w64_id (by omega) (by omega), List.take_add_one, hx, sumN_append]
    simp [sumN]) (by
    show octets_Take_l3 F (sizesI ks) _ _ = _
    unfold octets_Take_l3
    rw [if_neg (by simp [len, sizesI]), List.take_length]) F 0 (by omega) (by omega)
  simpa [sumN] using this
theorem take_ok (F : Nat) (b : List Int) (ks : List Nat) (h : ∀ k ∈ ks, 1 ≤ k ∧ k ≤ 8) (hn : ks.length ≤ 1000) (hF : ks.length + 9 < F) (hb : ∀ x ∈ b, Byte x) (hbl : b.length ≤ 140737488355328) (hl : sumN ks ≤ b.length) : octets_Take F b (sizesI ks) = some (valsT b ks, b.drop (sumN ks), 0) := by
  unfold octets_Take
  rw [take_sum F ks h hn (by omega)]
  simp only [Option.bind_some, octets_Take_j1]
  rw [if_neg (by simp [len]; omega)]
  have := iter_count (body := fun s : List Int × List Int × Int => octets_Take_l1 F (sizesI ks) s.1 s.2.1 s.2.2) (fun i => (b.drop (sumN (ks.take i)), valsT b (ks.take i), (i : Int))) ks.length (b.drop (sumN ks), valsT b ks) (by
    intro i hi
    have hx : ks[i]? = some ks[i] := List.getElem?_eq_getElem hi
    have hk := h ks[i] (List.getElem_mem hi)
    have hsum : sumN (ks.take i) + ks[i] ≤ sumN ks := by
      have e1 : sumN (ks.take (i + 1)) = sumN (ks.take i) + ks[i] := by rw [List.take_add_one, hx, sumN_append]; simp [sumN]
      have e2 : sumN ks = sumN (ks.take (i + 1)) + sumN (ks.drop (i + 1)) := by rw [← sumN_append, List.take_append_drop]
      omega
    have hlen : (ks.take i).length ≤ i := by simp; omega
    show octets_Take_l1 F (sizesI ks) (b.drop (sumN (ks.take i))) (valsT b (ks.take i)) i = _
    unfold octets_Take_l1
    rw [if_pos (by simp [len, sizesI]; omega), idx_nat]
    simp only [sizesI, List.getElem?_map, hx, Option.map_some, Option.bind_some]
    rw [take_in F (b.drop (sumN (ks.take i))) ks[i] hk.2 (by simp; omega) (fun x hx => hb x (List.mem_of_mem_drop hx)) (by omega)]
    simp only [Option.bind_some, octets_Take_j4]
    rw [app_small (by rw [valsT_len]; simp; omega) (by decide)]
    simp only [Option.bind_some]
    have hs := sub_nat (b.drop (sumN (ks.take i))) ks[i] (b.drop (sumN (ks.take i))).length (by simp; omega) (by omega)
    rw [len_nat, hs]
    simp only [Option.bind_some, octets_Take_j3, List.take_length, List.drop_drop]
    rw [w64_nat i (by omega), List.take_add_one, hx, sumN_append, valsT_append]
    simp [sumN, valsT]) (by
    show octets_Take_l1 F (sizesI ks) _ _ _ = _
    unfold octets_Take_l1
    rw [if_neg (by simp [len, sizesI]), List.take_length]) F 0 (by omega) (by omega)
  simp only [List.take_zero, sumN, List.drop_zero, valsT] at this
  have h0 : ((0 : Nat) : Int) = 0 := rfl
  rw [h0] at this
  rw [this]
  simp only [Option.bind_some, octets_Take_j2]
  rw [join_one F _ (by omega) (by simp; omega)]
  rfl
theorem take_short (F : Nat) (b : List Int) (ks : List Nat) (h : ∀ k ∈ ks, 1 ≤ k ∧ k ≤ 8) (hn : ks.length ≤ 1000) (hF : ks.length + 9 < F) (hl : b.length < sumN ks) : octets_Take F b (sizesI ks) = some ([], [], 3) := by
  unfold octets_Take
  rw [take_sum F ks h hn (by omega)]
  simp only [Option.bind_some, octets_Take_j1]
  rw [if_pos (by simp [len]; omega)]
end V
end Go.Proofs.Ytndnilndhmalfaa
