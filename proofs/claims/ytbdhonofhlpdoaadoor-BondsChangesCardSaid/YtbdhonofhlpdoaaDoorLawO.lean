/-
  Fields and numbers: what octets and the reference compute.
-/
import Derived.Test.YtbdhonofhlpdoaaDoorLawN
namespace Go.Proofs.YtbdhonofhlpdoaaDoor
namespace V
theorem shr_bytes {v : Int} (i : Nat) (hi : i ≤ 8) (_h0 : 0 ≤ v) : ishr .u64 v (w64 (8 * i)) = some (v / 256 ^ i) := by
  rw [w64_id (by omega) (by omega)]
  unfold ishr
  rw [if_neg (by omega)]
  have h1 : min (8 * (i : Int)).toNat IntKind.u64.bits = 8 * i := by
    show min (8 * (i : Int)).toNat 64 = 8 * i
    omega
  rw [h1, show (2 : Int) ^ (8 * i) = 256 ^ i from by rw [Int.pow_mul]; rfl, Int.fdiv_eq_ediv_of_nonneg _ (Int.le_of_lt (pow_pos256 i))]
structure FieldOk (f : T_api_Field) : Prop where
  s0 : 1 ≤ f.Size
  s1 : f.Size ≤ 8
  v0 : 0 ≤ f.Value
  v1 : f.Value < 18446744073709551616
  v2 : f.Value < 256 ^ f.Size.toNat
theorem oput_in (F : Nat) (x : T_api_Field) (hx : FieldOk x) (l : List Int) (hl : l.length ≤ 1000000) (hF : 9 < F) : iter (fun s => octets_Put_l2 F x s.1 s.2) F (l, 0) = some (l ++ leb x.Size.toNat x.Value) := by
  obtain ⟨s0, s1, v0, v1, v2⟩ := hx
  have := iter_count (body := fun s : List Int × Int => octets_Put_l2 F x s.1 s.2) (fun i => (l ++ leb i x.Value, (i : Int))) x.Size.toNat (l ++ leb x.Size.toNat x.Value) (by
    intro i hi
    show octets_Put_l2 F x (l ++ leb i x.Value) i = _
    unfold octets_Put_l2
    rw [if_pos (by simp; omega), shr_bytes i (by omega) v0]
    simp only [Option.bind_some]
    rw [app_cat (by simp [leb_length]; omega)]
    simp only [Option.bind_some]
    rw [w64_nat i (by omega), leb_snoc, List.append_assoc]
    rfl) (by
    show octets_Put_l2 F x _ _ = _
    unfold octets_Put_l2
    rw [if_neg (by simp; omega)]) F 0 (by omega) (by omega)
  simpa [leb] using this
def putAll (fs : List T_api_Field) : List Int := (fs.map fun f => leb f.Size.toNat f.Value).flatten
theorem putAll_len : ∀ {fs : List T_api_Field}, (∀ f ∈ fs, FieldOk f) → (putAll fs).length ≤ 8 * fs.length
  | [], _ => by simp [putAll]
  | f :: fs, h => by
    have h1 := h f (by simp)
    have h2 := putAll_len (fs := fs) fun g hg => h g (by simp [hg])
    obtain ⟨s0, s1, _⟩ := h1
    simp only [putAll, List.map_cons, List.flatten_cons, List.length_append, leb_length, List.length_cons] at h2 ⊢
    omega
theorem oput_ok (F : Nat) (fs : List T_api_Field) (h : ∀ f ∈ fs, FieldOk f) (hn : fs.length ≤ 1000) (hF : fs.length + 9 < F) : octets_Put F fs = some (putAll fs, 0) := by
  unfold octets_Put
  have := iter_count (body := fun s : List Int × Int => octets_Put_l1 F fs s.1 s.2) (fun i => (putAll (fs.take i), (i : Int))) fs.length (.inl (putAll fs)) (by
    intro i hi
    have hx : fs[i]? = some fs[i] := List.getElem?_eq_getElem hi
    have hf := h fs[i] (List.getElem_mem hi)
    have hlen := putAll_len (fs := fs.take i) (fun f hf => h f (List.mem_of_mem_take hf))
    have htl : (fs.take i).length ≤ i := by simp; omega
    show octets_Put_l1 F fs (putAll (fs.take i)) i = _
    unfold octets_Put_l1
    rw [if_pos (by simp [len]; omega), idx_nat, hx]
    simp only [Option.bind_some, octets_sized]
    obtain ⟨s0, s1, v0, v1, v2⟩ := hf
    have hsz : (!(decide (fs[i].Size ≥ 1) && decide (fs[i].Size ≤ 8))) = false := by simp; omega
    rw [hsz]
    simp only [Bool.false_eq_true, if_false]
    have hz : ((if decide (fs[i].Size < 8) = true then (ishr IntKind.u64 fs[i].Value (w64 (8 * fs[i].Size))).bind fun x_16 => some (x_16 != 0) else some false)) = some false := by
      by_cases h8 : fs[i].Size < 8
      · rw [if_pos (by simpa using h8)]
        have := shr_bytes (v := fs[i].Value) fs[i].Size.toNat (by omega) v0
        rw [show ((fs[i].Size.toNat : Nat) : Int) = fs[i].Size from by omega] at this
        rw [this, Int.ediv_eq_zero_of_lt v0 v2]
        rfl
      · rw [if_neg (by simpa using h8)]
    rw [hz]
    simp only [Option.bind_some, Bool.false_eq_true, if_false]
    rw [oput_in F fs[i] ⟨s0, s1, v0, v1, v2⟩ _ (by omega) (by omega)]
    simp only [Option.bind_some, octets_Put_j2]
    rw [w64_nat i (by omega), List.take_add_one, hx]
    simp only [putAll, List.map_append, List.flatten_append, Option.toList_some, List.map_cons, List.map_nil, List.flatten_cons, List.flatten_nil, List.append_nil]) (by
    show octets_Put_l1 F fs _ _ = _
    unfold octets_Put_l1
    rw [if_neg (by simp [len]), List.take_length]) F 0 (by omega) (by omega)
  simp only [List.take_zero] at this
  have h0 : (putAll [], ((0 : Nat) : Int)) = (([] : List Int), (0 : Int)) := rfl
  rw [h0] at this
  rw [this]
  rfl


def I64 (x : Int) : Prop := 0 ≤ x ∧ x < 18446744073709551616
theorem num_rng {l : List Int} (hb : ∀ x ∈ l, Byte x) (hl : l.length ≤ 8) : I64 (num l) := by
  have h1 := num_lt hb
  have h2 : (256 : Int) ^ l.length ≤ 256 ^ 8 := by
    have h2 : (256 : Nat) ^ l.length ≤ 256 ^ 8 := Nat.pow_le_pow_right (by decide) hl
    have h3 : ((256 ^ l.length : Nat) : Int) ≤ ((256 ^ 8 : Nat) : Int) := Int.ofNat_le.2 h2
    rw [Int.natCast_pow, Int.natCast_pow] at h3
    exact h3
  rw [show (256 : Int) ^ 8 = 18446744073709551616 from rfl] at h2
  exact ⟨num_nonneg hb, by omega⟩
theorem chunk_r (F : Nat) (l : List Int) (hb : ∀ x ∈ l, Byte x) (hl : l.length ≤ 8) (hF : 8 < F) : wirelessref02_Value F l = some (num l) := by
  unfold wirelessref02_Value
  have := iter_count (body := fun s : Int × Int => wirelessref02_Value_l1 F l s.1 s.2) (fun j => (num (l.drop (l.length - j)), ((l.length - j : Nat) : Int) - 1)) l.length (num l) (by
    intro j hj
    have hi : l.length - j - 1 < l.length := by omega
    have hx : l[l.length - j - 1]? = some l[l.length - j - 1] := List.getElem?_eq_getElem hi
    have hdr : l.drop (l.length - j - 1) = l[l.length - j - 1] :: l.drop (l.length - j - 1 + 1) := List.drop_eq_getElem_cons hi
    have hby := hb _ (List.getElem_mem hi)
    generalize l[l.length - j - 1] = x at hx hdr hby
    have hn := num_rng (l := l.drop (l.length - j - 1)) (fun y hy => hb y (List.mem_of_mem_drop hy)) (by rw [List.length_drop]; omega)
    have hn2 := num_nonneg (l := l.drop (l.length - j)) (fun y hy => hb y (List.mem_of_mem_drop hy))
    rw [show l.length - j - 1 + 1 = l.length - j from by omega] at hdr
    rw [hdr, num] at hn
    obtain ⟨hn0, hn1⟩ := hn
    obtain ⟨hb0, hb1⟩ := hby
    show wirelessref02_Value_l1 F l (num (l.drop (l.length - j))) (((l.length - j : Nat) : Int) - 1) = _
    unfold wirelessref02_Value_l1
    rw [if_pos (dt (by omega)), show ((l.length - j : Nat) : Int) - 1 = ((l.length - j - 1 : Nat) : Int) from by omega, idx_nat, hx, Option.bind_some, wu64_id (x := num (l.drop (l.length - j)) * 256) (by omega) (by omega), wu64_id (x := x) (by omega) (by omega), wu64_id (by omega) (by omega), w64_id (by omega) (by omega)]
    rw [show l.length - (j + 1) = l.length - j - 1 from by omega, hdr, num]
    congr 3
    omega) (by
    show wirelessref02_Value_l1 F l _ (((l.length - l.length : Nat) : Int) - 1) = _
    unfold wirelessref02_Value_l1
    rw [if_neg (df (by omega)), Nat.sub_self, List.drop_zero]) F 0 (by omega) (by omega)
  have h0 : num (l.drop (l.length - 0)) = 0 := by rw [Nat.sub_zero, List.drop_length]; rfl
  rw [h0] at this
  rw [len_nat, w64_id (by omega) (by omega)]
  rw [show ((l.length - 0 : Nat) : Int) - 1 = (l.length : Int) - 1 from by omega] at this
  rw [this, Option.bind_some]
  rfl
theorem rnum8_step (F : Nat) (size n i : Int) (l : List Int) (h0 : 0 ≤ n) (h1 : n < 18446744073709551616) (hl : l.length ≤ 1000000) (hi : 0 ≤ i ∧ i < 1000) (hs : i < size) : wirelessref02_Num_l1 F size n l i = some (.next (n / 256, l ++ [n % 256], i + 1)) := by
  unfold wirelessref02_Num_l1
  rw [if_pos (by simpa using hs)]
  simp only [remp, quop, tmod256 h0, tdiv256 h0, wrap_u64]
  rw [wu8_id (by omega) (by omega), app_cat (by simp; omega)]
  simp only [Option.bind_some]
  rw [wu64_id (by omega) (by omega), w64_id (by omega) (by omega)]
theorem rnum_ok (F : Nat) (k : Nat) (n : Int) (hF : 9 < F) (hk : k ≤ 8) (h : I64 n) : wirelessref02_Num F (k : Int) n = some (leb k n) := by
  have key : ∀ (m f : Nat) (n i : Int) (l : List Int), 0 ≤ n → n < 18446744073709551616 → l.length ≤ 1000 - m → m ≤ 8 → 0 ≤ i → i + m = k → m < f → iter (fun s : Int × List Int × Int => wirelessref02_Num_l1 F k s.1 s.2.1 s.2.2) f (n, l, i) = some (l ++ leb m n) := by
    intro m
    induction m with
    | zero =>
      intro f n i l h0 h1 hl hm hi hik hf
      cases f with
      | zero => omega
      | succ f =>
        rw [iter_stop (o := l) (by unfold wirelessref02_Num_l1; rw [if_neg (by simp; omega)])]
        simp [leb]
    | succ m ih =>
      intro f n i l h0 h1 hl hm hi hik hf
      cases f with
      | zero => omega
      | succ f =>
        rw [iter_step (rnum8_step F k n i l h0 h1 (by omega) (by omega) (by omega)), ih f (n / 256) (i + 1) (l ++ [n % 256]) (by omega) (by omega) (by simp; omega) (by omega) (by omega) (by omega) (by omega)]
        simp [leb]
  unfold wirelessref02_Num
  rw [key k F n 0 [] h.1 h.2 (by simp) hk (by omega) (by omega) (by omega), Option.bind_some]
  rfl
theorem tstep0 (F : Nat) (b : List Int) (k i : Nat) (a p : Int) (x : Int) (hc : decide ((i : Int) < (k : Int)) = true) (hx : b[i]? = some x) (hw : w64 ((i : Int) + 1) = ((i + 1 : Nat) : Int)) (hs : ishl .u64 (wu64 x) (w64 (8 * (i : Int))) = some p) (ho : ior .u64 a p = a + p) : octets_Take_l2 F b k a i = some (.next (a + p, ((i + 1 : Nat) : Int))) := by
  unfold octets_Take_l2
  rw [if_pos hc, idx_nat, hx, Option.bind_some, hs, Option.bind_some, ho, hw]
theorem num_take (b : List Int) (i : Nat) (x : Int) (hx : b[i]? = some x) (hlen : (b.take i).length = i) : num (b.take (i + 1)) = num (b.take i) + x * 256 ^ i := by
  rw [List.take_add_one, hx, num_append, hlen, Int.mul_comm x]
  simp only [Option.toList_some, num, Int.mul_zero, Int.add_zero]
theorem take_lt {b : List Int} {i : Nat} (ht : ∀ x ∈ b.take i, Byte x) (hlen : (b.take i).length = i) : num (b.take i) < 256 ^ i := by
  have h := num_lt ht
  rw [hlen] at h
  exact h
theorem tstep (F : Nat) (b : List Int) (k i : Nat) (hi8 : i < 8) (hin : i < 9223372036854775807) (hc : decide ((i : Int) < (k : Int)) = true) (x : Int) (hx : b[i]? = some x) (hbx : Byte x) (ht : ∀ x ∈ b.take i, Byte x) (hlen : (b.take i).length = i) : octets_Take_l2 F b k (num (b.take i)) i = some (.next (num (b.take (i + 1)), ((i + 1 : Nat) : Int))) :=
  (tstep0 F b k i (num (b.take i)) (x * 256 ^ i) x hc hx (w64_nat i hin) (shl_bytes hbx i hi8) (ior_add _ _ i hi8 (num_nonneg ht) (take_lt ht hlen) hbx)).trans (by rw [num_take b i x hx hlen])
theorem take_in (F : Nat) (b : List Int) (k : Nat) (hk : k ≤ 8) (hl : k ≤ b.length) (hb : ∀ x ∈ b, Byte x) (hF : 9 < F) : iter (fun s => octets_Take_l2 F b k s.1 s.2) F (0, 0) = some (num (b.take k)) := by
  have := iter_count (body := fun s : Int × Int => octets_Take_l2 F b k s.1 s.2) (fun i => (num (b.take i), (i : Int))) k (num (b.take k)) (fun i hi => by
    have hil : i < b.length := by omega
    exact tstep F b k i (by omega) (by omega) (decide_eq_true (by omega)) b[i] (List.getElem?_eq_getElem hil) (hb _ (List.getElem_mem hil)) (fun x hx => hb x (List.mem_of_mem_take hx)) (by simp; omega)) (by
    show octets_Take_l2 F b k _ _ = _
    unfold octets_Take_l2
    rw [if_neg (by simp)]) F 0 (by omega) (by omega)
  exact this
/-- The numbers of these sizes. -/
def valsT : List Int → List Nat → List Int
  | _, [] => []
  | b, k :: ks => num (b.take k) :: valsT (b.drop k) ks
def sizesI (ks : List Nat) : List Int := ks.map fun (k : Nat) => (k : Int)
def sumN : List Nat → Nat
  | [] => 0
  | k :: ks => k + sumN ks
theorem sumN_append : ∀ a b, sumN (a ++ b) = sumN a + sumN b
  | [], b => by simp [sumN]
  | x :: a, b => by simp [sumN, sumN_append a b]; omega
theorem valsT_len : ∀ (ks : List Nat) (b : List Int), (valsT b ks).length = ks.length
  | [], _ => rfl
  | k :: ks, b => by simp [valsT, valsT_len ks]
theorem valsT_append : ∀ (a c : List Nat) (b : List Int), valsT b (a ++ c) = valsT b a ++ valsT (b.drop (sumN a)) c
  | [], c, b => by simp [valsT, sumN]
  | k :: a, c, b => by simp [valsT, sumN, valsT_append a c, List.drop_drop]
theorem sumN_le {ks : List Nat} (h : ∀ k ∈ ks, 1 ≤ k ∧ k ≤ 8) : sumN ks ≤ 8 * ks.length := by
  induction ks with
  | nil => simp [sumN]
  | cons k ks ih =>
    have h1 := h k (by simp)
    have h2 := ih fun k hk => h k (by simp [hk])
    simp [sumN]; omega
theorem take_sum (F : Nat) (ks : List Nat) (h : ∀ k ∈ ks, 1 ≤ k ∧ k ≤ 8) (hn : ks.length ≤ 1000) (hF : ks.length < F) : iter (fun s => octets_Take_l3 F (sizesI ks) s.1 s.2) F (0, 0) = some (.inl (sumN ks : Int)) := by
  have := iter_count (body := fun s : Int × Int => octets_Take_l3 F (sizesI ks) s.1 s.2) (fun i => ((sumN (ks.take i) : Int), (i : Int))) ks.length (.inl (sumN ks : Int)) (by
    intro i hi
    have hx : ks[i]? = some ks[i] := List.getElem?_eq_getElem hi
    have hk := h ks[i] (List.getElem_mem hi)
    have hs := sumN_le (ks := ks.take i) fun k hk => h k (List.mem_of_mem_take hk)
    have hlen : (ks.take i).length ≤ i := by simp; omega
    show octets_Take_l3 F (sizesI ks) (sumN (ks.take i) : Int) i = _
    unfold octets_Take_l3
    rw [if_pos (by simp [len, sizesI]; omega), idx_nat]
    simp only [sizesI, List.getElem?_map, hx, Option.map_some, Option.bind_some, octets_sized]
    rw [if_neg (by simp; omega), w64_nat i (by omega), w64_id (by omega) (by omega), List.take_add_one, hx, sumN_append]
    simp [sumN]) (by
    show octets_Take_l3 F (sizesI ks) _ _ = _
    unfold octets_Take_l3
    rw [if_neg (by simp [len, sizesI]), List.take_length]) F 0 (by omega) (by omega)
  simpa [sumN] using this
theorem take_ok (F : Nat) (b : List Int) (ks : List Nat) (h : ∀ k ∈ ks, 1 ≤ k ∧ k ≤ 8) (hn : ks.length ≤ 1000) (hF : ks.length + 9 < F) (hb : ∀ x ∈ b, Byte x) (hbl : b.length ≤ 140737488355328) (hl : sumN ks ≤ b.length) : octets_Take F b (sizesI ks) = some (valsT b ks, b.drop (sumN ks), 0) := by
  unfold octets_Take
  rw [take_sum F ks h hn (by omega)]
  simp only [Option.bind_some, octets_Take_j1]
  rw [if_neg (by simp [len]; omega)]
  have := iter_count (body := fun s : List Int × List Int × Int => octets_Take_l1 F (sizesI ks) s.1 s.2.1 s.2.2) (fun i => (b.drop (sumN (ks.take i)), valsT b (ks.take i), (i : Int))) ks.length (b.drop (sumN ks), valsT b ks) (by
    intro i hi
    have hx : ks[i]? = some ks[i] := List.getElem?_eq_getElem hi
    have hk := h ks[i] (List.getElem_mem hi)
    have hsum : sumN (ks.take i) + ks[i] ≤ sumN ks := by
      have e1 : sumN (ks.take (i + 1)) = sumN (ks.take i) + ks[i] := by rw [List.take_add_one, hx, sumN_append]; simp [sumN]
      have e2 : sumN ks = sumN (ks.take (i + 1)) + sumN (ks.drop (i + 1)) := by rw [← sumN_append, List.take_append_drop]
      omega
    have hlen : (ks.take i).length ≤ i := by simp; omega
    show octets_Take_l1 F (sizesI ks) (b.drop (sumN (ks.take i))) (valsT b (ks.take i)) i = _
    unfold octets_Take_l1
    rw [if_pos (by simp [len, sizesI]; omega), idx_nat]
    simp only [sizesI, List.getElem?_map, hx, Option.map_some, Option.bind_some]
    rw [take_in F (b.drop (sumN (ks.take i))) ks[i] hk.2 (by simp; omega) (fun x hx => hb x (List.mem_of_mem_drop hx)) (by omega)]
    simp only [Option.bind_some, octets_Take_j4]
    rw [app_small (by rw [valsT_len]; simp; omega) (by decide)]
    simp only [Option.bind_some]
    have hs := sub_nat (b.drop (sumN (ks.take i))) ks[i] (b.drop (sumN (ks.take i))).length (by simp; omega) (by omega)
    rw [len_nat, hs]
    simp only [Option.bind_some, octets_Take_j3, List.take_length, List.drop_drop]
    rw [w64_nat i (by omega), List.take_add_one, hx, sumN_append, valsT_append]
    simp [sumN, valsT]) (by
    show octets_Take_l1 F (sizesI ks) _ _ _ = _
    unfold octets_Take_l1
    rw [if_neg (by simp [len, sizesI]), List.take_length]) F 0 (by omega) (by omega)
  simp only [List.take_zero, sumN, List.drop_zero, valsT] at this
  have h0 : ((0 : Nat) : Int) = 0 := rfl
  rw [h0] at this
  rw [this]
  simp only [Option.bind_some, octets_Take_j2]
  rw [join_one F _ (by omega) (by simp; omega)]
  rfl
theorem take_short (F : Nat) (b : List Int) (ks : List Nat) (h : ∀ k ∈ ks, 1 ≤ k ∧ k ≤ 8) (hn : ks.length ≤ 1000) (hF : ks.length + 9 < F) (hl : b.length < sumN ks) : octets_Take F b (sizesI ks) = some ([], [], 3) := by
  unfold octets_Take
  rw [take_sum F ks h hn (by omega)]
  simp only [Option.bind_some, octets_Take_j1]
  rw [if_pos (by simp [len]; omega)]
end V
end Go.Proofs.YtbdhonofhlpdoaaDoor
